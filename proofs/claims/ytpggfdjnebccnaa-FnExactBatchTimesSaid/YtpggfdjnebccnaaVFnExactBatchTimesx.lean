/- All functions of this claim. -/
import Derived.Test.YtpggfdjnebccnaaVFnExactBatchTimesp0
import Derived.Test.YtpggfdjnebccnaaVFnExactBatchTimesp1
