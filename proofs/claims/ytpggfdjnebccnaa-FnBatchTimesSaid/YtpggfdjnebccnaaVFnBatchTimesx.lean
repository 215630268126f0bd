/- All functions of this claim. -/
import Derived.Test.YtpggfdjnebccnaaVFnBatchTimesp0
import Derived.Test.YtpggfdjnebccnaaVFnBatchTimesp1
import Derived.Test.YtpggfdjnebccnaaVFnBatchTimesp2
import Derived.Test.YtpggfdjnebccnaaVFnBatchTimesp3
