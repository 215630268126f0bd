/- All functions of this claim. -/
import Derived.Test.YtpggfdjnebccnaaVFnFrontBothp0
import Derived.Test.YtpggfdjnebccnaaVFnFrontBothp1
import Derived.Test.YtpggfdjnebccnaaVFnFrontBothp2
import Derived.Test.YtpggfdjnebccnaaVFnFrontBothp3
import Derived.Test.YtpggfdjnebccnaaVFnFrontBothp4
import Derived.Test.YtpggfdjnebccnaaVFnFrontBothp5
