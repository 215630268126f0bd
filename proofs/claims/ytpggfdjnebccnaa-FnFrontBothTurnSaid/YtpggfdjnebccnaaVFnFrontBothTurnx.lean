/- All functions of this claim. -/
import Derived.Test.YtpggfdjnebccnaaVFnFrontBothTurnp0
import Derived.Test.YtpggfdjnebccnaaVFnFrontBothTurnp1
import Derived.Test.YtpggfdjnebccnaaVFnFrontBothTurnp2
import Derived.Test.YtpggfdjnebccnaaVFnFrontBothTurnp3
import Derived.Test.YtpggfdjnebccnaaVFnFrontBothTurnp4
