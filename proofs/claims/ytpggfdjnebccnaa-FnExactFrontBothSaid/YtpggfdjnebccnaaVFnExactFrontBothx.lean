/- All functions of this claim. -/
import Derived.Test.YtpggfdjnebccnaaVFnExactFrontBothp0
import Derived.Test.YtpggfdjnebccnaaVFnExactFrontBothp1
import Derived.Test.YtpggfdjnebccnaaVFnExactFrontBothp2
import Derived.Test.YtpggfdjnebccnaaVFnExactFrontBothp3
import Derived.Test.YtpggfdjnebccnaaVFnExactFrontBothp4
