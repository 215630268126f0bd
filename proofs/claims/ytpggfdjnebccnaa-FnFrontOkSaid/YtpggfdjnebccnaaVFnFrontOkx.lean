/- All functions of this claim. -/
import Derived.Test.YtpggfdjnebccnaaVFnFrontOkp0
import Derived.Test.YtpggfdjnebccnaaVFnFrontOkp1
import Derived.Test.YtpggfdjnebccnaaVFnFrontOkp2
import Derived.Test.YtpggfdjnebccnaaVFnFrontOkp3
import Derived.Test.YtpggfdjnebccnaaVFnFrontOkp4
