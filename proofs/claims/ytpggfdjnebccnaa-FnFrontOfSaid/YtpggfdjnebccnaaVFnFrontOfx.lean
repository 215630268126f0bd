/- All functions of this claim. -/
import Derived.Test.YtpggfdjnebccnaaVFnFrontOfp0
import Derived.Test.YtpggfdjnebccnaaVFnFrontOfp1
import Derived.Test.YtpggfdjnebccnaaVFnFrontOfp2
import Derived.Test.YtpggfdjnebccnaaVFnFrontOfp3
import Derived.Test.YtpggfdjnebccnaaVFnFrontOfp4
