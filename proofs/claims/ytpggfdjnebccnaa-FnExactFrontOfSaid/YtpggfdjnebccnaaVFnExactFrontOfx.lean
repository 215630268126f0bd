/- All functions of this claim. -/
import Derived.Test.YtpggfdjnebccnaaVFnExactFrontOfp0
import Derived.Test.YtpggfdjnebccnaaVFnExactFrontOfp1
import Derived.Test.YtpggfdjnebccnaaVFnExactFrontOfp2
