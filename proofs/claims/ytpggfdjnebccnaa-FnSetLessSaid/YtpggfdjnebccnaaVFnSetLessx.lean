/- All functions of this claim. -/
import Derived.Test.YtpggfdjnebccnaaVFnSetLessp0
import Derived.Test.YtpggfdjnebccnaaVFnSetLessp1
import Derived.Test.YtpggfdjnebccnaaVFnSetLessp2
import Derived.Test.YtpggfdjnebccnaaVFnSetLessp3
import Derived.Test.YtpggfdjnebccnaaVFnSetLessp4
import Derived.Test.YtpggfdjnebccnaaVFnSetLessp5
import Derived.Test.YtpggfdjnebccnaaVFnSetLessp6
