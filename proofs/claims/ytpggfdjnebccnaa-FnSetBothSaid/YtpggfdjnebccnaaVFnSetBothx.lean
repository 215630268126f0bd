/- All functions of this claim. -/
import Derived.Test.YtpggfdjnebccnaaVFnSetBothp0
import Derived.Test.YtpggfdjnebccnaaVFnSetBothp1
import Derived.Test.YtpggfdjnebccnaaVFnSetBothp2
import Derived.Test.YtpggfdjnebccnaaVFnSetBothp3
import Derived.Test.YtpggfdjnebccnaaVFnSetBothp4
import Derived.Test.YtpggfdjnebccnaaVFnSetBothp5
import Derived.Test.YtpggfdjnebccnaaVFnSetBothp6
import Derived.Test.YtpggfdjnebccnaaVFnSetBothp7
