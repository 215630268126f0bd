/- All functions of this claim. -/
import Derived.Test.YtiegpijhkhopgaaVFnSetLeastp0
import Derived.Test.YtiegpijhkhopgaaVFnSetLeastp1
import Derived.Test.YtiegpijhkhopgaaVFnSetLeastp2
import Derived.Test.YtiegpijhkhopgaaVFnSetLeastp3
import Derived.Test.YtiegpijhkhopgaaVFnSetLeastp4
import Derived.Test.YtiegpijhkhopgaaVFnSetLeastp5
import Derived.Test.YtiegpijhkhopgaaVFnSetLeastp6
