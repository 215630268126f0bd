/- All functions of this claim. -/
import Derived.Test.YtiegpijhkhopgaaVFnExactSetLeastp0
import Derived.Test.YtiegpijhkhopgaaVFnExactSetLeastp1
import Derived.Test.YtiegpijhkhopgaaVFnExactSetLeastp2
import Derived.Test.YtiegpijhkhopgaaVFnExactSetLeastp3
