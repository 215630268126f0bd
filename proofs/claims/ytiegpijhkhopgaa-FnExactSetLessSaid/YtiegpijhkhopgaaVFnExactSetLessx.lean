/- All functions of this claim. -/
import Derived.Test.YtiegpijhkhopgaaVFnExactSetLessp0
import Derived.Test.YtiegpijhkhopgaaVFnExactSetLessp1
import Derived.Test.YtiegpijhkhopgaaVFnExactSetLessp2
import Derived.Test.YtiegpijhkhopgaaVFnExactSetLessp3
