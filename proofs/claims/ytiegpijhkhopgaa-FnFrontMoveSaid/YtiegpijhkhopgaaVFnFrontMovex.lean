/- All functions of this claim. -/
import Derived.Test.YtiegpijhkhopgaaVFnFrontMovep0
import Derived.Test.YtiegpijhkhopgaaVFnFrontMovep1
import Derived.Test.YtiegpijhkhopgaaVFnFrontMovep2
import Derived.Test.YtiegpijhkhopgaaVFnFrontMovep3
import Derived.Test.YtiegpijhkhopgaaVFnFrontMovep4
import Derived.Test.YtiegpijhkhopgaaVFnFrontMovep5
