/- All functions of this claim. -/
import Derived.Test.YtiegpijhkhopgaaVFnExactFrontMovep0
import Derived.Test.YtiegpijhkhopgaaVFnExactFrontMovep1
import Derived.Test.YtiegpijhkhopgaaVFnExactFrontMovep2
import Derived.Test.YtiegpijhkhopgaaVFnExactFrontMovep3
