/- All functions of this claim. -/
import Derived.Test.YtiegpijhkhopgaaVFnFrontMoveTwicep0
import Derived.Test.YtiegpijhkhopgaaVFnFrontMoveTwicep1
import Derived.Test.YtiegpijhkhopgaaVFnFrontMoveTwicep2
import Derived.Test.YtiegpijhkhopgaaVFnFrontMoveTwicep3
import Derived.Test.YtiegpijhkhopgaaVFnFrontMoveTwicep4
