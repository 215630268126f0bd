/- All functions of this claim. -/
import Derived.Test.YtiegpijhkhopgaaVFnFrontCoversp0
import Derived.Test.YtiegpijhkhopgaaVFnFrontCoversp1
import Derived.Test.YtiegpijhkhopgaaVFnFrontCoversp2
import Derived.Test.YtiegpijhkhopgaaVFnFrontCoversp3
import Derived.Test.YtiegpijhkhopgaaVFnFrontCoversp4
