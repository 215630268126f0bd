/- All functions of this claim. -/
import Derived.Test.YtiegpijhkhopgaaVFnExactSetOncep0
import Derived.Test.YtiegpijhkhopgaaVFnExactSetOncep1
import Derived.Test.YtiegpijhkhopgaaVFnExactSetOncep2
