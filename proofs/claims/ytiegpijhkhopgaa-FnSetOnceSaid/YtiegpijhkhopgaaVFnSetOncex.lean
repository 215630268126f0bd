/- All functions of this claim. -/
import Derived.Test.YtiegpijhkhopgaaVFnSetOncep0
import Derived.Test.YtiegpijhkhopgaaVFnSetOncep1
import Derived.Test.YtiegpijhkhopgaaVFnSetOncep2
import Derived.Test.YtiegpijhkhopgaaVFnSetOncep3
import Derived.Test.YtiegpijhkhopgaaVFnSetOncep4
import Derived.Test.YtiegpijhkhopgaaVFnSetOncep5
