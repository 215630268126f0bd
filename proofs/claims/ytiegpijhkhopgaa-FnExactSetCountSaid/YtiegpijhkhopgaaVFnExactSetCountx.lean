/- All functions of this claim. -/
import Derived.Test.YtiegpijhkhopgaaVFnExactSetCountp0
import Derived.Test.YtiegpijhkhopgaaVFnExactSetCountp1
import Derived.Test.YtiegpijhkhopgaaVFnExactSetCountp2
