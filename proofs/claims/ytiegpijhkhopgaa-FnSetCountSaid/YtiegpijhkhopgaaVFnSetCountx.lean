/- All functions of this claim. -/
import Derived.Test.YtiegpijhkhopgaaVFnSetCountp0
import Derived.Test.YtiegpijhkhopgaaVFnSetCountp1
import Derived.Test.YtiegpijhkhopgaaVFnSetCountp2
import Derived.Test.YtiegpijhkhopgaaVFnSetCountp3
import Derived.Test.YtiegpijhkhopgaaVFnSetCountp4
import Derived.Test.YtiegpijhkhopgaaVFnSetCountp5
import Derived.Test.YtiegpijhkhopgaaVFnSetCountp6
