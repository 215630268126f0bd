/- All functions of this claim. -/
import Derived.Test.YtiegpijhkhopgaaVFnExactBatchOkp0
import Derived.Test.YtiegpijhkhopgaaVFnExactBatchOkp1
import Derived.Test.YtiegpijhkhopgaaVFnExactBatchOkp2
