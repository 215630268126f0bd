/- All functions of this claim. -/
import Derived.Test.YtjlkffmdmifahaaVFnExactBatchLessp0
import Derived.Test.YtjlkffmdmifahaaVFnExactBatchLessp1
import Derived.Test.YtjlkffmdmifahaaVFnExactBatchLessp2
import Derived.Test.YtjlkffmdmifahaaVFnExactBatchLessp3
import Derived.Test.YtjlkffmdmifahaaVFnExactBatchLessp4
