/- All functions of this claim. -/
import Derived.Test.YtjlkffmdmifahaaVFnExactBatchBothp0
import Derived.Test.YtjlkffmdmifahaaVFnExactBatchBothp1
import Derived.Test.YtjlkffmdmifahaaVFnExactBatchBothp2
import Derived.Test.YtjlkffmdmifahaaVFnExactBatchBothp3
import Derived.Test.YtjlkffmdmifahaaVFnExactBatchBothp4
