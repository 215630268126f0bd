/- All functions of this claim. -/
import Derived.Test.YtjlkffmdmifahaaVFnExactBatchOfp0
import Derived.Test.YtjlkffmdmifahaaVFnExactBatchOfp1
import Derived.Test.YtjlkffmdmifahaaVFnExactBatchOfp2
import Derived.Test.YtjlkffmdmifahaaVFnExactBatchOfp3
import Derived.Test.YtjlkffmdmifahaaVFnExactBatchOfp4
