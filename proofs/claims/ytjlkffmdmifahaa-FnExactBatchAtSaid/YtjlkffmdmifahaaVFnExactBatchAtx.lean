/- All functions of this claim. -/
import Derived.Test.YtjlkffmdmifahaaVFnExactBatchAtp0
import Derived.Test.YtjlkffmdmifahaaVFnExactBatchAtp1
import Derived.Test.YtjlkffmdmifahaaVFnExactBatchAtp2
import Derived.Test.YtjlkffmdmifahaaVFnExactBatchAtp3
import Derived.Test.YtjlkffmdmifahaaVFnExactBatchAtp4
