/- All functions of this claim. -/
import Derived.Test.YtjlkffmdmifahaaVFnBatchOfp0
import Derived.Test.YtjlkffmdmifahaaVFnBatchOfp1
import Derived.Test.YtjlkffmdmifahaaVFnBatchOfp2
import Derived.Test.YtjlkffmdmifahaaVFnBatchOfp3
import Derived.Test.YtjlkffmdmifahaaVFnBatchOfp4
