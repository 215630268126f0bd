/- All functions of this claim. -/
import Derived.Test.YtjlkffmdmifahaaVFnBatchMovep0
import Derived.Test.YtjlkffmdmifahaaVFnBatchMovep1
import Derived.Test.YtjlkffmdmifahaaVFnBatchMovep2
import Derived.Test.YtjlkffmdmifahaaVFnBatchMovep3
import Derived.Test.YtjlkffmdmifahaaVFnBatchMovep4
import Derived.Test.YtjlkffmdmifahaaVFnBatchMovep5
