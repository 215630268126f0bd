/- All functions of this claim. -/
import Derived.Test.YtjlkffmdmifahaaVFnBatchTwicep0
import Derived.Test.YtjlkffmdmifahaaVFnBatchTwicep1
import Derived.Test.YtjlkffmdmifahaaVFnBatchTwicep2
import Derived.Test.YtjlkffmdmifahaaVFnBatchTwicep3
import Derived.Test.YtjlkffmdmifahaaVFnBatchTwicep4
