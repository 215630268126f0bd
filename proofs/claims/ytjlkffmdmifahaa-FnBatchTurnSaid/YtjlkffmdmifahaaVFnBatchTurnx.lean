/- All functions of this claim. -/
import Derived.Test.YtjlkffmdmifahaaVFnBatchTurnp0
import Derived.Test.YtjlkffmdmifahaaVFnBatchTurnp1
import Derived.Test.YtjlkffmdmifahaaVFnBatchTurnp2
import Derived.Test.YtjlkffmdmifahaaVFnBatchTurnp3
import Derived.Test.YtjlkffmdmifahaaVFnBatchTurnp4
