/- All functions of this claim. -/
import Derived.Test.YtjlkffmdmifahaaVFnBatchOrderp0
import Derived.Test.YtjlkffmdmifahaaVFnBatchOrderp1
import Derived.Test.YtjlkffmdmifahaaVFnBatchOrderp2
import Derived.Test.YtjlkffmdmifahaaVFnBatchOrderp3
