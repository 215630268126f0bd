/- All functions of this claim. -/
import Derived.Test.YtjgfjhilmahkbaaVFnTimeLawsp0
import Derived.Test.YtjgfjhilmahkbaaVFnTimeLawsp1
import Derived.Test.YtjgfjhilmahkbaaVFnTimeLawsp2
