/- All functions of this claim. -/
import Derived.Test.YtjgfjhilmahkbaaVFnExactSetOkp0
import Derived.Test.YtjgfjhilmahkbaaVFnExactSetOkp1
import Derived.Test.YtjgfjhilmahkbaaVFnExactSetOkp2
