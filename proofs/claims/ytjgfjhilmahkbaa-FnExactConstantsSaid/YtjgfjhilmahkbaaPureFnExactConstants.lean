/- The pure part of FnExactConstants. -/
import Derived.Test.YtjgfjhilmahkbaaPFnExactConstantsx1
namespace Go.Proofs.Ytjgfjhilmahkbaa.Pure
open Go.RowKit Go.Proofs.Ytjgfjhilmahkbaa.PFnExactConstants
theorem FnExactConstants : laws_FnExactConstants.Pure := rfl
end Go.Proofs.Ytjgfjhilmahkbaa.Pure
