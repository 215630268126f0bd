/- The plain law of FnExactTimeMeet. -/
import Derived.Test.YtjgfjhilmahkbaaPFnExactTimeMeetx
import Derived.Test.YtjgfjhilmahkbaaEvP
namespace Go.Proofs.Ytjgfjhilmahkbaa.Pure
open Go.RowKit Go.Proofs.Ytjgfjhilmahkbaa.PFnExactTimeMeet Go.Proofs.YtjgfjhilmahkbaaW.PrintWords Go.Proofs.YtjgfjhilmahkbaaW.PrintLast Go.Proofs.YtjgfjhilmahkbaaW.PrintMore Go.Proofs.Ytjgfjhilmahkbaa.EvP
def okT (a b : Int) : Bool := decide (0 ≤ a ∧ a ≤ 7 ∧ 0 ≤ b ∧ b ≤ 7)
theorem s_ok (a b : Int) : spec_TimeOk.f a b = some (okT a b) := by
  unfold spec_TimeOk.f spec_l6In.f okT
  by_cases h0 : 0 ≤ a <;> by_cases h1 : a ≤ 7 <;> by_cases h2 : 0 ≤ b <;> by_cases h3 : b ≤ 7 <;> simp [h0, h1, h2, h3]
theorem i_ok (a b : Int) : impl_TimeOk.f a b = some (okT a b) := by
  unfold impl_TimeOk.f okT
  by_cases h0 : 0 ≤ a <;> by_cases h1 : a ≤ 7 <;> by_cases h2 : 0 ≤ b <;> by_cases h3 : b ≤ 7 <;> simp [h0, h1, h2, h3]

def meT (a b c d : Int) : Int × Int := if okT a b && okT c d then (min a c, min b d) else (0, 0)
theorem s_meet (a b c d : Int) : spec_TimeMeet.f a b c d = some (meT a b c d) := by
  unfold spec_TimeMeet.f meT
  rw [s_ok, s_ok, mn_def, mn_def]
  cases okT a b <;> cases okT c d <;> rfl
theorem i_meet (a b c d : Int) : impl_TimeMeet.f a b c d = some (meT a b c d) := by
  unfold impl_TimeMeet.f meT
  rw [i_ok, i_ok, mn_def, mn_def]
  cases okT a b <;> cases okT c d <;> rfl

theorem FnExactTimeMeet (a b : Int) {P : Prop} (_ : P) (c d : Int) {Q : Prop} (_ : Q) : laws_FnExactTimeMeet.f a b c d = some true := by
  unfold laws_FnExactTimeMeet.f laws_toTime.f laws_eqTime.f
  simp only [Option.bind_some, s_meet, i_meet, if_true]
end Go.Proofs.Ytjgfjhilmahkbaa.Pure
