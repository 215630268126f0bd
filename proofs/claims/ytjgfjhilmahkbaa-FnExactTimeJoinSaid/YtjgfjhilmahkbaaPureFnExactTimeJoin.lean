/- The plain law of FnExactTimeJoin. -/
import Derived.Test.YtjgfjhilmahkbaaPFnExactTimeJoinx
import Derived.Test.YtjgfjhilmahkbaaEvP
namespace Go.Proofs.Ytjgfjhilmahkbaa.Pure
open Go.RowKit Go.Proofs.Ytjgfjhilmahkbaa.PFnExactTimeJoin Go.Proofs.YtjgfjhilmahkbaaW.PrintWords Go.Proofs.YtjgfjhilmahkbaaW.PrintLast Go.Proofs.YtjgfjhilmahkbaaW.PrintMore Go.Proofs.Ytjgfjhilmahkbaa.EvP
def okT (a b : Int) : Bool := decide (0 ≤ a ∧ a ≤ 7 ∧ 0 ≤ b ∧ b ≤ 7)
theorem s_ok (a b : Int) : spec_TimeOk.f a b = some (okT a b) := by
  unfold spec_TimeOk.f spec_l6In.f okT
  by_cases h0 : 0 ≤ a <;> by_cases h1 : a ≤ 7 <;> by_cases h2 : 0 ≤ b <;> by_cases h3 : b ≤ 7 <;> simp [h0, h1, h2, h3]
theorem i_ok (a b : Int) : impl_TimeOk.f a b = some (okT a b) := by
  unfold impl_TimeOk.f okT
  by_cases h0 : 0 ≤ a <;> by_cases h1 : a ≤ 7 <;> by_cases h2 : 0 ≤ b <;> by_cases h3 : b ≤ 7 <;> simp [h0, h1, h2, h3]

def joT (a b c d : Int) : Int × Int := if okT a b && okT c d then (max a c, max b d) else (0, 0)
theorem s_join (a b c d : Int) : spec_TimeJoin.f a b c d = some (joT a b c d) := by
  unfold spec_TimeJoin.f joT
  rw [s_ok, s_ok, mx_def, mx_def]
  cases okT a b <;> cases okT c d <;> rfl
theorem i_join (a b c d : Int) : impl_TimeJoin.f a b c d = some (joT a b c d) := by
  unfold impl_TimeJoin.f joT
  rw [i_ok, i_ok, mx_def, mx_def]
  cases okT a b <;> cases okT c d <;> rfl

theorem FnExactTimeJoin (a b : Int) {P : Prop} (_ : P) (c d : Int) {Q : Prop} (_ : Q) : laws_FnExactTimeJoin.f a b c d = some true := by
  unfold laws_FnExactTimeJoin.f laws_toTime.f laws_eqTime.f
  simp only [Option.bind_some, s_join, i_join, if_true]
end Go.Proofs.Ytjgfjhilmahkbaa.Pure
