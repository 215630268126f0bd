/- The plain law of FnExactTimeLess. -/
import Derived.Test.YtjgfjhilmahkbaaPFnExactTimeLessx
import Derived.Test.YtjgfjhilmahkbaaEvP
namespace Go.Proofs.Ytjgfjhilmahkbaa.Pure
open Go.RowKit Go.Proofs.Ytjgfjhilmahkbaa.PFnExactTimeLess Go.Proofs.YtjgfjhilmahkbaaW.PrintWords Go.Proofs.YtjgfjhilmahkbaaW.PrintLast Go.Proofs.Ytjgfjhilmahkbaa.EvP
/-! what the functions on times say -/
def okT (a b : Int) : Bool := decide (0 ≤ a ∧ a ≤ 7 ∧ 0 ≤ b ∧ b ≤ 7)
def leT (a b c d : Int) : Bool := okT a b && okT c d && decide (a ≤ c ∧ b ≤ d)
theorem okT_true {a b : Int} (h : okT a b = true) : 0 ≤ a ∧ a ≤ 7 ∧ 0 ≤ b ∧ b ≤ 7 := of_decide_eq_true h
theorem leT_true {a b c d : Int} (h : leT a b c d = true) : (0 ≤ a ∧ a ≤ 7 ∧ 0 ≤ b ∧ b ≤ 7) ∧ (0 ≤ c ∧ c ≤ 7 ∧ 0 ≤ d ∧ d ≤ 7) ∧ a ≤ c ∧ b ≤ d := by simpa [leT, okT, and_assoc] using h
theorem leT_mk {a b c d : Int} (h : (0 ≤ a ∧ a ≤ 7 ∧ 0 ≤ b ∧ b ≤ 7) ∧ (0 ≤ c ∧ c ≤ 7 ∧ 0 ≤ d ∧ d ≤ 7) ∧ a ≤ c ∧ b ≤ d) : leT a b c d = true := by simpa [leT, okT, and_assoc] using h
theorem s_ok (a b : Int) : spec_TimeOk.f a b = some (okT a b) := by
  unfold spec_TimeOk.f spec_l6In.f okT
  by_cases h0 : 0 ≤ a <;> by_cases h1 : a ≤ 7 <;> by_cases h2 : 0 ≤ b <;> by_cases h3 : b ≤ 7 <;> simp [h0, h1, h2, h3]
theorem i_ok (a b : Int) : impl_TimeOk.f a b = some (okT a b) := by
  unfold impl_TimeOk.f okT
  by_cases h0 : 0 ≤ a <;> by_cases h1 : a ≤ 7 <;> by_cases h2 : 0 ≤ b <;> by_cases h3 : b ≤ 7 <;> simp [h0, h1, h2, h3]

theorem i_less (a b c d : Int) : impl_TimeLess.f a b c d = some (leT a b c d) := by
  unfold impl_TimeLess.f impl_below.f leT
  rw [i_ok, i_ok]
  cases okT a b <;> cases okT c d <;> by_cases h0 : a ≤ c <;> by_cases h1 : b ≤ d <;> simp [h0, h1]
theorem s_less (a b c d : Int) : spec_TimeLess.f a b c d = some (leT a b c d) := by
  unfold spec_TimeLess.f leT
  rw [s_ok, s_ok]
  cases okT a b <;> cases okT c d <;> by_cases h0 : a ≤ c <;> by_cases h1 : b ≤ d <;> simp [h0, h1]

theorem FnExactTimeLess (a b : Int) {P : Prop} (_ : P) (c d : Int) {Q : Prop} (_ : Q) : laws_FnExactTimeLess.f a b c d = some true := by
  unfold laws_FnExactTimeLess.f laws_toTime.f
  simp only [Option.bind_some, s_less, i_less, bne_self_eq_false]
  rfl
end Go.Proofs.Ytjgfjhilmahkbaa.Pure
