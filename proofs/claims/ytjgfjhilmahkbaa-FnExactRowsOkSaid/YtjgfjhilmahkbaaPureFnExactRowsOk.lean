/- The plain law of FnExactRowsOk. -/
import Derived.Test.YtjgfjhilmahkbaaPFnExactRowsOkx
import Derived.Test.YtjgfjhilmahkbaaEvP
namespace Go.Proofs.Ytjgfjhilmahkbaa.Pure
open Go.RowKit Go.Proofs.Ytjgfjhilmahkbaa.PFnExactRowsOk Go.Proofs.YtjgfjhilmahkbaaW.PrintWords Go.Proofs.YtjgfjhilmahkbaaW.PrintLast Go.Proofs.Ytjgfjhilmahkbaa.EvP
def okT (a b : Int) : Bool := decide (0 ≤ a ∧ a ≤ 7 ∧ 0 ≤ b ∧ b ≤ 7)
theorem s_ok (a b : Int) : spec_TimeOk.f a b = some (okT a b) := by
  unfold spec_TimeOk.f spec_l6In.f okT
  by_cases h0 : 0 ≤ a <;> by_cases h1 : a ≤ 7 <;> by_cases h2 : 0 ≤ b <;> by_cases h3 : b ≤ 7 <;> simp [h0, h1, h2, h3]
theorem i_ok (a b : Int) : impl_TimeOk.f a b = some (okT a b) := by
  unfold impl_TimeOk.f okT
  by_cases h0 : 0 ≤ a <;> by_cases h1 : a ≤ 7 <;> by_cases h2 : 0 ≤ b <;> by_cases h3 : b ≤ 7 <;> simp [h0, h1, h2, h3]

theorem up1 {i n : Nat} (h : i < n) (hn : n ≤ 4611686018427387904) : wrap64 ((i : Int) + 1) = ((i + 1 : Nat) : Int) := by
  rw [w64 (by omega) (by omega)]; rfl

/-! lists of rows -/
abbrev Rw := S75
theorem rdR_drop {xs : List Rw} {i : Nat} (h : i < xs.length) : xs.drop i = rd_T75 xs (i : Int) :: xs.drop (i + 1) := by
  unfold rd_T75
  rw [List.drop_eq_getElem_cons h, List.getD_eq_getElem?_getD, Int.toNat_natCast, List.getElem?_eq_getElem h]
  rfl

/-! the laws' own rows made into the program's -/
abbrev RwA := S78
def cvR (x : RwA) : Rw := ⟨x.f0, x.f1, ⟨x.f2.f0, x.f2.f1⟩, x.f3⟩
theorem rdB_drop {xs : List RwA} {i : Nat} (h : i < xs.length) : xs.drop i = rd_T78 xs (i : Int) :: xs.drop (i + 1) := by
  unfold rd_T78
  rw [List.drop_eq_getElem_cons h, List.getD_eq_getElem?_getD, Int.toNat_natCast, List.getElem?_eq_getElem h]
  rfl
theorem toRowS_loop (l : List RwA) (hl : l.length ≤ 1048576) (d : Nat) : ∀ (i : Nat) (out : List Rw), i + d = l.length → out.length = l.length →
    Ev (fun k => laws_toRowS.l0 k l out (i : Int)) (out.take i ++ (l.drop i).map cvR) := by
  induction d with
  | zero =>
    intro i out hi ho
    refine Ev.step (fun k => by rw [laws_toRowS.l0]) ?_
    refine Ev.congr (fun k => if_neg (by omega)) ?_
    rw [List.take_of_length_le (by omega), List.drop_eq_nil_of_le (by omega)]
    simpa using Ev.now out
  | succ d ih =>
    intro i out hi ho
    have hlt : i < l.length := by omega
    refine Ev.step (fun k => by rw [laws_toRowS.l0]) ?_
    refine Ev.congr (fun k => (if_pos (by omega)).trans (if_pos (by omega))) ?_
    refine Ev.bind (Ev.now _) ?_
    refine Ev.congr (fun k => if_pos (by omega)) ?_
    rw [up1 hlt (by omega)]
    have := ih (i + 1) (out.set i (cvR (rd_T78 l (i : Int)))) (by omega) (by simpa using ho)
    rw [List.take_succ_eq_append_getElem (by simp; omega), List.getElem_set_self, List.take_set_of_le (by omega)] at this
    rw [rdB_drop hlt, List.map_cons]
    simpa [cvR] using this
theorem toRowS_ev (l : List RwA) (hl : l.length ≤ 1048576) : Ev (fun k => laws_toRowS.f k l) (l.map cvR) := by
  unfold laws_toRowS.f
  refine Ev.congr (fun k => (if_pos (by omega)).trans (if_pos (by omega))) ?_
  simpa using toRowS_loop l hl l.length 0 (List.replicate ((l.length : Int)).toNat z75) (by omega) (by simp)
theorem eqRowS_loop (l : List Rw) (hl : l.length ≤ 1048576) (d : Nat) : ∀ i : Nat, i + d = l.length → Ev (fun k => laws_eqRowS.l0 k l l (i : Int)) true := by
  induction d with
  | zero =>
    intro i hi
    refine Ev.step (fun k => by rw [laws_eqRowS.l0]) ?_
    exact Ev.congr (fun k => if_neg (by omega)) (Ev.now _)
  | succ d ih =>
    intro i hi
    refine Ev.step (fun k => by rw [laws_eqRowS.l0]) ?_
    refine Ev.congr (fun k => (if_pos (by omega)).trans ((if_pos (by omega)).trans (if_pos (by omega)))) ?_
    refine Ev.bind (a := true) ⟨0, fun k _ => by simp [laws_eqRow.f, laws_eqTime.f]⟩ (Ev.congr (fun k => if_pos rfl) ?_)
    rw [up1 (by omega : i < l.length) (by omega)]
    exact ih (i + 1) (by omega)
theorem eqRowS_ev (l : List Rw) (hl : l.length ≤ 1048576) : Ev (fun k => laws_eqRowS.f k l l) true := by
  unfold laws_eqRowS.f
  exact Ev.congr (fun k => if_pos rfl) (eqRowS_loop l hl l.length 0 (by omega))
theorem szRowS_big (l : List RwA) (a : Int) (hm : l.length ≤ maxLen) (h0 : 0 ≤ a) (h : a < l.length) : laws_szRowS.f l a = some (-1) := by
  unfold maxLen at hm
  unfold laws_szRowS.f
  rw [w64 (by omega) (by omega), if_pos (by omega)]
theorem szRowS_small (l : List RwA) (a : Int) (ha : a ≤ 1048576) (h : (l.length : Int) ≤ a) : laws_szRowS.f l a = some (a - (l.length : Int)) := by
  unfold laws_szRowS.f
  rw [w64 (by omega) (by omega), if_neg (by omega)]

def rowOk (r : Rw) : Bool := decide (0 ≤ r.f0 ∧ r.f0 ≤ 3) && (decide (0 ≤ r.f1 ∧ r.f1 ≤ 99) && (okT r.f2.f0 r.f2.f1 && decide (-99999 ≤ r.f3 ∧ r.f3 ≤ 99999)))
def rowsOk (l : List Rw) : Bool := decide (l.length ≤ 400) && l.all rowOk
theorem s_in (a b c : Int) : spec_l6In.f a b c = some (decide (b ≤ a ∧ a ≤ c)) := by
  unfold spec_l6In.f
  by_cases h0 : b ≤ a <;> by_cases h1 : a ≤ c <;> simp [h0, h1]
theorem s_l2Row (r : Rw) : spec_l2Row.f r.f0 r.f1 r.f2.f0 r.f2.f1 r.f3 = some (rowOk r) := by
  unfold spec_l2Row.f rowOk
  simp only [s_in, s_ok, Option.bind_some]
  cases decide (0 ≤ r.f0 ∧ r.f0 ≤ 3) <;> cases decide (0 ≤ r.f1 ∧ r.f1 ≤ 99) <;> cases okT r.f2.f0 r.f2.f1 <;> rfl
theorem s_rows_loop (l : List Rw) (hl : l.length ≤ 1048576) (d : Nat) : ∀ i : Nat, i + d = l.length → Ev (fun k => spec_RowsOk.l0 k l (i : Int)) ((l.drop i).all rowOk) := by
  induction d with
  | zero =>
    intro i hi
    rw [List.drop_eq_nil_of_le (by omega)]
    refine Ev.step (fun k => by rw [spec_RowsOk.l0]) ?_
    exact Ev.congr (fun k => if_neg (by omega)) (Ev.now _)
  | succ d ih =>
    intro i hi
    refine Ev.step (fun k => by rw [spec_RowsOk.l0]) ?_
    refine Ev.congr (fun k => (if_pos (by omega)).trans (if_pos (by omega))) ?_
    refine Ev.bind ⟨0, fun k _ => s_l2Row _⟩ ?_
    rw [rdR_drop (by omega : i < l.length), List.all_cons]
    cases rowOk (rd_T75 l (i : Int)) with
    | false => exact Ev.now _
    | true =>
      refine Ev.congr (fun k => if_pos rfl) ?_
      rw [up1 (by omega : i < l.length) (by omega)]
      exact ih (i + 1) (by omega)
theorem s_rows (l : List Rw) (hl : l.length ≤ 1048576) : Ev (fun k => spec_RowsOk.f k l) (rowsOk l) := by
  unfold spec_RowsOk.f rowsOk
  by_cases h : l.length ≤ 400
  · rw [decide_eq_true h]
    exact Ev.congr (fun k => if_neg (by omega)) (by simpa using s_rows_loop l hl l.length 0 (by omega))
  · rw [decide_eq_false h]
    exact Ev.congr (fun k => if_pos (by omega)) (Ev.now _)
theorem i_rows_loop (l : List Rw) (hl : l.length ≤ 1048576) (d : Nat) : ∀ i : Nat, i + d = l.length → Ev (fun k => impl_RowsOk.l0 k l l (l.length : Int) (i : Int)) (((l.drop i).all rowOk) && decide (l.length ≤ 400)) := by
  induction d with
  | zero =>
    intro i hi
    rw [List.drop_eq_nil_of_le (by omega)]
    refine Ev.step (fun k => by rw [impl_RowsOk.l0]) ?_
    refine Ev.congr (fun k => if_neg (by omega)) ?_
    have : decide ((l.length : Int) ≤ 400) = decide (l.length ≤ 400) := by rw [decide_eq_decide]; omega
    rw [this]
    exact Ev.now _
  | succ d ih =>
    intro i hi
    refine Ev.step (fun k => by rw [impl_RowsOk.l0]) ?_
    refine Ev.congr (fun k => (if_pos (by omega)).trans ((if_pos (by omega)).trans (if_pos (by omega)))) ?_
    rw [rdR_drop (by omega : i < l.length), List.all_cons, up1 (by omega : i < l.length) (by omega)]
    generalize rd_T75 l (i : Int) = r
    have no : rowOk r = false → Ev (fun _ : Nat => some false) ((rowOk r && ((l.drop (i + 1)).all rowOk)) && decide (l.length ≤ 400)) := fun h => by rw [h]; exact Ev.now _
    by_cases c0 : r.f0 < 0
    · exact Ev.congr (fun k => if_pos c0) (no (by simp [rowOk]; omega))
    refine Ev.congr (fun k => if_neg c0) ?_
    by_cases c1 : r.f0 ≥ 4
    · exact Ev.congr (fun k => if_pos c1) (no (by simp [rowOk]; omega))
    refine Ev.congr (fun k => if_neg c1) ?_
    by_cases c2 : r.f1 < 0
    · exact Ev.congr (fun k => if_pos c2) (no (by simp [rowOk]; omega))
    refine Ev.congr (fun k => if_neg c2) ?_
    by_cases c3 : r.f1 ≥ 100
    · exact Ev.congr (fun k => if_pos c3) (no (by simp [rowOk]; omega))
    refine Ev.congr (fun k => if_neg c3) (Ev.bind ⟨0, fun k _ => i_ok _ _⟩ ?_)
    cases c4 : okT r.f2.f0 r.f2.f1 with
    | false => exact Ev.congr (fun k => if_neg (by simp)) (no (by simp [rowOk, c4]))
    | true =>
      refine Ev.congr (fun k => if_pos rfl) ?_
      by_cases c5 : r.f3 < -99999
      · exact Ev.congr (fun k => if_pos c5) (no (by simp [rowOk]; omega))
      refine Ev.congr (fun k => if_neg c5) ?_
      by_cases c6 : r.f3 > 99999
      · exact Ev.congr (fun k => if_pos c6) (no (by simp [rowOk]; omega))
      refine Ev.congr (fun k => if_neg c6) ?_
      have : rowOk r = true := by simp only [rowOk, c4, Bool.and_eq_true, decide_eq_true_eq, true_and]; omega
      rw [this, Bool.true_and]
      exact ih (i + 1) (by omega)
theorem i_rows (l : List Rw) (hl : l.length ≤ 1048576) : Ev (fun k => impl_RowsOk.f k l) (rowsOk l) := by
  unfold impl_RowsOk.f rowsOk
  rw [Bool.and_comm]
  simpa using i_rows_loop l hl l.length 0 (by omega)

theorem FnExactRowsOk (l : List RwA) (hm : l.length ≤ maxLen) {P : Prop} (_ : P) : ∃ k, laws_FnExactRowsOk.f k l = some true := by
  refine Ev.rounds ?_
  unfold laws_FnExactRowsOk.f
  by_cases h : 1048576 < l.length
  · exact Ev.bind ⟨0, fun k _ => szRowS_big l 1048576 hm (by omega) (by omega)⟩ (Ev.congr (fun k => if_pos (by omega)) (Ev.now _))
  · have hl : l.length ≤ 1048576 := by omega
    have hc : (l.map cvR).length ≤ 1048576 := by simpa using hl
    refine Ev.bind ⟨0, fun k _ => szRowS_small l 1048576 (by omega) (by omega)⟩ (Ev.congr (fun k => if_neg (by omega)) ?_)
    refine Ev.bind (toRowS_ev l hl) (Ev.bind (s_rows _ hc) (Ev.bind (toRowS_ev l hl) (Ev.bind (i_rows _ hc) (Ev.congr (fun k => if_neg (by simp)) (Ev.bind (toRowS_ev l hl) (Ev.bind (eqRowS_ev _ hc) (Ev.congr (fun k => if_pos rfl) (Ev.now _))))))))
end Go.Proofs.Ytjgfjhilmahkbaa.Pure
