/- The plain law of FnExactBatchOk. -/
import Derived.Test.YtiegpijhkhopgaaVFnExactBatchOkx
namespace Go.Proofs.Ytiegpijhkhopgaa.Pure
open Go.RowKit Go.Proofs.Ytiegpijhkhopgaa.PFnExactBatchOk Go.Proofs.YtiegpijhkhopgaaW.PrintWords Go.Proofs.YtiegpijhkhopgaaW.PrintLast Go.Proofs.Ytiegpijhkhopgaa.EvP
def okT (a b : Int) : Bool := decide (0 ≤ a ∧ a ≤ 7 ∧ 0 ≤ b ∧ b ≤ 7)
theorem s_ok (a b : Int) : spec_TimeOk.f a b = some (okT a b) := by
  unfold spec_TimeOk.f spec_l6In.f okT
  by_cases h0 : 0 ≤ a <;> by_cases h1 : a ≤ 7 <;> by_cases h2 : 0 ≤ b <;> by_cases h3 : b ≤ 7 <;> simp [h0, h1, h2, h3]
theorem i_ok (a b : Int) : impl_TimeOk.f a b = some (okT a b) := by
  unfold impl_TimeOk.f okT
  by_cases h0 : 0 ≤ a <;> by_cases h1 : a ≤ 7 <;> by_cases h2 : 0 ≤ b <;> by_cases h3 : b ≤ 7 <;> simp [h0, h1, h2, h3]

theorem up1 {i n : Nat} (h : i < n) (hn : n ≤ 4611686018427387904) : wrap64 ((i : Int) + 1) = ((i + 1 : Nat) : Int) := by
  rw [w64 (by omega) (by omega)]; rfl

/-! lists of rows -/
abbrev Rw := S67
theorem rdR_drop {xs : List Rw} {i : Nat} (h : i < xs.length) : xs.drop i = rd_T67 xs (i : Int) :: xs.drop (i + 1) := by
  unfold rd_T67
  rw [List.drop_eq_getElem_cons h, List.getD_eq_getElem?_getD, Int.toNat_natCast, List.getElem?_eq_getElem h]
  rfl

/-! the laws' own rows made into the program's -/
abbrev RwA := S71
def cvR (x : RwA) : Rw := ⟨x.f0, x.f1, ⟨x.f2.f0, x.f2.f1⟩, x.f3⟩
theorem rdB_drop {xs : List RwA} {i : Nat} (h : i < xs.length) : xs.drop i = rd_T71 xs (i : Int) :: xs.drop (i + 1) := by
  unfold rd_T71
  rw [List.drop_eq_getElem_cons h, List.getD_eq_getElem?_getD, Int.toNat_natCast, List.getElem?_eq_getElem h]
  rfl
theorem toRowS_loop (l : List RwA) (hl : l.length ≤ 1048576) (d : Nat) : ∀ (i : Nat) (out : List Rw), i + d = l.length → out.length = l.length →
    Ev (fun k => laws_toRowS.l0 k l out (i : Int)) (out.take i ++ (l.drop i).map cvR) := by
  induction d with
  | zero =>
    intro i out hi ho
    refine Ev.step (fun k => by rw [laws_toRowS.l0]) ?_
    refine Ev.congr (fun k => if_neg (by omega)) ?_
    rw [List.take_of_length_le (by omega), List.drop_eq_nil_of_le (by omega)]
    simpa using Ev.now out
  | succ d ih =>
    intro i out hi ho
    have hlt : i < l.length := by omega
    refine Ev.step (fun k => by rw [laws_toRowS.l0]) ?_
    refine Ev.congr (fun k => (if_pos (by omega)).trans (if_pos (by omega))) ?_
    refine Ev.bind (Ev.now _) ?_
    refine Ev.congr (fun k => if_pos (by omega)) ?_
    rw [up1 hlt (by omega)]
    have := ih (i + 1) (out.set i (cvR (rd_T71 l (i : Int)))) (by omega) (by simpa using ho)
    rw [List.take_succ_eq_append_getElem (by simp; omega), List.getElem_set_self, List.take_set_of_le (by omega)] at this
    rw [rdB_drop hlt, List.map_cons]
    simpa [cvR] using this
theorem toRowS_ev (l : List RwA) (hl : l.length ≤ 1048576) : Ev (fun k => laws_toRowS.f k l) (l.map cvR) := by
  unfold laws_toRowS.f
  refine Ev.congr (fun k => (if_pos (by omega)).trans (if_pos (by omega))) ?_
  simpa using toRowS_loop l hl l.length 0 (List.replicate ((l.length : Int)).toNat z67) (by omega) (by simp)
theorem eqRowS_loop (l : List Rw) (hl : l.length ≤ 1048576) (d : Nat) : ∀ i : Nat, i + d = l.length → Ev (fun k => laws_eqRowS.l0 k l l (i : Int)) true := by
  induction d with
  | zero =>
    intro i hi
    refine Ev.step (fun k => by rw [laws_eqRowS.l0]) ?_
    exact Ev.congr (fun k => if_neg (by omega)) (Ev.now _)
  | succ d ih =>
    intro i hi
    refine Ev.step (fun k => by rw [laws_eqRowS.l0]) ?_
    refine Ev.congr (fun k => (if_pos (by omega)).trans ((if_pos (by omega)).trans (if_pos (by omega)))) ?_
    refine Ev.bind (a := true) ⟨0, fun k _ => by simp [laws_eqRow.f, laws_eqTime.f]⟩ (Ev.congr (fun k => if_pos rfl) ?_)
    rw [up1 (by omega : i < l.length) (by omega)]
    exact ih (i + 1) (by omega)
theorem eqRowS_ev (l : List Rw) (hl : l.length ≤ 1048576) : Ev (fun k => laws_eqRowS.f k l l) true := by
  unfold laws_eqRowS.f
  exact Ev.congr (fun k => if_pos rfl) (eqRowS_loop l hl l.length 0 (by omega))
theorem szRowS_big (l : List RwA) (a : Int) (hm : l.length ≤ maxLen) (h0 : 0 ≤ a) (h : a < l.length) : laws_szRowS.f l a = some (-1) := by
  unfold maxLen at hm
  unfold laws_szRowS.f
  rw [w64 (by omega) (by omega), if_pos (by omega)]
theorem szRowS_small (l : List RwA) (a : Int) (ha : a ≤ 1048576) (h : (l.length : Int) ≤ a) : laws_szRowS.f l a = some (a - (l.length : Int)) := by
  unfold laws_szRowS.f
  rw [w64 (by omega) (by omega), if_neg (by omega)]

theorem s_in (a b c : Int) : spec_l6In.f a b c = some (decide (b ≤ a ∧ a ≤ c)) := by
  unfold spec_l6In.f
  by_cases h0 : b ≤ a <;> by_cases h1 : a ≤ c <;> simp [h0, h1]

def rowOk (r : Rw) : Bool := decide (0 ≤ r.f0 ∧ r.f0 ≤ 3) && (decide (0 ≤ r.f1 ∧ r.f1 ≤ 99) && (okT r.f2.f0 r.f2.f1 && decide (-99999 ≤ r.f3 ∧ r.f3 ≤ 99999)))
def rowsOk (l : List Rw) : Bool := decide (l.length ≤ 400) && l.all rowOk
theorem s_l2Row (r : Rw) : spec_l2Row.f r.f0 r.f1 r.f2.f0 r.f2.f1 r.f3 = some (rowOk r) := by
  unfold spec_l2Row.f rowOk
  simp only [s_in, s_ok, Option.bind_some]
  cases decide (0 ≤ r.f0 ∧ r.f0 ≤ 3) <;> cases decide (0 ≤ r.f1 ∧ r.f1 ≤ 99) <;> cases okT r.f2.f0 r.f2.f1 <;> rfl
theorem s_rows_loop (l : List Rw) (hl : l.length ≤ 1048576) (d : Nat) : ∀ i : Nat, i + d = l.length → Ev (fun k => spec_RowsOk.l0 k l (i : Int)) ((l.drop i).all rowOk) := by
  induction d with
  | zero =>
    intro i hi
    rw [List.drop_eq_nil_of_le (by omega)]
    refine Ev.step (fun k => by rw [spec_RowsOk.l0]) ?_
    exact Ev.congr (fun k => if_neg (by omega)) (Ev.now _)
  | succ d ih =>
    intro i hi
    refine Ev.step (fun k => by rw [spec_RowsOk.l0]) ?_
    refine Ev.congr (fun k => (if_pos (by omega)).trans (if_pos (by omega))) ?_
    refine Ev.bind ⟨0, fun k _ => s_l2Row _⟩ ?_
    rw [rdR_drop (by omega : i < l.length), List.all_cons]
    cases rowOk (rd_T67 l (i : Int)) with
    | false => exact Ev.now _
    | true =>
      refine Ev.congr (fun k => if_pos rfl) ?_
      rw [up1 (by omega : i < l.length) (by omega)]
      exact ih (i + 1) (by omega)
theorem s_rows (l : List Rw) (hl : l.length ≤ 1048576) : Ev (fun k => spec_RowsOk.f k l) (rowsOk l) := by
  unfold spec_RowsOk.f rowsOk
  by_cases h : l.length ≤ 400
  · rw [decide_eq_true h]
    exact Ev.congr (fun k => if_neg (by omega)) (by simpa using s_rows_loop l hl l.length 0 (by omega))
  · rw [decide_eq_false h]
    exact Ev.congr (fun k => if_pos (by omega)) (Ev.now _)

theorem i_rows_loop (l : List Rw) (hl : l.length ≤ 1048576) (d : Nat) : ∀ i : Nat, i + d = l.length → Ev (fun k => impl_RowsOk.l0 k l l (l.length : Int) (i : Int)) (((l.drop i).all rowOk) && decide (l.length ≤ 400)) := by
  induction d with
  | zero =>
    intro i hi
    rw [List.drop_eq_nil_of_le (by omega)]
    refine Ev.step (fun k => by rw [impl_RowsOk.l0]) ?_
    refine Ev.congr (fun k => if_neg (by omega)) ?_
    have : decide ((l.length : Int) ≤ 400) = decide (l.length ≤ 400) := by rw [decide_eq_decide]; omega
    rw [this]
    exact Ev.now _
  | succ d ih =>
    intro i hi
    refine Ev.step (fun k => by rw [impl_RowsOk.l0]) ?_
    refine Ev.congr (fun k => (if_pos (by omega)).trans ((if_pos (by omega)).trans (if_pos (by omega)))) ?_
    rw [rdR_drop (by omega : i < l.length), List.all_cons, up1 (by omega : i < l.length) (by omega)]
    generalize rd_T67 l (i : Int) = r
    have no : rowOk r = false → Ev (fun _ : Nat => some false) ((rowOk r && ((l.drop (i + 1)).all rowOk)) && decide (l.length ≤ 400)) := fun h => by rw [h]; exact Ev.now _
    by_cases c0 : r.f0 < 0
    · exact Ev.congr (fun k => if_pos c0) (no (by simp [rowOk]; omega))
    refine Ev.congr (fun k => if_neg c0) ?_
    by_cases c1 : r.f0 ≥ 4
    · exact Ev.congr (fun k => if_pos c1) (no (by simp [rowOk]; omega))
    refine Ev.congr (fun k => if_neg c1) ?_
    by_cases c2 : r.f1 < 0
    · exact Ev.congr (fun k => if_pos c2) (no (by simp [rowOk]; omega))
    refine Ev.congr (fun k => if_neg c2) ?_
    by_cases c3 : r.f1 ≥ 100
    · exact Ev.congr (fun k => if_pos c3) (no (by simp [rowOk]; omega))
    refine Ev.congr (fun k => if_neg c3) (Ev.bind ⟨0, fun k _ => i_ok _ _⟩ ?_)
    cases c4 : okT r.f2.f0 r.f2.f1 with
    | false => exact Ev.congr (fun k => if_neg (by simp)) (no (by simp [rowOk, c4]))
    | true =>
      refine Ev.congr (fun k => if_pos rfl) ?_
      by_cases c5 : r.f3 < -99999
      · exact Ev.congr (fun k => if_pos c5) (no (by simp [rowOk]; omega))
      refine Ev.congr (fun k => if_neg c5) ?_
      by_cases c6 : r.f3 > 99999
      · exact Ev.congr (fun k => if_pos c6) (no (by simp [rowOk]; omega))
      refine Ev.congr (fun k => if_neg c6) ?_
      have : rowOk r = true := by simp only [rowOk, c4, Bool.and_eq_true, decide_eq_true_eq, true_and]; omega
      rw [this, Bool.true_and]
      exact ih (i + 1) (by omega)
theorem i_rows (l : List Rw) (hl : l.length ≤ 1048576) : Ev (fun k => impl_RowsOk.f k l) (rowsOk l) := by
  unfold impl_RowsOk.f rowsOk
  rw [Bool.and_comm]
  simpa using i_rows_loop l hl l.length 0 (by omega)


/-! rows: put into order, equal ones summed -/
def W64 : Int := 18446744073709551616
/-- key, value and time -/
def rkey (r : Rw) : Int × Int × Int × Int := (r.f0, r.f1, r.f2.f0, r.f2.f1)
def klt (a b : Int × Int × Int × Int) : Prop := a.1 < b.1 ∨ a.1 = b.1 ∧ (a.2.1 < b.2.1 ∨ a.2.1 = b.2.1 ∧ (a.2.2.1 < b.2.2.1 ∨ a.2.2.1 = b.2.2.1 ∧ a.2.2.2 < b.2.2.2))
instance (a b : Int × Int × Int × Int) : Decidable (klt a b) := by unfold klt; infer_instance
theorem klt_trans {a b c : Int × Int × Int × Int} (h : klt a b) (k : klt b c) : klt a c := by unfold klt at *; omega
theorem klt_irrefl (a : Int × Int × Int × Int) : ¬ klt a a := by unfold klt; omega
theorem klt_tri (a b : Int × Int × Int × Int) : klt a b ∨ a = b ∨ klt b a := by
  obtain ⟨a1, a2, a3, a4⟩ := a
  obtain ⟨b1, b2, b3, b4⟩ := b
  simp only [klt, Prod.mk.injEq]
  omega

/-! the reference's sums of rows -/
def cmpK (a b : Int × Int × Int × Int) : Int := if klt a b then -1 else if klt b a then 1 else 0
theorem comp_step {X Y : List Int} {c : Int} (i : Nat) (hX : X.length = 4) (hY : Y.length = 4) (hi : i < 4) (h1 : rd X (i : Int) < rd Y (i : Int) → c = -1) (h2 : rd Y (i : Int) < rd X (i : Int) → c = 1)
    (h3 : rd X (i : Int) = rd Y (i : Int) → Ev (fun k => spec_l2Comp.l0 k X Y ((i + 1 : Nat) : Int)) c) : Ev (fun k => spec_l2Comp.l0 k X Y (i : Int)) c := by
  refine Ev.step (fun k => by rw [spec_l2Comp.l0]) (Ev.congr (fun k => (if_pos (by omega)).trans ((if_pos (by omega)).trans (if_pos (by omega)))) ?_)
  by_cases c1 : rd X (i : Int) < rd Y (i : Int)
  · rw [h1 c1]
    exact Ev.congr (fun k => if_pos c1) (Ev.now _)
  · refine Ev.congr (fun k => if_neg c1) ?_
    by_cases c2 : rd X (i : Int) > rd Y (i : Int)
    · rw [h2 c2]
      exact Ev.congr (fun k => if_pos c2) (Ev.now _)
    · refine Ev.congr (fun k => if_neg c2) ?_
      rw [w64 (by omega) (by omega)]
      exact h3 (by omega)
theorem s_comp (x y : Rw) : Ev (fun k => spec_l2Comp.f k x.f0 x.f1 x.f2.f0 x.f2.f1 x.f3 y.f0 y.f1 y.f2.f0 y.f2.f1 y.f3) (cmpK (rkey x) (rkey y)) := by
  unfold spec_l2Comp.f
  obtain ⟨a0, a1, ⟨a2, a3⟩, a4⟩ := x
  obtain ⟨b0, b1, ⟨b2, b3⟩, b4⟩ := y
  simp only [rkey]
  have r0 : rd [a0, a1, a2, a3] ((0 : Nat) : Int) = a0 := rfl
  have r1 : rd [a0, a1, a2, a3] ((1 : Nat) : Int) = a1 := rfl
  have r2 : rd [a0, a1, a2, a3] ((2 : Nat) : Int) = a2 := rfl
  have r3 : rd [a0, a1, a2, a3] ((3 : Nat) : Int) = a3 := rfl
  have s0 : rd [b0, b1, b2, b3] ((0 : Nat) : Int) = b0 := rfl
  have s1 : rd [b0, b1, b2, b3] ((1 : Nat) : Int) = b1 := rfl
  have s2 : rd [b0, b1, b2, b3] ((2 : Nat) : Int) = b2 := rfl
  have s3 : rd [b0, b1, b2, b3] ((3 : Nat) : Int) = b3 := rfl
  have lo : ∀ {p q : Int × Int × Int × Int}, klt p q → cmpK p q = -1 := fun h => if_pos h
  have hi : ∀ {p q : Int × Int × Int × Int}, klt q p → cmpK p q = 1 := fun {p q} h => by
    unfold cmpK
    rw [if_neg (fun k => klt_irrefl p (klt_trans k h)), if_pos h]
  refine comp_step 0 rfl rfl (by omega) (fun h => lo (by unfold klt; simp only; omega)) (fun h => hi (by unfold klt; simp only; omega)) fun e0 => ?_
  refine comp_step 1 rfl rfl (by omega) (fun h => lo (by unfold klt; simp only; omega)) (fun h => hi (by unfold klt; simp only; omega)) fun e1 => ?_
  refine comp_step 2 rfl rfl (by omega) (fun h => lo (by unfold klt; simp only; omega)) (fun h => hi (by unfold klt; simp only; omega)) fun e2 => ?_
  refine comp_step 3 rfl rfl (by omega) (fun h => lo (by unfold klt; simp only; omega)) (fun h => hi (by unfold klt; simp only; omega)) fun e3 => ?_
  refine Ev.step (fun k => by rw [spec_l2Comp.l0]) (Ev.congr (fun k => if_neg (by simp)) ?_)
  have : cmpK (a0, a1, a2, a3) (b0, b1, b2, b3) = 0 := by
    unfold cmpK
    rw [if_neg (by unfold klt; simp only; omega), if_neg (by unfold klt; simp only; omega)]
  rw [this]
  exact Ev.now _

/-! batches -/
def bOk1 (p : Rw) : List Rw → Bool
  | [] => true
  | y :: r => (y.f3 != 0) && decide (klt (rkey p) (rkey y)) && bOk1 y r
def bOk : List Rw → Bool
  | [] => true
  | x :: r => (x.f3 != 0) && bOk1 x r
def batchOk (l : List Rw) : Bool := rowsOk l && bOk l

theorem s_batch_loop (l : List Rw) (hl : l.length ≤ 1048576) (d : Nat) : ∀ i : Nat, i + 1 + d = l.length → Ev (fun k => spec_BatchOk.l0 k l ((i + 1 : Nat) : Int)) (bOk1 (rd_T67 l (i : Int)) (l.drop (i + 1))) := by
  induction d with
  | zero =>
    intro i hi
    refine Ev.step (fun k => by rw [spec_BatchOk.l0]) (Ev.congr (fun k => if_neg (by omega)) ?_)
    rw [List.drop_eq_nil_of_le (by omega)]
    exact Ev.now _
  | succ d ih =>
    intro i hi
    rw [rdR_drop (by omega : i + 1 < l.length)]
    unfold bOk1
    have e : wrap64 (((i + 1 : Nat) : Int) - 1) = (i : Int) := by rw [w64 (by omega) (by omega)]; omega
    refine Ev.step (fun k => by rw [spec_BatchOk.l0]) (Ev.congr (fun k => (if_pos (by omega)).trans (if_pos (by omega))) ?_)
    rw [e, up1 (by omega : i + 1 < l.length) (by omega)]
    have ih' := ih (i + 1) (by omega)
    generalize rd_T67 l ((i + 1 : Nat) : Int) = y at *
    generalize rd_T67 l (i : Int) = p at *
    by_cases h0 : y.f3 = 0
    · refine Ev.congr (fun k => if_pos h0) ?_
      rw [show (y.f3 != 0) = false by simp [h0]]
      exact Ev.now _
    · refine Ev.congr (fun k => (if_neg h0).trans ((if_pos (by omega)).trans ((if_pos (by omega)).trans (if_pos (by omega))))) (Ev.bind (s_comp p y) ?_)
      rw [show (y.f3 != 0) = true by simp [h0], Bool.true_and]
      by_cases h1 : klt (rkey p) (rkey y)
      · have : cmpK (rkey p) (rkey y) = -1 := if_pos h1
        rw [decide_eq_true h1, Bool.true_and, this]
        exact Ev.congr (fun k => if_neg (by omega)) ih'
      · have : cmpK (rkey p) (rkey y) ≥ 0 := by
          unfold cmpK
          rw [if_neg h1]
          split <;> omega
        rw [decide_eq_false h1, Bool.false_and]
        exact Ev.congr (fun k => if_pos this) (Ev.now _)
theorem s_batch (l : List Rw) (hl : l.length ≤ 1048576) : Ev (fun k => spec_BatchOk.f k l) (batchOk l) := by
  unfold spec_BatchOk.f batchOk
  refine Ev.bind (s_rows l hl) ?_
  cases rowsOk l with
  | false => exact Ev.congr (fun k => if_neg (by simp)) (Ev.now _)
  | true =>
    rw [Bool.true_and]
    refine Ev.congr (fun k => if_pos rfl) ?_
    cases l with
    | nil =>
      refine Ev.step (fun k => by rw [spec_BatchOk.l0]) ?_
      exact (Ev.congr (fun k => if_neg (by simp)) (Ev.now _))
    | cons x r =>
      refine Ev.step (fun k => by rw [spec_BatchOk.l0]) (Ev.congr (fun k => (if_pos (by simp)).trans (if_pos (by omega))) ?_)
      have hx : rd_T67 (x :: r) 0 = x := rfl
      rw [hx, show bOk (x :: r) = ((x.f3 != 0) && bOk1 x r) from rfl]
      by_cases h0 : x.f3 = 0
      · refine Ev.congr (fun k => if_pos h0) ?_
        rw [show (x.f3 != 0) = false by simp [h0]]
        exact Ev.now _
      · rw [show (x.f3 != 0) = true by simp [h0], Bool.true_and]
        refine Ev.congr (fun k => (if_neg h0).trans (if_neg (by omega))) ?_
        have := s_batch_loop (x :: r) hl r.length 0 (by simp; omega)
        simpa [w64, hx] using this

theorem i_ahead (a b c d : Int) : impl_ahead.f a b c d = some (decide (a < c ∨ a = c ∧ b < d)) := by
  unfold impl_ahead.f
  by_cases h0 : a < c
  · rw [if_pos h0, decide_eq_true (.inl h0)]
  · rw [if_neg h0]
    by_cases h1 : a = c
    · rw [if_pos h1]
      congr 1
      rw [decide_eq_decide]
      omega
    · rw [if_neg h1, decide_eq_false (by omega)]
theorem i_rowAhead (x y : Rw) : impl_rowAhead.f x.f0 x.f1 x.f2.f0 x.f2.f1 x.f3 y.f0 y.f1 y.f2.f0 y.f2.f1 y.f3 = some (decide (klt (rkey x) (rkey y))) := by
  unfold impl_rowAhead.f
  simp only [i_ahead, Option.bind_some]
  by_cases h0 : x.f0 = y.f0
  · rw [if_pos h0]
    by_cases h1 : x.f1 = y.f1
    · rw [if_pos h1]
      congr 1
      rw [decide_eq_decide]
      unfold klt rkey
      simp only
      omega
    · rw [if_neg h1]
      congr 1
      rw [decide_eq_decide]
      unfold klt rkey
      simp only
      omega
  · rw [if_neg h0]
    congr 1
    rw [decide_eq_decide]
    unfold klt rkey
    simp only
    omega
theorem i_batch_loop (l : List Rw) (hl : l.length ≤ 1048576) (d : Nat) : ∀ i : Nat, i + 1 + d = l.length → Ev (fun k => impl_BatchOk.l0 k l l (l.length : Int) ((i + 1 : Nat) : Int)) (rowsOk l && bOk1 (rd_T67 l (i : Int)) (l.drop (i + 1))) := by
  induction d with
  | zero =>
    intro i hi
    refine Ev.step (fun k => by rw [impl_BatchOk.l0]) (Ev.congr (fun k => if_neg (by omega)) ?_)
    rw [List.drop_eq_nil_of_le (by omega)]
    refine Ev.bind (i_rows l hl) ?_
    rw [show bOk1 (rd_T67 l (i : Int)) [] = true from rfl, Bool.and_true]
    exact Ev.now _
  | succ d ih =>
    intro i hi
    rw [rdR_drop (by omega : i + 1 < l.length)]
    unfold bOk1
    have e : wrap64 (((i + 1 : Nat) : Int) - 1) = (i : Int) := by rw [w64 (by omega) (by omega)]; omega
    refine Ev.step (fun k => by rw [impl_BatchOk.l0]) (Ev.congr (fun k => (if_pos (by omega)).trans ((if_pos (by omega)).trans (if_pos (by omega)))) ?_)
    rw [e, up1 (by omega : i + 1 < l.length) (by omega)]
    have ih' := ih (i + 1) (by omega)
    generalize rd_T67 l ((i + 1 : Nat) : Int) = y at *
    generalize rd_T67 l (i : Int) = p at *
    by_cases h0 : y.f3 = 0
    · refine Ev.congr (fun k => if_pos h0) ?_
      rw [show (y.f3 != 0) = false by simp [h0], Bool.false_and, Bool.false_and, Bool.and_false]
      exact Ev.now _
    · refine Ev.congr (fun k => (if_neg h0).trans ((if_pos (by omega)).trans ((if_pos (by omega)).trans (if_pos (by omega))))) (Ev.bind ⟨0, fun k _ => i_rowAhead p y⟩ ?_)
      rw [show (y.f3 != 0) = true by simp [h0], Bool.true_and]
      by_cases h1 : klt (rkey p) (rkey y)
      · rw [decide_eq_true h1, Bool.true_and]
        exact Ev.congr (fun k => if_pos rfl) ih'
      · rw [decide_eq_false h1, Bool.false_and, Bool.and_false]
        exact Ev.congr (fun k => if_neg (by simp)) (Ev.now _)
theorem i_batch (l : List Rw) (hl : l.length ≤ 1048576) : Ev (fun k => impl_BatchOk.f k l) (batchOk l) := by
  unfold impl_BatchOk.f batchOk
  cases l with
  | nil =>
    refine Ev.step (fun k => by rw [impl_BatchOk.l0]) (Ev.congr (fun k => if_neg (by simp)) (Ev.bind (i_rows [] hl) ?_))
    rw [show bOk [] = true from rfl, Bool.and_true]
    exact Ev.now _
  | cons x r =>
    refine Ev.step (fun k => by rw [impl_BatchOk.l0]) (Ev.congr (fun k => (if_pos (by simp)).trans ((if_pos (by omega)).trans (if_pos (by simp)))) ?_)
    have hx : rd_T67 (x :: r) 0 = x := rfl
    rw [hx, show bOk (x :: r) = ((x.f3 != 0) && bOk1 x r) from rfl]
    by_cases h0 : x.f3 = 0
    · refine Ev.congr (fun k => if_pos h0) ?_
      rw [show (x.f3 != 0) = false by simp [h0], Bool.false_and, Bool.and_false]
      exact Ev.now _
    · rw [show (x.f3 != 0) = true by simp [h0], Bool.true_and]
      refine Ev.congr (fun k => (if_neg h0).trans (if_neg (by omega))) ?_
      have := i_batch_loop (x :: r) hl r.length 0 (by simp; omega)
      simpa [w64, hx] using this

theorem FnExactBatchOk (l : List RwA) (hm : l.length ≤ maxLen) {P : Prop} (_ : P) : ∃ k, laws_FnExactBatchOk.f k l = some true := by
  refine Ev.rounds ?_
  unfold laws_FnExactBatchOk.f
  by_cases h : 1048576 < l.length
  · exact Ev.bind ⟨0, fun k _ => szRowS_big l 1048576 hm (by omega) (by omega)⟩ (Ev.congr (fun k => if_pos (by omega)) (Ev.now _))
  · have hl : l.length ≤ 1048576 := by omega
    have hc : (l.map cvR).length ≤ 1048576 := by simpa using hl
    refine Ev.bind ⟨0, fun k _ => szRowS_small l 1048576 (by omega) (by omega)⟩ (Ev.congr (fun k => if_neg (by omega)) ?_)
    refine Ev.bind (toRowS_ev l hl) (Ev.bind (s_batch _ hc) (Ev.bind (toRowS_ev l hl) (Ev.bind (i_batch _ hc) (Ev.congr (fun k => if_neg (by simp)) (Ev.bind (toRowS_ev l hl) (Ev.bind (eqRowS_ev _ hc) (Ev.congr (fun k => if_pos rfl) (Ev.now _))))))))
end Go.Proofs.Ytiegpijhkhopgaa.Pure
