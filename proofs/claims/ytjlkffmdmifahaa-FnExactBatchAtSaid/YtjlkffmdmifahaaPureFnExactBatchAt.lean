/- The plain law of FnExactBatchAt. -/
import Derived.Test.YtjlkffmdmifahaaVFnExactBatchAtx
namespace Go.Proofs.Ytjlkffmdmifahaa.Pure
open Go.RowKit Go.Proofs.Ytjlkffmdmifahaa.PFnExactBatchAt Go.Proofs.YtjlkffmdmifahaaW.PrintWords Go.Proofs.YtjlkffmdmifahaaW.PrintLast Go.Proofs.Ytjlkffmdmifahaa.EvP
set_option linter.unusedVariables false
/-! what the functions on times say -/
def okT (a b : Int) : Bool := decide (0 ≤ a ∧ a ≤ 7 ∧ 0 ≤ b ∧ b ≤ 7)
def leT (a b c d : Int) : Bool := okT a b && okT c d && decide (a ≤ c ∧ b ≤ d)
theorem okT_true {a b : Int} (h : okT a b = true) : 0 ≤ a ∧ a ≤ 7 ∧ 0 ≤ b ∧ b ≤ 7 := of_decide_eq_true h
theorem leT_true {a b c d : Int} (h : leT a b c d = true) : (0 ≤ a ∧ a ≤ 7 ∧ 0 ≤ b ∧ b ≤ 7) ∧ (0 ≤ c ∧ c ≤ 7 ∧ 0 ≤ d ∧ d ≤ 7) ∧ a ≤ c ∧ b ≤ d := by simpa [leT, okT, and_assoc] using h
theorem leT_mk {a b c d : Int} (h : (0 ≤ a ∧ a ≤ 7 ∧ 0 ≤ b ∧ b ≤ 7) ∧ (0 ≤ c ∧ c ≤ 7 ∧ 0 ≤ d ∧ d ≤ 7) ∧ a ≤ c ∧ b ≤ d) : leT a b c d = true := by simpa [leT, okT, and_assoc] using h

theorem s_ok (a b : Int) : spec_TimeOk.f a b = some (okT a b) := by
  unfold spec_TimeOk.f spec_l6In.f okT
  by_cases h0 : 0 ≤ a <;> by_cases h1 : a ≤ 7 <;> by_cases h2 : 0 ≤ b <;> by_cases h3 : b ≤ 7 <;> simp [h0, h1, h2, h3]

theorem i_ok (a b : Int) : impl_TimeOk.f a b = some (okT a b) := by
  unfold impl_TimeOk.f okT
  by_cases h0 : 0 ≤ a <;> by_cases h1 : a ≤ 7 <;> by_cases h2 : 0 ≤ b <;> by_cases h3 : b ≤ 7 <;> simp [h0, h1, h2, h3]



theorem s_less (a b c d : Int) : spec_TimeLess.f a b c d = some (leT a b c d) := by
  unfold spec_TimeLess.f leT
  rw [s_ok, s_ok]
  cases okT a b <;> cases okT c d <;> by_cases h0 : a ≤ c <;> by_cases h1 : b ≤ d <;> simp [h0, h1]

theorem up1 {i n : Nat} (h : i < n) (hn : n ≤ 4611686018427387904) : wrap64 ((i : Int) + 1) = ((i + 1 : Nat) : Int) := by
  rw [w64 (by omega) (by omega)]; rfl

/-! lists of items -/
abbrev It := S83
theorem rdI_drop {xs : List It} {i : Nat} (h : i < xs.length) : xs.drop i = rd_T83 xs (i : Int) :: xs.drop (i + 1) := by
  unfold rd_T83
  rw [List.drop_eq_getElem_cons h, List.getD_eq_getElem?_getD, Int.toNat_natCast, List.getElem?_eq_getElem h]
  rfl

/-! lists of rows -/
abbrev Rw := S38
theorem rdR_drop {xs : List Rw} {i : Nat} (h : i < xs.length) : xs.drop i = rd_T38 xs (i : Int) :: xs.drop (i + 1) := by
  unfold rd_T38
  rw [List.drop_eq_getElem_cons h, List.getD_eq_getElem?_getD, Int.toNat_natCast, List.getElem?_eq_getElem h]
  rfl

theorem eqItemS_loop (l : List It) (hl : l.length ≤ 1048576) (d : Nat) : ∀ i : Nat, i + d = l.length → Ev (fun k => laws_eqItemS.l0 k l l (i : Int)) true := by
  induction d with
  | zero =>
    intro i hi
    refine Ev.step (fun k => by rw [laws_eqItemS.l0]) ?_
    exact Ev.congr (fun k => if_neg (by omega)) (Ev.now _)
  | succ d ih =>
    intro i hi
    refine Ev.step (fun k => by rw [laws_eqItemS.l0]) ?_
    refine Ev.congr (fun k => (if_pos (by omega)).trans ((if_pos (by omega)).trans (if_pos (by omega)))) ?_
    refine Ev.bind (a := true) ⟨0, fun k _ => by simp [laws_eqItem.f]⟩ (Ev.congr (fun k => if_pos rfl) ?_)
    rw [up1 (by omega : i < l.length) (by omega)]
    exact ih (i + 1) (by omega)
theorem eqItemS_ev (l : List It) (hl : l.length ≤ 1048576) : Ev (fun k => laws_eqItemS.f k l l) true := by
  unfold laws_eqItemS.f
  exact Ev.congr (fun k => if_pos rfl) (eqItemS_loop l hl l.length 0 (by omega))

/-! the laws' own rows made into the program's -/
abbrev RwA := S80
def cvR (x : RwA) : Rw := ⟨x.f0, x.f1, ⟨x.f2.f0, x.f2.f1⟩, x.f3⟩
theorem rdB_drop {xs : List RwA} {i : Nat} (h : i < xs.length) : xs.drop i = rd_T80 xs (i : Int) :: xs.drop (i + 1) := by
  unfold rd_T80
  rw [List.drop_eq_getElem_cons h, List.getD_eq_getElem?_getD, Int.toNat_natCast, List.getElem?_eq_getElem h]
  rfl
theorem toRowS_loop (l : List RwA) (hl : l.length ≤ 1048576) (d : Nat) : ∀ (i : Nat) (out : List Rw), i + d = l.length → out.length = l.length →
    Ev (fun k => laws_toRowS.l0 k l out (i : Int)) (out.take i ++ (l.drop i).map cvR) := by
  induction d with
  | zero =>
    intro i out hi ho
    refine Ev.step (fun k => by rw [laws_toRowS.l0]) ?_
    refine Ev.congr (fun k => if_neg (by omega)) ?_
    rw [List.take_of_length_le (by omega), List.drop_eq_nil_of_le (by omega)]
    simpa using Ev.now out
  | succ d ih =>
    intro i out hi ho
    have hlt : i < l.length := by omega
    refine Ev.step (fun k => by rw [laws_toRowS.l0]) ?_
    refine Ev.congr (fun k => (if_pos (by omega)).trans (if_pos (by omega))) ?_
    refine Ev.bind (Ev.now _) ?_
    refine Ev.congr (fun k => if_pos (by omega)) ?_
    rw [up1 hlt (by omega)]
    have := ih (i + 1) (out.set i (cvR (rd_T80 l (i : Int)))) (by omega) (by simpa using ho)
    rw [List.take_succ_eq_append_getElem (by simp; omega), List.getElem_set_self, List.take_set_of_le (by omega)] at this
    rw [rdB_drop hlt, List.map_cons]
    simpa [cvR] using this
theorem toRowS_ev (l : List RwA) (hl : l.length ≤ 1048576) : Ev (fun k => laws_toRowS.f k l) (l.map cvR) := by
  unfold laws_toRowS.f
  refine Ev.congr (fun k => (if_pos (by omega)).trans (if_pos (by omega))) ?_
  simpa using toRowS_loop l hl l.length 0 (List.replicate ((l.length : Int)).toNat z38) (by omega) (by simp)
theorem eqRowS_loop (l : List Rw) (hl : l.length ≤ 1048576) (d : Nat) : ∀ i : Nat, i + d = l.length → Ev (fun k => laws_eqRowS.l0 k l l (i : Int)) true := by
  induction d with
  | zero =>
    intro i hi
    refine Ev.step (fun k => by rw [laws_eqRowS.l0]) ?_
    exact Ev.congr (fun k => if_neg (by omega)) (Ev.now _)
  | succ d ih =>
    intro i hi
    refine Ev.step (fun k => by rw [laws_eqRowS.l0]) ?_
    refine Ev.congr (fun k => (if_pos (by omega)).trans ((if_pos (by omega)).trans (if_pos (by omega)))) ?_
    refine Ev.bind (a := true) ⟨0, fun k _ => by simp [laws_eqRow.f, laws_eqTime.f]⟩ (Ev.congr (fun k => if_pos rfl) ?_)
    rw [up1 (by omega : i < l.length) (by omega)]
    exact ih (i + 1) (by omega)
theorem eqRowS_ev (l : List Rw) (hl : l.length ≤ 1048576) : Ev (fun k => laws_eqRowS.f k l l) true := by
  unfold laws_eqRowS.f
  exact Ev.congr (fun k => if_pos rfl) (eqRowS_loop l hl l.length 0 (by omega))
theorem szRowS_big (l : List RwA) (a : Int) (hm : l.length ≤ maxLen) (h0 : 0 ≤ a) (h : a < l.length) : laws_szRowS.f l a = some (-1) := by
  unfold maxLen at hm
  unfold laws_szRowS.f
  rw [w64 (by omega) (by omega), if_pos (by omega)]
theorem szRowS_small (l : List RwA) (a : Int) (ha : a ≤ 1048576) (h : (l.length : Int) ≤ a) : laws_szRowS.f l a = some (a - (l.length : Int)) := by
  unfold laws_szRowS.f
  rw [w64 (by omega) (by omega), if_neg (by omega)]

theorem s_in (a b c : Int) : spec_l6In.f a b c = some (decide (b ≤ a ∧ a ≤ c)) := by
  unfold spec_l6In.f
  by_cases h0 : b ≤ a <;> by_cases h1 : a ≤ c <;> simp [h0, h1]

def rowOk (r : Rw) : Bool := decide (0 ≤ r.f0 ∧ r.f0 ≤ 3) && (decide (0 ≤ r.f1 ∧ r.f1 ≤ 99) && (okT r.f2.f0 r.f2.f1 && decide (-99999 ≤ r.f3 ∧ r.f3 ≤ 99999)))
def rowsOk (l : List Rw) : Bool := decide (l.length ≤ 400) && l.all rowOk
theorem s_l2Row (r : Rw) : spec_l2Row.f r.f0 r.f1 r.f2.f0 r.f2.f1 r.f3 = some (rowOk r) := by
  unfold spec_l2Row.f rowOk
  simp only [s_in, s_ok, Option.bind_some]
  cases decide (0 ≤ r.f0 ∧ r.f0 ≤ 3) <;> cases decide (0 ≤ r.f1 ∧ r.f1 ≤ 99) <;> cases okT r.f2.f0 r.f2.f1 <;> rfl
theorem s_rows_loop (l : List Rw) (hl : l.length ≤ 1048576) (d : Nat) : ∀ i : Nat, i + d = l.length → Ev (fun k => spec_RowsOk.l0 k l (i : Int)) ((l.drop i).all rowOk) := by
  induction d with
  | zero =>
    intro i hi
    rw [List.drop_eq_nil_of_le (by omega)]
    refine Ev.step (fun k => by rw [spec_RowsOk.l0]) ?_
    exact Ev.congr (fun k => if_neg (by omega)) (Ev.now _)
  | succ d ih =>
    intro i hi
    refine Ev.step (fun k => by rw [spec_RowsOk.l0]) ?_
    refine Ev.congr (fun k => (if_pos (by omega)).trans (if_pos (by omega))) ?_
    refine Ev.bind ⟨0, fun k _ => s_l2Row _⟩ ?_
    rw [rdR_drop (by omega : i < l.length), List.all_cons]
    cases rowOk (rd_T38 l (i : Int)) with
    | false => exact Ev.now _
    | true =>
      refine Ev.congr (fun k => if_pos rfl) ?_
      rw [up1 (by omega : i < l.length) (by omega)]
      exact ih (i + 1) (by omega)
theorem s_rows (l : List Rw) (hl : l.length ≤ 1048576) : Ev (fun k => spec_RowsOk.f k l) (rowsOk l) := by
  unfold spec_RowsOk.f rowsOk
  by_cases h : l.length ≤ 400
  · rw [decide_eq_true h]
    exact Ev.congr (fun k => if_neg (by omega)) (by simpa using s_rows_loop l hl l.length 0 (by omega))
  · rw [decide_eq_false h]
    exact Ev.congr (fun k => if_pos (by omega)) (Ev.now _)

theorem i_rows_loop (l : List Rw) (hl : l.length ≤ 1048576) (d : Nat) : ∀ i : Nat, i + d = l.length → Ev (fun k => impl_RowsOk.l0 k l l (l.length : Int) (i : Int)) (((l.drop i).all rowOk) && decide (l.length ≤ 400)) := by
  induction d with
  | zero =>
    intro i hi
    rw [List.drop_eq_nil_of_le (by omega)]
    refine Ev.step (fun k => by rw [impl_RowsOk.l0]) ?_
    refine Ev.congr (fun k => if_neg (by omega)) ?_
    have : decide ((l.length : Int) ≤ 400) = decide (l.length ≤ 400) := by rw [decide_eq_decide]; omega
    rw [this]
    exact Ev.now _
  | succ d ih =>
    intro i hi
    refine Ev.step (fun k => by rw [impl_RowsOk.l0]) ?_
    refine Ev.congr (fun k => (if_pos (by omega)).trans ((if_pos (by omega)).trans (if_pos (by omega)))) ?_
    rw [rdR_drop (by omega : i < l.length), List.all_cons, up1 (by omega : i < l.length) (by omega)]
    generalize rd_T38 l (i : Int) = r
    have no : rowOk r = false → Ev (fun _ : Nat => some false) ((rowOk r && ((l.drop (i + 1)).all rowOk)) && decide (l.length ≤ 400)) := fun h => by rw [h]; exact Ev.now _
    by_cases c0 : r.f0 < 0
    · exact Ev.congr (fun k => if_pos c0) (no (by simp [rowOk]; omega))
    refine Ev.congr (fun k => if_neg c0) ?_
    by_cases c1 : r.f0 ≥ 4
    · exact Ev.congr (fun k => if_pos c1) (no (by simp [rowOk]; omega))
    refine Ev.congr (fun k => if_neg c1) ?_
    by_cases c2 : r.f1 < 0
    · exact Ev.congr (fun k => if_pos c2) (no (by simp [rowOk]; omega))
    refine Ev.congr (fun k => if_neg c2) ?_
    by_cases c3 : r.f1 ≥ 100
    · exact Ev.congr (fun k => if_pos c3) (no (by simp [rowOk]; omega))
    refine Ev.congr (fun k => if_neg c3) (Ev.bind ⟨0, fun k _ => i_ok _ _⟩ ?_)
    cases c4 : okT r.f2.f0 r.f2.f1 with
    | false => exact Ev.congr (fun k => if_neg (by simp)) (no (by simp [rowOk, c4]))
    | true =>
      refine Ev.congr (fun k => if_pos rfl) ?_
      by_cases c5 : r.f3 < -99999
      · exact Ev.congr (fun k => if_pos c5) (no (by simp [rowOk]; omega))
      refine Ev.congr (fun k => if_neg c5) ?_
      by_cases c6 : r.f3 > 99999
      · exact Ev.congr (fun k => if_pos c6) (no (by simp [rowOk]; omega))
      refine Ev.congr (fun k => if_neg c6) ?_
      have : rowOk r = true := by simp only [rowOk, c4, Bool.and_eq_true, decide_eq_true_eq, true_and]; omega
      rw [this, Bool.true_and]
      exact ih (i + 1) (by omega)
theorem i_rows (l : List Rw) (hl : l.length ≤ 1048576) : Ev (fun k => impl_RowsOk.f k l) (rowsOk l) := by
  unfold impl_RowsOk.f rowsOk
  rw [Bool.and_comm]
  simpa using i_rows_loop l hl l.length 0 (by omega)


/-! rows: put into order, equal ones summed -/
def W64 : Int := 18446744073709551616
/-- key, value and time -/
def rkey (r : Rw) : Int × Int × Int × Int := (r.f0, r.f1, r.f2.f0, r.f2.f1)
def klt (a b : Int × Int × Int × Int) : Prop := a.1 < b.1 ∨ a.1 = b.1 ∧ (a.2.1 < b.2.1 ∨ a.2.1 = b.2.1 ∧ (a.2.2.1 < b.2.2.1 ∨ a.2.2.1 = b.2.2.1 ∧ a.2.2.2 < b.2.2.2))
instance (a b : Int × Int × Int × Int) : Decidable (klt a b) := by unfold klt; infer_instance
theorem klt_trans {a b c : Int × Int × Int × Int} (h : klt a b) (k : klt b c) : klt a c := by unfold klt at *; omega
theorem klt_irrefl (a : Int × Int × Int × Int) : ¬ klt a a := by unfold klt; omega
theorem klt_tri (a b : Int × Int × Int × Int) : klt a b ∨ a = b ∨ klt b a := by
  obtain ⟨a1, a2, a3, a4⟩ := a
  obtain ⟨b1, b2, b3, b4⟩ := b
  simp only [klt, Prod.mk.injEq]
  omega

def putR : List Rw → Rw → List Rw
  | [], r => [r]
  | x :: l, r => if klt (rkey r) (rkey x) then r :: x :: l else if rkey x = rkey r then { r with f3 := wrap64 (r.f3 + x.f3) } :: l else x :: putR l r
def csum (l : List Rw) : List Rw := l.foldl putR []
def consol (l : List Rw) : List Rw := (csum l).filter fun r => r.f3 != 0

/-! the reference's sums of rows -/
def cmpK (a b : Int × Int × Int × Int) : Int := if klt a b then -1 else if klt b a then 1 else 0
theorem comp_step {X Y : List Int} {c : Int} (i : Nat) (hX : X.length = 4) (hY : Y.length = 4) (hi : i < 4) (h1 : rd X (i : Int) < rd Y (i : Int) → c = -1) (h2 : rd Y (i : Int) < rd X (i : Int) → c = 1)
    (h3 : rd X (i : Int) = rd Y (i : Int) → Ev (fun k => spec_l2Comp.l0 k X Y ((i + 1 : Nat) : Int)) c) : Ev (fun k => spec_l2Comp.l0 k X Y (i : Int)) c := by
  refine Ev.step (fun k => by rw [spec_l2Comp.l0]) (Ev.congr (fun k => (if_pos (by omega)).trans ((if_pos (by omega)).trans (if_pos (by omega)))) ?_)
  by_cases c1 : rd X (i : Int) < rd Y (i : Int)
  · rw [h1 c1]
    exact Ev.congr (fun k => if_pos c1) (Ev.now _)
  · refine Ev.congr (fun k => if_neg c1) ?_
    by_cases c2 : rd X (i : Int) > rd Y (i : Int)
    · rw [h2 c2]
      exact Ev.congr (fun k => if_pos c2) (Ev.now _)
    · refine Ev.congr (fun k => if_neg c2) ?_
      rw [w64 (by omega) (by omega)]
      exact h3 (by omega)
theorem s_comp (x y : Rw) : Ev (fun k => spec_l2Comp.f k x.f0 x.f1 x.f2.f0 x.f2.f1 x.f3 y.f0 y.f1 y.f2.f0 y.f2.f1 y.f3) (cmpK (rkey x) (rkey y)) := by
  unfold spec_l2Comp.f
  obtain ⟨a0, a1, ⟨a2, a3⟩, a4⟩ := x
  obtain ⟨b0, b1, ⟨b2, b3⟩, b4⟩ := y
  simp only [rkey]
  have r0 : rd [a0, a1, a2, a3] ((0 : Nat) : Int) = a0 := rfl
  have r1 : rd [a0, a1, a2, a3] ((1 : Nat) : Int) = a1 := rfl
  have r2 : rd [a0, a1, a2, a3] ((2 : Nat) : Int) = a2 := rfl
  have r3 : rd [a0, a1, a2, a3] ((3 : Nat) : Int) = a3 := rfl
  have s0 : rd [b0, b1, b2, b3] ((0 : Nat) : Int) = b0 := rfl
  have s1 : rd [b0, b1, b2, b3] ((1 : Nat) : Int) = b1 := rfl
  have s2 : rd [b0, b1, b2, b3] ((2 : Nat) : Int) = b2 := rfl
  have s3 : rd [b0, b1, b2, b3] ((3 : Nat) : Int) = b3 := rfl
  have lo : ∀ {p q : Int × Int × Int × Int}, klt p q → cmpK p q = -1 := fun h => if_pos h
  have hi : ∀ {p q : Int × Int × Int × Int}, klt q p → cmpK p q = 1 := fun {p q} h => by
    unfold cmpK
    rw [if_neg (fun k => klt_irrefl p (klt_trans k h)), if_pos h]
  refine comp_step 0 rfl rfl (by omega) (fun h => lo (by unfold klt; simp only; omega)) (fun h => hi (by unfold klt; simp only; omega)) fun e0 => ?_
  refine comp_step 1 rfl rfl (by omega) (fun h => lo (by unfold klt; simp only; omega)) (fun h => hi (by unfold klt; simp only; omega)) fun e1 => ?_
  refine comp_step 2 rfl rfl (by omega) (fun h => lo (by unfold klt; simp only; omega)) (fun h => hi (by unfold klt; simp only; omega)) fun e2 => ?_
  refine comp_step 3 rfl rfl (by omega) (fun h => lo (by unfold klt; simp only; omega)) (fun h => hi (by unfold klt; simp only; omega)) fun e3 => ?_
  refine Ev.step (fun k => by rw [spec_l2Comp.l0]) (Ev.congr (fun k => if_neg (by simp)) ?_)
  have : cmpK (a0, a1, a2, a3) (b0, b1, b2, b3) = 0 := by
    unfold cmpK
    rw [if_neg (by unfold klt; simp only; omega), if_neg (by unfold klt; simp only; omega)]
  rw [this]
  exact Ev.now _

theorem putR_len (l : List Rw) (r : Rw) : (putR l r).length ≤ l.length + 1 := by
  induction l with
  | nil => simp [putR]
  | cons x l ih =>
    unfold putR
    split
    · simp
    · split <;> simp <;> omega
theorem csum_len (l : List Rw) : (csum l).length ≤ l.length := by
  have : ∀ (l a : List Rw), (l.foldl putR a).length ≤ a.length + l.length := by
    intro l
    induction l with
    | nil => intro a; simp
    | cons x l ih =>
      intro a
      have := ih (putR a x)
      have := putR_len a x
      simp only [List.foldl_cons, List.length_cons]
      omega
  have h := this l []
  simpa [csum] using h
theorem consol_len (l : List Rw) : (consol l).length ≤ l.length := Nat.le_trans (List.length_filter_le _ _) (csum_len l)
theorem put_done (l : List Rw) (hl : l.length ≤ 1048576) (d : Nat) : ∀ (i : Nat) (out : List Rw) (r : Rw), i + d = l.length → out.length ≤ i + 1 →
    Ev (fun k => spec_l2Put.l0 k l out true (i : Int) r.f0 r.f1 r.f2.f0 r.f2.f1 r.f3) (out ++ l.drop i) := by
  induction d with
  | zero =>
    intro i out r hi ho
    rw [List.drop_eq_nil_of_le (by omega), List.append_nil]
    refine Ev.step (fun k => by rw [spec_l2Put.l0]) (Ev.congr (fun k => (if_neg (by omega)).trans (if_pos rfl)) ?_)
    exact Ev.now out
  | succ d ih =>
    intro i out r hi ho
    refine Ev.step (fun k => by rw [spec_l2Put.l0]) (Ev.congr (fun k => (if_pos (by omega)).trans (if_pos (by omega))) ?_)
    refine Ev.bind (s_comp (rd_T38 l (i : Int)) r) (Ev.congr (fun k => if_pos rfl) ?_)
    refine Ev.step (fun k => by rw [spec_l2Put.j1]) (Ev.congr (fun k => (if_neg (by simp)).trans ((if_pos rfl).trans ((if_pos (by omega)).trans ((if_pos (by omega)).trans (if_pos (by omega)))))) ?_)
    rw [up1 (by omega : i < l.length) (by omega), rdR_drop (by omega : i < l.length)]
    have := ih (i + 1) (out ++ [rd_T38 l (i : Int)]) r (by omega) (by simp; omega)
    simpa using this
theorem put_loop (l : List Rw) (hl : l.length ≤ 1048576) (r : Rw) (d : Nat) : ∀ (i : Nat) (out : List Rw), i + d = l.length → out.length ≤ i →
    Ev (fun k => spec_l2Put.l0 k l out false (i : Int) r.f0 r.f1 r.f2.f0 r.f2.f1 r.f3) (out ++ putR (l.drop i) r) := by
  induction d with
  | zero =>
    intro i out hi ho
    rw [List.drop_eq_nil_of_le (by omega)]
    refine Ev.step (fun k => by rw [spec_l2Put.l0]) (Ev.congr (fun k => (if_neg (by omega)).trans ((if_neg (by simp)).trans (if_pos (by omega)))) ?_)
    exact Ev.now _
  | succ d ih =>
    intro i out hi ho
    refine Ev.step (fun k => by rw [spec_l2Put.l0]) (Ev.congr (fun k => (if_pos (by omega)).trans (if_pos (by omega))) ?_)
    refine Ev.bind (s_comp (rd_T38 l (i : Int)) r) (Ev.congr (fun k => if_neg (by simp)) ?_)
    have e := rdR_drop (by omega : i < l.length)
    have fin := fun (o : List Rw) (r' : Rw) (h : o.length ≤ i + 2) => put_done l hl d (i + 1) o r' (by omega) h
    rw [e]
    refine Ev.step (fun k => by rw [spec_l2Put.j1]) ?_
    rw [up1 (by omega : i < l.length) (by omega)]
    by_cases c1 : klt (rkey r) (rkey (rd_T38 l (i : Int)))
    · have ec : cmpK (rkey (rd_T38 l (i : Int))) (rkey r) = 1 := by
        unfold cmpK
        rw [if_neg (fun k => klt_irrefl _ (klt_trans k c1)), if_pos c1]
      rw [ec, show putR (rd_T38 l (i : Int) :: l.drop (i + 1)) r = r :: rd_T38 l (i : Int) :: l.drop (i + 1) by simp [putR, c1]]
      refine Ev.congr (fun k => (if_pos rfl).trans (if_pos (by omega))) (Ev.bind (Ev.now _) (Ev.congr (fun k => (if_pos (by omega)).trans ((if_pos (by omega)).trans (if_pos (by simp; omega)))) ?_))
      have := fin (out ++ [r] ++ [rd_T38 l (i : Int)]) r (by simp; omega)
      simpa using this
    · by_cases c2 : rkey (rd_T38 l (i : Int)) = rkey r
      · have ec : cmpK (rkey (rd_T38 l (i : Int))) (rkey r) = 0 := by
          unfold cmpK
          rw [c2, if_neg (klt_irrefl _), if_neg (klt_irrefl _)]
        rw [ec, show putR (rd_T38 l (i : Int) :: l.drop (i + 1)) r = { r with f3 := wrap64 (r.f3 + (rd_T38 l (i : Int)).f3) } :: l.drop (i + 1) by simp only [putR]; rw [if_neg c1, if_pos c2]]
        refine Ev.congr (fun k => (if_neg (by simp)).trans ((if_neg (by simp)).trans ((if_pos rfl).trans ((if_pos (by omega)).trans ((if_pos (by omega)).trans (if_pos (by omega))))))) ?_
        have := fin (out ++ [{ r with f3 := wrap64 (r.f3 + (rd_T38 l (i : Int)).f3) }]) { r with f3 := wrap64 (r.f3 + (rd_T38 l (i : Int)).f3) } (by simp; omega)
        simpa using this
      · have c3 : klt (rkey (rd_T38 l (i : Int))) (rkey r) := by
          rcases klt_tri (rkey (rd_T38 l (i : Int))) (rkey r) with t | t | t
          · exact t
          · exact absurd t c2
          · exact absurd t c1
        have ec : cmpK (rkey (rd_T38 l (i : Int))) (rkey r) = -1 := if_pos c3
        rw [ec, show putR (rd_T38 l (i : Int) :: l.drop (i + 1)) r = rd_T38 l (i : Int) :: putR (l.drop (i + 1)) r by simp only [putR]; rw [if_neg c1, if_neg c2]]
        refine Ev.congr (fun k => (if_neg (by simp)).trans ((if_neg (by simp)).trans ((if_neg (by simp)).trans ((if_pos (by omega)).trans ((if_pos (by omega)).trans (if_pos (by omega))))))) ?_
        have := ih (i + 1) (out ++ [rd_T38 l (i : Int)]) (by omega) (by simp; omega)
        simpa using this
theorem s_put (l : List Rw) (hl : l.length ≤ 1048576) (r : Rw) : Ev (fun k => spec_l2Put.f k l r.f0 r.f1 r.f2.f0 r.f2.f1 r.f3) (putR l r) := by
  unfold spec_l2Put.f
  simpa using put_loop l hl r l.length 0 [] (by omega) (by simp)
theorem sum_l1 (l : List Rw) (hl : l.length ≤ 1048576) (d : Nat) : ∀ (i : Nat) (out : List Rw), i + d = l.length → out.length ≤ i →
    Ev (fun k => spec_l2Sum.l1 k l out (i : Int)) (out ++ (l.drop i).filter fun r => r.f3 != 0) := by
  induction d with
  | zero =>
    intro i out hi ho
    rw [List.drop_eq_nil_of_le (by omega)]
    refine Ev.step (fun k => by rw [spec_l2Sum.l1]) (Ev.congr (fun k => if_neg (by omega)) ?_)
    simpa using Ev.now out
  | succ d ih =>
    intro i out hi ho
    refine Ev.step (fun k => by rw [spec_l2Sum.l1]) (Ev.congr (fun k => (if_pos (by omega)).trans (if_pos (by omega))) ?_)
    rw [up1 (by omega : i < l.length) (by omega), rdR_drop (by omega : i < l.length)]
    by_cases h : (rd_T38 l (i : Int)).f3 = 0
    · rw [List.filter_cons_of_neg (by simp [h])]
      exact Ev.congr (fun k => if_pos h) (ih (i + 1) out (by omega) (by omega))
    · rw [List.filter_cons_of_pos (by simp [h])]
      have := ih (i + 1) (out ++ [rd_T38 l (i : Int)]) (by omega) (by simp; omega)
      exact Ev.congr (fun k => (if_neg h).trans (if_pos (by omega))) (by simpa using this)
theorem sum_l0 (l : List Rw) (hl : l.length ≤ 1048576) (d : Nat) : ∀ (i : Nat) (s : List Rw), i + d = l.length → s.length ≤ i →
    Ev (fun k => spec_l2Sum.l0 k l s (i : Int)) (((l.drop i).foldl putR s).filter fun r => r.f3 != 0) := by
  induction d with
  | zero =>
    intro i s hi hs
    rw [List.drop_eq_nil_of_le (by omega)]
    refine Ev.step (fun k => by rw [spec_l2Sum.l0]) (Ev.congr (fun k => if_neg (by omega)) ?_)
    simpa using sum_l1 s (by omega) s.length 0 [] (by omega) (by simp)
  | succ d ih =>
    intro i s hi hs
    refine Ev.step (fun k => by rw [spec_l2Sum.l0]) (Ev.congr (fun k => (if_pos (by omega)).trans (if_pos (by omega))) ?_)
    refine Ev.bind (s_put s (by omega) (rd_T38 l (i : Int))) ?_
    rw [up1 (by omega : i < l.length) (by omega), rdR_drop (by omega : i < l.length), List.foldl_cons]
    have := putR_len s (rd_T38 l (i : Int))
    exact ih (i + 1) _ (by omega) (by omega)
theorem s_sum (l : List Rw) (hl : l.length ≤ 1048576) : Ev (fun k => spec_l2Sum.f k l) (consol l) := by
  unfold spec_l2Sum.f
  simpa [consol, csum] using sum_l0 l hl l.length 0 [] (by omega) (by simp)

/-! items as rows of one time -/
def rwI (x : It) : Rw := ⟨x.f0, x.f1, ⟨0, 0⟩, x.f2⟩
def itR (r : Rw) : It := ⟨r.f0, r.f1, r.f3⟩
def itemsOf (l : List It) : List It := (consol (l.map rwI)).map itR
theorem itemsOf_len (l : List It) : (itemsOf l).length ≤ l.length := by
  unfold itemsOf
  have := consol_len (l.map rwI)
  simpa using this
theorem items_l1 (l : List Rw) (hl : l.length ≤ 1048576) (d : Nat) : ∀ (i : Nat) (out : List It), i + d = l.length → out.length ≤ i →
    Ev (fun k => spec_l2Items.l1 k l out (i : Int)) (out ++ (l.drop i).map itR) := by
  induction d with
  | zero =>
    intro i out hi ho
    rw [List.drop_eq_nil_of_le (by omega)]
    refine Ev.step (fun k => by rw [spec_l2Items.l1]) (Ev.congr (fun k => if_neg (by omega)) ?_)
    simpa using Ev.now out
  | succ d ih =>
    intro i out hi ho
    refine Ev.step (fun k => by rw [spec_l2Items.l1]) (Ev.congr (fun k => (if_pos (by omega)).trans ((if_pos (by omega)).trans (if_pos (by omega)))) ?_)
    rw [up1 (by omega : i < l.length) (by omega), rdR_drop (by omega : i < l.length)]
    have := ih (i + 1) (out ++ [itR (rd_T38 l (i : Int))]) (by omega) (by simp; omega)
    simpa [itR] using this
theorem items_l0 (l : List It) (hl : l.length ≤ 1048576) (d : Nat) : ∀ (i : Nat) (out : List Rw), i + d = l.length → out.length ≤ i →
    Ev (fun k => spec_l2Items.l0 k l out (i : Int)) ((consol (out ++ (l.drop i).map rwI)).map itR) := by
  induction d with
  | zero =>
    intro i out hi ho
    rw [List.drop_eq_nil_of_le (by omega)]
    have hc := consol_len out
    refine Ev.step (fun k => by rw [spec_l2Items.l0]) (Ev.congr (fun k => if_neg (by omega)) ?_)
    refine Ev.bind (s_sum out (by omega)) ?_
    simpa using items_l1 (consol out) (by omega) (consol out).length 0 [] (by omega) (by simp)
  | succ d ih =>
    intro i out hi ho
    refine Ev.step (fun k => by rw [spec_l2Items.l0]) (Ev.congr (fun k => (if_pos (by omega)).trans ((if_pos (by omega)).trans (if_pos (by omega)))) ?_)
    rw [up1 (by omega : i < l.length) (by omega), rdI_drop (by omega : i < l.length)]
    have := ih (i + 1) (out ++ [rwI (rd_T83 l (i : Int))]) (by omega) (by simp; omega)
    simpa [rwI] using this
theorem s_items (l : List It) (hl : l.length ≤ 1048576) : Ev (fun k => spec_l2Items.f k l) (itemsOf l) := by
  unfold spec_l2Items.f itemsOf
  simpa using items_l0 l hl l.length 0 [] (by omega) (by simp)

/-! BatchAt, of the reference -/
def rowsAt (l : List Rw) (a b : Int) : List It := (l.filter fun r => leT r.f2.f0 r.f2.f1 a b).map itR
def batchAt (l : List Rw) (a b : Int) : List It := if rowsOk l && okT a b then itemsOf (rowsAt l a b) else []
theorem rowsAt_len (l : List Rw) (a b : Int) : (rowsAt l a b).length ≤ l.length := by
  unfold rowsAt
  rw [List.length_map]
  exact List.length_filter_le _ _
theorem batchAt_len (l : List Rw) (a b : Int) : (batchAt l a b).length ≤ l.length := by
  unfold batchAt
  split
  · exact Nat.le_trans (itemsOf_len _) (rowsAt_len _ _ _)
  · simp
theorem at_loop (l : List Rw) (a b : Int) (hl : l.length ≤ 1048576) (d : Nat) : ∀ (i : Nat) (out : List It), i + d = l.length → out.length ≤ i →
    Ev (fun k => spec_BatchAt.l0 k l out (i : Int) a b) (itemsOf (out ++ rowsAt (l.drop i) a b)) := by
  induction d with
  | zero =>
    intro i out hi ho
    rw [List.drop_eq_nil_of_le (by omega)]
    refine Ev.step (fun k => by rw [spec_BatchAt.l0]) (Ev.congr (fun k => if_neg (by omega)) ?_)
    refine Ev.bind (s_items out (by omega)) ?_
    simpa [rowsAt] using Ev.now _
  | succ d ih =>
    intro i out hi ho
    refine Ev.step (fun k => by rw [spec_BatchAt.l0]) (Ev.congr (fun k => (if_pos (by omega)).trans (if_pos (by omega))) ?_)
    refine Ev.bind ⟨0, fun k _ => s_less _ _ _ _⟩ ?_
    rw [up1 (by omega : i < l.length) (by omega), rdR_drop (by omega : i < l.length)]
    cases h : leT (rd_T38 l (i : Int)).f2.f0 (rd_T38 l (i : Int)).f2.f1 a b with
    | true =>
      rw [show rowsAt (rd_T38 l (i : Int) :: l.drop (i + 1)) a b = itR (rd_T38 l (i : Int)) :: rowsAt (l.drop (i + 1)) a b by simp [rowsAt, h]]
      have := ih (i + 1) (out ++ [itR (rd_T38 l (i : Int))]) (by omega) (by simp; omega)
      exact Ev.congr (fun k => (if_pos rfl).trans (if_pos (by omega))) (by simpa [itR] using this)
    | false =>
      rw [show rowsAt (rd_T38 l (i : Int) :: l.drop (i + 1)) a b = rowsAt (l.drop (i + 1)) a b by simp [rowsAt, h]]
      exact Ev.congr (fun k => if_neg (by simp)) (ih (i + 1) out (by omega) (by omega))
theorem s_batchAt (l : List Rw) (a b : Int) (hl : l.length ≤ 1048576) : Ev (fun k => spec_BatchAt.f k l a b) (batchAt l a b) := by
  unfold spec_BatchAt.f batchAt
  refine Ev.bind (Ev.now _) (Ev.bind (s_rows l hl) ?_)
  have out : Ev (fun k => spec_BatchAt.j0 k l [] true a b) [] := by
    refine Ev.step (fun k => by rw [spec_BatchAt.j0]) ?_
    exact Ev.congr (fun k => if_pos rfl) (Ev.now _)
  cases rowsOk l with
  | false => exact Ev.congr (fun k => if_neg (by simp)) out
  | true =>
    refine Ev.congr (fun k => if_pos rfl) (Ev.bind ⟨0, fun k _ => s_ok _ _⟩ ?_)
    cases okT a b with
    | false => exact out
    | true =>
      refine Ev.step (fun k => by rw [spec_BatchAt.j0]) (Ev.congr (fun k => if_neg (by simp)) ?_)
      simpa using at_loop l a b hl l.length 0 [] (by omega) (by simp)

/-! the program's gathered items are the reference's -/
theorem put_rwI (a : List It) (x : It) : putR (a.map rwI) (rwI x) = (putI a x).map rwI := by
  induction a with
  | nil => rfl
  | cons y a ih =>
    rw [List.map_cons, putR, putI]
    by_cases h1 : ltI x y = true
    · have h1' := ltI_iff.1 h1
      rw [if_pos h1, if_pos (by unfold klt rkey rwI; simp only; omega)]
      rfl
    · have h1' : ¬ (x.f0 < y.f0 ∨ x.f0 = y.f0 ∧ x.f1 < y.f1) := fun k => h1 (ltI_iff.2 k)
      rw [if_neg h1, if_neg (by unfold klt rkey rwI; simp only; omega)]
      by_cases h2 : y.f0 = x.f0 ∧ y.f1 = x.f1
      · rw [if_pos h2, if_pos (by simp only [rkey, rwI, h2.1, h2.2])]
        rfl
      · rw [if_neg h2, if_neg (fun k => h2 (by simp only [rkey, rwI, Prod.mk.injEq] at k; exact ⟨k.1, k.2.1⟩)), ih]
        rfl
theorem fold_rwI (l : List It) : ∀ a : List It, (l.map rwI).foldl putR (a.map rwI) = (l.foldl putI a).map rwI := by
  induction l with
  | nil => intro a; rfl
  | cons x l ih =>
    intro a
    rw [List.map_cons, List.foldl_cons, List.foldl_cons, put_rwI, ih]
theorem gath_items (l : List It) : gathI l = itemsOf l := by
  unfold gathI itemsOf consol csum
  have := fold_rwI l []
  rw [List.map_nil] at this
  rw [this, List.filter_map, List.map_map]
  have e : (fun r : Rw => r.f3 != 0) ∘ rwI = fun x : It => x.f2 != 0 := rfl
  rw [e]
  have e2 : itR ∘ rwI = id := rfl
  rw [e2, List.map_id]
theorem i_gathered (l : List It) (hl : l.length ≤ 1000000) (hok : ∀ x ∈ l, ok83 x = true) : impl_gathered.f l = some (itemsOf l) := by
  unfold impl_gathered.f
  rw [if_pos ⟨hl, List.all_eq_true.2 hok⟩, gath_items]

/-! BatchAt, of the program -/
theorem i_belowT {a b c d : Int} (h : okT a b = true) (h2 : okT c d = true) : impl_below.f a b c d = some (leT a b c d) := by
  unfold impl_below.f leT
  rw [h, h2]
  by_cases h0 : a ≤ c <;> by_cases h1 : b ≤ d <;> simp [h0, h1]
theorem rowOk_it {x : Rw} (h : rowOk x = true) : ok83 (itR x) = true := by
  simp only [rowOk, okT, Bool.and_eq_true, decide_eq_true_eq] at h
  simp only [ok83, itR, Bool.and_eq_true, wf64_iff]
  omega
theorem rowOk_time {x : Rw} (h : rowOk x = true) : okT x.f2.f0 x.f2.f1 = true := by
  simp only [rowOk, Bool.and_eq_true] at h
  exact h.2.2.1
theorem present_loop (l : List Rw) (a b : Int) (hT : okT a b = true) (hl : l.length ≤ 1048576) (hok : ∀ x ∈ l, rowOk x = true) (d : Nat) : ∀ (i : Nat) (out : List It), i + d = l.length → out.length ≤ i → i ≤ 400 → d + i ≤ 400 → (∀ x ∈ out, ok83 x = true) →
    Ev (fun k => impl_present.l0 k out l (l.length : Int) (i : Int) a b) (itemsOf (out ++ rowsAt (l.drop i) a b)) := by
  induction d with
  | zero =>
    intro i out hi ho _ _ hz
    rw [List.drop_eq_nil_of_le (by omega)]
    refine Ev.step (fun k => by rw [impl_present.l0]) (Ev.congr (fun k => if_neg (by omega)) ?_)
    refine Ev.bind (a := itemsOf out) ⟨0, fun k _ => i_gathered out (by omega) hz⟩ ?_
    simpa [rowsAt] using Ev.now _
  | succ d ih =>
    intro i out hi ho h4 h5 hz
    have hlt : i < l.length := by omega
    have hm : rd_T38 l (i : Int) ∈ l := by
      have : rd_T38 l (i : Int) ∈ l.drop i := by rw [rdR_drop hlt]; exact List.mem_cons_self
      exact List.mem_of_mem_drop this
    refine Ev.step (fun k => by rw [impl_present.l0]) (Ev.congr (fun k => (if_pos (by omega)).trans ((if_pos (by omega)).trans (if_pos (by omega)))) ?_)
    rw [up1 hlt (by omega), rdR_drop hlt]
    have hk := hok _ hm
    generalize rd_T38 l (i : Int) = r at *
    refine Ev.bind ⟨0, fun k _ => i_belowT (rowOk_time hk) hT⟩ ?_
    cases h : leT r.f2.f0 r.f2.f1 a b with
    | true =>
      rw [show rowsAt (r :: l.drop (i + 1)) a b = itR r :: rowsAt (l.drop (i + 1)) a b by simp [rowsAt, h]]
      have := ih (i + 1) (out ++ [itR r]) (by omega) (by simp; omega) (by omega) (by omega) fun x hx => by
        rcases List.mem_append.1 hx with hx | hx
        · exact hz x hx
        · rw [List.mem_singleton.1 hx]; exact rowOk_it hk
      exact Ev.congr (fun k => (if_pos rfl).trans (if_pos (by omega))) (by simpa [itR] using this)
    | false =>
      rw [show rowsAt (r :: l.drop (i + 1)) a b = rowsAt (l.drop (i + 1)) a b by simp [rowsAt, h]]
      exact Ev.congr (fun k => if_neg (by simp)) (ih (i + 1) out (by omega) (by omega) (by omega) (by omega) hz)
theorem rowsOk_facts {l : List Rw} (h : rowsOk l = true) : l.length ≤ 400 ∧ ∀ x ∈ l, rowOk x = true := by
  unfold rowsOk at h
  simp only [Bool.and_eq_true, decide_eq_true_eq] at h
  exact ⟨h.1, List.all_eq_true.1 h.2⟩
theorem i_batchAt (l : List Rw) (a b : Int) (hl : l.length ≤ 1048576) : Ev (fun k => impl_BatchAt.f k l a b) (batchAt l a b) := by
  unfold impl_BatchAt.f batchAt
  refine Ev.bind (i_rows l hl) ?_
  cases hok : rowsOk l with
  | false => exact Ev.congr (fun k => if_neg (by simp)) (Ev.now _)
  | true =>
    obtain ⟨h1, g1⟩ := rowsOk_facts hok
    refine Ev.congr (fun k => if_pos rfl) (Ev.bind ⟨0, fun k _ => i_ok _ _⟩ ?_)
    cases hT : okT a b with
    | false => exact Ev.congr (fun k => if_neg (by simp)) (Ev.now _)
    | true =>
      refine Ev.congr (fun k => if_pos rfl) (Ev.bind (a := itemsOf (rowsAt l a b)) ?_ (Ev.now _))
      unfold impl_present.f
      have := present_loop l a b hT hl g1 l.length 0 [] (by omega) (by simp) (by omega) (by omega) (by simp)
      simpa using this

/-! marks -/
def numsI (a : Int) : Nat → List It
  | 0 => []
  | n + 1 => ⟨a, a + 1, a + 2⟩ :: numsI (a + 3) n
theorem rdI_set {l : List It} {i : Nat} (h : i < l.length) (v : It) : rd_T83 (l.set i v) (i : Int) = v := by
  unfold rd_T83
  rw [List.getD_eq_getElem?_getD, Int.toNat_natCast, List.getElem?_set_self h]
  rfl
theorem markI_loop (d : Nat) : ∀ (l : List It) (i : Nat) (a : Int), i + d = l.length → l.length ≤ 1048576 → 0 ≤ a → a + 3 * d ≤ 100000000 →
    Ev (fun k => laws_markItemS.l0 k l a (i : Int)) (a + 3 * (d : Int), l.take i ++ numsI a d) := by
  induction d with
  | zero =>
    intro l i a hi _ _ _
    refine Ev.step (fun k => by rw [laws_markItemS.l0]) (Ev.congr (fun k => if_neg (by omega)) ?_)
    rw [List.take_of_length_le (by omega)]
    simpa [numsI] using Ev.now (a, l)
  | succ d ih =>
    intro l i a hi hl h0 h1
    have hlt : i < l.length := by omega
    refine Ev.step (fun k => by rw [laws_markItemS.l0]) (Ev.congr (fun k => (if_pos (by omega)).trans (if_pos (by omega))) ?_)
    refine Ev.bind (Ev.now _) (Ev.bind (Ev.now _) ?_)
    have e1 : wrap64 (a + 1) = a + 1 := w64 (by omega) (by omega)
    have e2 : wrap64 (a + 1 + 1) = a + 2 := by rw [w64 (by omega) (by omega)]; omega
    have e3 : wrap64 (a + 2 + 1) = a + 3 := by rw [w64 (by omega) (by omega)]; omega
    simp only [e1, e2, e3, up1 hlt (by omega : l.length ≤ 4611686018427387904), Int.toNat_natCast, rdI_set hlt, List.set_set]
    have := ih (l.set i ⟨a, a + 1, a + 2⟩) (i + 1) (a + 3) (by simp; omega) (by simpa using hl) (by omega) (by omega)
    rw [List.take_succ_eq_append_getElem (by simpa using hlt), List.getElem_set_self, List.take_set_of_le (by omega)] at this
    have e4 : a + 3 + 3 * (d : Int) = a + 3 * ((d + 1 : Nat) : Int) := by omega
    rw [e4] at this
    simpa [numsI] using this
theorem markI_ev (l : List It) (hl : l.length ≤ 1048576) : Ev (fun k => laws_markItemS.f k l 1) (1 + 3 * (l.length : Int), numsI 1 l.length) := by
  unfold laws_markItemS.f
  simpa using markI_loop l.length l 0 1 (by omega) hl (by omega) (by omega)
theorem numsI_len (n : Nat) : ∀ a, (numsI a n).length = n := by
  induction n with
  | zero => intro a; rfl
  | succ n ih => intro a; simp [numsI, ih]
theorem heldI_loop (d : Nat) : ∀ (l : List It) (i : Nat) (a : Int), i + d = l.length → l.length ≤ 1048576 → 0 ≤ a → a + 3 * d ≤ 100000000 → l.drop i = numsI a d →
    Ev (fun k => laws_heldItemS.l0 k l a (i : Int)) (a + 3 * (d : Int)) := by
  induction d with
  | zero =>
    intro l i a hi _ _ _ _
    refine Ev.step (fun k => by rw [laws_heldItemS.l0]) (Ev.congr (fun k => if_neg (by omega)) ?_)
    simpa using Ev.now a
  | succ d ih =>
    intro l i a hi hl h0 h1 hd
    have hlt : i < l.length := by omega
    rw [rdI_drop hlt] at hd
    obtain ⟨hx, hr⟩ := List.cons.inj hd
    refine Ev.step (fun k => by rw [laws_heldItemS.l0]) (Ev.congr (fun k => (if_pos (by omega)).trans (if_pos (by omega))) ?_)
    have e1 : wrap64 (a + 1) = a + 1 := w64 (by omega) (by omega)
    have e2 : wrap64 (a + 1 + 1) = a + 2 := by rw [w64 (by omega) (by omega)]; omega
    have e3 : wrap64 (a + 2 + 1) = a + 3 := by rw [w64 (by omega) (by omega)]; omega
    rw [e1, e2, e3, up1 hlt (by omega), hx]
    have := ih l (i + 1) (a + 3) (by omega) hl (by omega) (by omega) hr
    have e4 : a + 3 + 3 * (d : Int) = a + 3 * ((d + 1 : Nat) : Int) := by omega
    rw [e4] at this
    exact Ev.congr (fun k => (if_pos rfl).trans ((if_pos rfl).trans (if_pos rfl))) this
theorem heldI_ev (n : Nat) (hn : n ≤ 1048576) : Ev (fun k => laws_heldItemS.f k (numsI 1 n) 1) (1 + 3 * (n : Int)) := by
  unfold laws_heldItemS.f
  have := heldI_loop n (numsI 1 n) 0 1 (by rw [numsI_len]; omega) (by rw [numsI_len]; omega) (by omega) (by omega) (by simp)
  simpa using this

theorem markR1 (l : List Rw) (hl : l.length ≤ 1048576) : laws_markRowS.f l 1 = some (1 + 5 * (l.length : Int), nums38 1 l.length) := by
  unfold laws_markRowS.f
  rw [if_pos ⟨by omega, by omega, by omega⟩]
theorem FnExactBatchAt (l : List RwA) (hm : l.length ≤ maxLen) {P : Prop} (_ : P) (a b : Int) {Q : Prop} (_ : Q) : ∃ k, laws_FnExactBatchAt.f k l a b = some true := by
  refine Ev.rounds ?_
  unfold laws_FnExactBatchAt.f
  by_cases h : 1048576 < l.length
  · exact Ev.bind ⟨0, fun k _ => szRowS_big l 1048576 hm (by omega) (by omega)⟩ (Ev.congr (fun k => if_pos (by omega)) (Ev.now _))
  have hl : l.length ≤ 1048576 := by omega
  have hc : (l.map cvR).length ≤ 1048576 := by simpa using hl
  refine Ev.bind ⟨0, fun k _ => szRowS_small l 1048576 (by omega) (by omega)⟩ (Ev.congr (fun k => if_neg (by omega)) ?_)
  have es := s_batchAt (l.map cvR) a b hc
  have ei := i_batchAt (l.map cvR) a b hc
  have hr := batchAt_len (l.map cvR) a b
  generalize batchAt (l.map cvR) a b = r at *
  have m1 := fun k : Nat => markR1 (l.map cvR) hc
  refine Ev.bind (toRowS_ev l hl) (Ev.bind (Ev.now _) (Ev.bind es (Ev.bind (toRowS_ev l hl) (Ev.bind (Ev.now _) (Ev.bind ei (Ev.bind (eqItemS_ev _ (by omega)) (Ev.congr (fun k => if_pos rfl) ?_)))))))
  refine Ev.bind (toRowS_ev l hl) (Ev.bind (eqRowS_ev _ hc) (Ev.congr (fun k => if_pos rfl) ?_))
  refine Ev.bind ⟨0, fun k _ => m1 k⟩ (Ev.congr (fun k => if_neg (by simp only; omega)) (Ev.bind (eqItemS_ev _ (by omega)) ?_))
  refine Ev.step (fun k => by rw [laws_FnExactBatchAt.j0]) (Ev.congr (fun k => if_neg (by simp)) ?_)
  refine Ev.bind (markI_ev _ (by omega)) (Ev.bind (heldI_ev _ (by omega)) (Ev.congr (fun k => (if_neg (by omega)).trans (if_pos rfl)) ?_))
  exact Ev.bind (toRowS_ev l hl) (Ev.bind (Ev.now _) (Ev.bind ei (Ev.bind (eqItemS_ev _ (by omega)) (Ev.congr (fun k => if_pos rfl) (Ev.bind (heldI_ev _ (by omega)) (Ev.congr (fun k => (if_neg (by omega)).trans (if_pos rfl)) (Ev.now _)))))))
end Go.Proofs.Ytjlkffmdmifahaa.Pure
