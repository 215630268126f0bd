/- The plain law of FnExactBatchMove. -/
import Derived.Test.YtjlkffmdmifahaaVFnExactBatchMovex
namespace Go.Proofs.Ytjlkffmdmifahaa.Pure
open Go.RowKit Go.Proofs.Ytjlkffmdmifahaa.PFnExactBatchMove Go.Proofs.YtjlkffmdmifahaaW.PrintWords Go.Proofs.YtjlkffmdmifahaaW.PrintLast Go.Proofs.Ytjlkffmdmifahaa.EvP
set_option linter.unusedVariables false
/-! what the functions on times say -/
def okT (a b : Int) : Bool := decide (0 ≤ a ∧ a ≤ 7 ∧ 0 ≤ b ∧ b ≤ 7)
def leT (a b c d : Int) : Bool := okT a b && okT c d && decide (a ≤ c ∧ b ≤ d)
theorem okT_true {a b : Int} (h : okT a b = true) : 0 ≤ a ∧ a ≤ 7 ∧ 0 ≤ b ∧ b ≤ 7 := of_decide_eq_true h
theorem leT_true {a b c d : Int} (h : leT a b c d = true) : (0 ≤ a ∧ a ≤ 7 ∧ 0 ≤ b ∧ b ≤ 7) ∧ (0 ≤ c ∧ c ≤ 7 ∧ 0 ≤ d ∧ d ≤ 7) ∧ a ≤ c ∧ b ≤ d := by simpa [leT, okT, and_assoc] using h
theorem leT_mk {a b c d : Int} (h : (0 ≤ a ∧ a ≤ 7 ∧ 0 ≤ b ∧ b ≤ 7) ∧ (0 ≤ c ∧ c ≤ 7 ∧ 0 ≤ d ∧ d ≤ 7) ∧ a ≤ c ∧ b ≤ d) : leT a b c d = true := by simpa [leT, okT, and_assoc] using h

theorem s_ok (a b : Int) : spec_TimeOk.f a b = some (okT a b) := by
  unfold spec_TimeOk.f spec_l6In.f okT
  by_cases h0 : 0 ≤ a <;> by_cases h1 : a ≤ 7 <;> by_cases h2 : 0 ≤ b <;> by_cases h3 : b ≤ 7 <;> simp [h0, h1, h2, h3]

theorem i_ok (a b : Int) : impl_TimeOk.f a b = some (okT a b) := by
  unfold impl_TimeOk.f okT
  by_cases h0 : 0 ≤ a <;> by_cases h1 : a ≤ 7 <;> by_cases h2 : 0 ≤ b <;> by_cases h3 : b ≤ 7 <;> simp [h0, h1, h2, h3]



theorem up1 {i n : Nat} (h : i < n) (hn : n ≤ 4611686018427387904) : wrap64 ((i : Int) + 1) = ((i + 1 : Nat) : Int) := by
  rw [w64 (by omega) (by omega)]; rfl

/-! lists of rows -/
abbrev Rw := S38
theorem rdR_drop {xs : List Rw} {i : Nat} (h : i < xs.length) : xs.drop i = rd_T38 xs (i : Int) :: xs.drop (i + 1) := by
  unfold rd_T38
  rw [List.drop_eq_getElem_cons h, List.getD_eq_getElem?_getD, Int.toNat_natCast, List.getElem?_eq_getElem h]
  rfl

/-! the laws' own rows made into the program's -/
abbrev RwA := S80
def cvR (x : RwA) : Rw := ⟨x.f0, x.f1, ⟨x.f2.f0, x.f2.f1⟩, x.f3⟩
theorem rdB_drop {xs : List RwA} {i : Nat} (h : i < xs.length) : xs.drop i = rd_T80 xs (i : Int) :: xs.drop (i + 1) := by
  unfold rd_T80
  rw [List.drop_eq_getElem_cons h, List.getD_eq_getElem?_getD, Int.toNat_natCast, List.getElem?_eq_getElem h]
  rfl
theorem toRowS_loop (l : List RwA) (hl : l.length ≤ 1048576) (d : Nat) : ∀ (i : Nat) (out : List Rw), i + d = l.length → out.length = l.length →
    Ev (fun k => laws_toRowS.l0 k l out (i : Int)) (out.take i ++ (l.drop i).map cvR) := by
  induction d with
  | zero =>
    intro i out hi ho
    refine Ev.step (fun k => by rw [laws_toRowS.l0]) ?_
    refine Ev.congr (fun k => if_neg (by omega)) ?_
    rw [List.take_of_length_le (by omega), List.drop_eq_nil_of_le (by omega)]
    simpa using Ev.now out
  | succ d ih =>
    intro i out hi ho
    have hlt : i < l.length := by omega
    refine Ev.step (fun k => by rw [laws_toRowS.l0]) ?_
    refine Ev.congr (fun k => (if_pos (by omega)).trans (if_pos (by omega))) ?_
    refine Ev.bind (Ev.now _) ?_
    refine Ev.congr (fun k => if_pos (by omega)) ?_
    rw [up1 hlt (by omega)]
    have := ih (i + 1) (out.set i (cvR (rd_T80 l (i : Int)))) (by omega) (by simpa using ho)
    rw [List.take_succ_eq_append_getElem (by simp; omega), List.getElem_set_self, List.take_set_of_le (by omega)] at this
    rw [rdB_drop hlt, List.map_cons]
    simpa [cvR] using this
theorem toRowS_ev (l : List RwA) (hl : l.length ≤ 1048576) : Ev (fun k => laws_toRowS.f k l) (l.map cvR) := by
  unfold laws_toRowS.f
  refine Ev.congr (fun k => (if_pos (by omega)).trans (if_pos (by omega))) ?_
  simpa using toRowS_loop l hl l.length 0 (List.replicate ((l.length : Int)).toNat z38) (by omega) (by simp)
theorem eqRowS_loop (l : List Rw) (hl : l.length ≤ 1048576) (d : Nat) : ∀ i : Nat, i + d = l.length → Ev (fun k => laws_eqRowS.l0 k l l (i : Int)) true := by
  induction d with
  | zero =>
    intro i hi
    refine Ev.step (fun k => by rw [laws_eqRowS.l0]) ?_
    exact Ev.congr (fun k => if_neg (by omega)) (Ev.now _)
  | succ d ih =>
    intro i hi
    refine Ev.step (fun k => by rw [laws_eqRowS.l0]) ?_
    refine Ev.congr (fun k => (if_pos (by omega)).trans ((if_pos (by omega)).trans (if_pos (by omega)))) ?_
    refine Ev.bind (a := true) ⟨0, fun k _ => by simp [laws_eqRow.f, laws_eqTime.f]⟩ (Ev.congr (fun k => if_pos rfl) ?_)
    rw [up1 (by omega : i < l.length) (by omega)]
    exact ih (i + 1) (by omega)
theorem eqRowS_ev (l : List Rw) (hl : l.length ≤ 1048576) : Ev (fun k => laws_eqRowS.f k l l) true := by
  unfold laws_eqRowS.f
  exact Ev.congr (fun k => if_pos rfl) (eqRowS_loop l hl l.length 0 (by omega))
theorem szRowS_big (l : List RwA) (a : Int) (hm : l.length ≤ maxLen) (h0 : 0 ≤ a) (h : a < l.length) : laws_szRowS.f l a = some (-1) := by
  unfold maxLen at hm
  unfold laws_szRowS.f
  rw [w64 (by omega) (by omega), if_pos (by omega)]
theorem szRowS_small (l : List RwA) (a : Int) (ha : a ≤ 1048576) (h : (l.length : Int) ≤ a) : laws_szRowS.f l a = some (a - (l.length : Int)) := by
  unfold laws_szRowS.f
  rw [w64 (by omega) (by omega), if_neg (by omega)]

/-! lists of times -/
abbrev Tm := S36
theorem rdT_drop {xs : List Tm} {i : Nat} (h : i < xs.length) : xs.drop i = rd_T36 xs (i : Int) :: xs.drop (i + 1) := by
  unfold rd_T36
  rw [List.drop_eq_getElem_cons h, List.getD_eq_getElem?_getD, Int.toNat_natCast, List.getElem?_eq_getElem h]
  rfl

/-! the laws' own times made into the program's -/
abbrev TmA := S56
def cvT (x : TmA) : Tm := ⟨x.f0, x.f1⟩
theorem rdA_drop {xs : List TmA} {i : Nat} (h : i < xs.length) : xs.drop i = rd_T56 xs (i : Int) :: xs.drop (i + 1) := by
  unfold rd_T56
  rw [List.drop_eq_getElem_cons h, List.getD_eq_getElem?_getD, Int.toNat_natCast, List.getElem?_eq_getElem h]
  rfl
theorem toTimeS_loop (l : List TmA) (hl : l.length ≤ 1048576) (d : Nat) : ∀ (i : Nat) (out : List Tm), i + d = l.length → out.length = l.length →
    Ev (fun k => laws_toTimeS.l0 k l out (i : Int)) (out.take i ++ (l.drop i).map cvT) := by
  induction d with
  | zero =>
    intro i out hi ho
    refine Ev.step (fun k => by rw [laws_toTimeS.l0]) ?_
    refine Ev.congr (fun k => if_neg (by omega)) ?_
    rw [List.take_of_length_le (by omega), List.drop_eq_nil_of_le (by omega)]
    simpa using Ev.now out
  | succ d ih =>
    intro i out hi ho
    have hlt : i < l.length := by omega
    refine Ev.step (fun k => by rw [laws_toTimeS.l0]) ?_
    refine Ev.congr (fun k => (if_pos (by omega)).trans (if_pos (by omega))) ?_
    refine Ev.bind (Ev.now _) ?_
    refine Ev.congr (fun k => if_pos (by omega)) ?_
    rw [up1 hlt (by omega)]
    have := ih (i + 1) (out.set i (cvT (rd_T56 l (i : Int)))) (by omega) (by simpa using ho)
    rw [List.take_succ_eq_append_getElem (by simp; omega), List.getElem_set_self, List.take_set_of_le (by omega)] at this
    rw [rdA_drop hlt, List.map_cons]
    simpa [cvT] using this
theorem toTimeS_ev (l : List TmA) (hl : l.length ≤ 1048576) : Ev (fun k => laws_toTimeS.f k l) (l.map cvT) := by
  unfold laws_toTimeS.f
  refine Ev.congr (fun k => (if_pos (by omega)).trans (if_pos (by omega))) ?_
  simpa using toTimeS_loop l hl l.length 0 (List.replicate ((l.length : Int)).toNat z36) (by omega) (by simp)
theorem eqTimeS_loop (l : List Tm) (hl : l.length ≤ 1048576) (d : Nat) : ∀ i : Nat, i + d = l.length → Ev (fun k => laws_eqTimeS.l0 k l l (i : Int)) true := by
  induction d with
  | zero =>
    intro i hi
    refine Ev.step (fun k => by rw [laws_eqTimeS.l0]) ?_
    exact Ev.congr (fun k => if_neg (by omega)) (Ev.now _)
  | succ d ih =>
    intro i hi
    refine Ev.step (fun k => by rw [laws_eqTimeS.l0]) ?_
    refine Ev.congr (fun k => (if_pos (by omega)).trans ((if_pos (by omega)).trans (if_pos (by omega)))) ?_
    refine Ev.bind (a := true) ⟨0, fun k _ => by simp [laws_eqTime.f]⟩ (Ev.congr (fun k => if_pos rfl) ?_)
    rw [up1 (by omega : i < l.length) (by omega)]
    exact ih (i + 1) (by omega)
theorem eqTimeS_ev (l : List Tm) (hl : l.length ≤ 1048576) : Ev (fun k => laws_eqTimeS.f k l l) true := by
  unfold laws_eqTimeS.f
  exact Ev.congr (fun k => if_pos rfl) (eqTimeS_loop l hl l.length 0 (by omega))
theorem szTimeS_big (l : List TmA) (hm : l.length ≤ maxLen) (h : 1048576 < l.length) : laws_szTimeS.f l 1048576 = some (-1) := by
  unfold maxLen at hm
  unfold laws_szTimeS.f
  rw [w64 (by omega) (by omega), if_pos (by omega)]
theorem szTimeS_small (l : List TmA) (a : Int) (ha : a ≤ 1048576) (h : (l.length : Int) ≤ a) : laws_szTimeS.f l a = some (a - (l.length : Int)) := by
  unfold laws_szTimeS.f
  rw [w64 (by omega) (by omega), if_neg (by omega)]

/-! marks on times -/
def numsT (a : Int) : Nat → List Tm
  | 0 => []
  | n + 1 => ⟨a, a + 1⟩ :: numsT (a + 2) n
theorem rdT_set {l : List Tm} {i : Nat} (h : i < l.length) (v : Tm) : rd_T36 (l.set i v) (i : Int) = v := by
  unfold rd_T36
  rw [List.getD_eq_getElem?_getD, Int.toNat_natCast, List.getElem?_set_self h]
  rfl
theorem markT_loop (d : Nat) : ∀ (l : List Tm) (i : Nat) (a : Int), i + d = l.length → l.length ≤ 1048576 → 0 ≤ a → a + 2 * d ≤ 100000000 →
    Ev (fun k => laws_markTimeS.l0 k l a (i : Int)) (a + 2 * (d : Int), l.take i ++ numsT a d) := by
  induction d with
  | zero =>
    intro l i a hi _ _ _
    refine Ev.step (fun k => by rw [laws_markTimeS.l0]) (Ev.congr (fun k => if_neg (by omega)) ?_)
    rw [List.take_of_length_le (by omega)]
    simpa [numsT] using Ev.now (a, l)
  | succ d ih =>
    intro l i a hi hl h0 h1
    have hlt : i < l.length := by omega
    refine Ev.step (fun k => by rw [laws_markTimeS.l0]) (Ev.congr (fun k => (if_pos (by omega)).trans (if_pos (by omega))) ?_)
    refine Ev.bind (Ev.now _) ?_
    have e1 : wrap64 (a + 1) = a + 1 := w64 (by omega) (by omega)
    have e2 : wrap64 (a + 1 + 1) = a + 2 := by rw [w64 (by omega) (by omega)]; omega
    simp only [e1, e2, up1 hlt (by omega : l.length ≤ 4611686018427387904), Int.toNat_natCast, rdT_set hlt, List.set_set]
    have := ih (l.set i ⟨a, a + 1⟩) (i + 1) (a + 2) (by simp; omega) (by simpa using hl) (by omega) (by omega)
    rw [List.take_succ_eq_append_getElem (by simpa using hlt), List.getElem_set_self, List.take_set_of_le (by omega)] at this
    have e4 : a + 2 + 2 * (d : Int) = a + 2 * ((d + 1 : Nat) : Int) := by omega
    rw [e4] at this
    simpa [numsT] using this
theorem markT_at (l : List Tm) (hl : l.length ≤ 1048576) (a : Int) (h0 : 0 ≤ a) (h1 : a ≤ 10000000) : Ev (fun k => laws_markTimeS.f k l a) (a + 2 * (l.length : Int), numsT a l.length) := by
  unfold laws_markTimeS.f
  simpa using markT_loop l.length l 0 a (by omega) hl h0 (by omega)
theorem markT_ev (l : List Tm) (hl : l.length ≤ 1048576) : Ev (fun k => laws_markTimeS.f k l 1) (1 + 2 * (l.length : Int), numsT 1 l.length) := markT_at l hl 1 (by omega) (by omega)
theorem numsT_len (n : Nat) : ∀ a, (numsT a n).length = n := by
  induction n with
  | zero => intro a; rfl
  | succ n ih => intro a; simp [numsT, ih]
/-! frontiers -/
def fOk1 (p : Tm) : List Tm → Bool
  | [] => true
  | y :: r => okT y.f0 y.f1 && (decide (p.f0 < y.f0) && decide (y.f1 < p.f1)) && fOk1 y r
def fOk : List Tm → Bool
  | [] => true
  | x :: r => okT x.f0 x.f1 && fOk1 x r
theorem sFront_loop (l : List Tm) (hl : l.length ≤ 1048576) (d : Nat) : ∀ i : Nat, i + 1 + d = l.length → Ev (fun k => spec_FrontOk.l0 k l ((i + 1 : Nat) : Int)) (fOk1 (rd_T36 l (i : Int)) (l.drop (i + 1))) := by
  induction d with
  | zero =>
    intro i hi
    refine Ev.step (fun k => by rw [spec_FrontOk.l0]) ?_
    refine Ev.congr (fun k => if_neg (by omega)) ?_
    rw [List.drop_eq_nil_of_le (by omega)]
    exact Ev.now _
  | succ d ih =>
    intro i hi
    rw [rdT_drop (by omega : i + 1 < l.length)]
    unfold fOk1
    have e : wrap64 (((i + 1 : Nat) : Int) - 1) = (i : Int) := by rw [w64 (by omega) (by omega)]; omega
    refine Ev.step (fun k => by rw [spec_FrontOk.l0]) ?_
    refine Ev.congr (fun k => (if_pos (by omega)).trans (if_pos (by omega))) ?_
    refine Ev.bind ⟨0, fun k _ => s_ok _ _⟩ ?_
    cases okT (rd_T36 l ((i + 1 : Nat) : Int)).f0 (rd_T36 l ((i + 1 : Nat) : Int)).f1 with
    | false => exact Ev.now _
    | true =>
      rw [e]
      refine Ev.congr (fun k => (if_pos rfl).trans ((if_pos (by omega)).trans ((if_pos (by omega)).trans (if_pos (by omega))))) ?_
      by_cases h1 : (rd_T36 l (i : Int)).f0 ≥ (rd_T36 l ((i + 1 : Nat) : Int)).f0
      · refine Ev.congr (fun k => if_pos h1) ?_
        rw [decide_eq_false (by omega)]
        exact Ev.now _
      · refine Ev.congr (fun k => if_neg h1) ?_
        rw [decide_eq_true (by omega)]
        by_cases h2 : (rd_T36 l (i : Int)).f1 ≤ (rd_T36 l ((i + 1 : Nat) : Int)).f1
        · refine Ev.congr (fun k => if_pos h2) ?_
          rw [decide_eq_false (by omega)]
          exact Ev.now _
        · refine Ev.congr (fun k => if_neg h2) ?_
          rw [decide_eq_true (by omega), up1 (by omega : i + 1 < l.length) (by omega)]
          exact ih (i + 1) (by omega)
theorem sFront_ev (l : List Tm) (hl : l.length ≤ 1048576) : Ev (fun k => spec_FrontOk.f k l) (fOk l) := by
  unfold spec_FrontOk.f
  cases l with
  | nil =>
    refine Ev.step (fun k => by rw [spec_FrontOk.l0]) ?_
    exact Ev.congr (fun k => if_neg (by simp)) (Ev.now _)
  | cons x r =>
    refine Ev.step (fun k => by rw [spec_FrontOk.l0]) ?_
    refine Ev.congr (fun k => (if_pos (by simp)).trans (if_pos (by omega))) ?_
    refine Ev.bind ⟨0, fun k _ => s_ok _ _⟩ ?_
    unfold fOk
    show Ev _ (okT (rd_T36 (x :: r) 0).f0 (rd_T36 (x :: r) 0).f1 && fOk1 (rd_T36 (x :: r) ((0 : Nat) : Int)) ((x :: r).drop (0 + 1)))
    cases okT (rd_T36 (x :: r) 0).f0 (rd_T36 (x :: r) 0).f1 with
    | false => exact Ev.now _
    | true =>
      refine Ev.congr (fun k => (if_pos rfl).trans (if_neg (by omega))) ?_
      have := sFront_loop (x :: r) hl r.length 0 (by simp; omega)
      simpa [w64] using this
theorem iFront_loop (l : List Tm) (hl : l.length ≤ 1048576) (d : Nat) : ∀ i : Nat, i + 1 + d = l.length → Ev (fun k => impl_FrontOk.l0 k l l (l.length : Int) ((i + 1 : Nat) : Int)) (fOk1 (rd_T36 l (i : Int)) (l.drop (i + 1))) := by
  induction d with
  | zero =>
    intro i hi
    refine Ev.step (fun k => by rw [impl_FrontOk.l0]) ?_
    refine Ev.congr (fun k => if_neg (by omega)) ?_
    rw [List.drop_eq_nil_of_le (by omega)]
    exact Ev.now _
  | succ d ih =>
    intro i hi
    rw [rdT_drop (by omega : i + 1 < l.length)]
    unfold fOk1
    have e : wrap64 (((i + 1 : Nat) : Int) - 1) = (i : Int) := by rw [w64 (by omega) (by omega)]; omega
    refine Ev.step (fun k => by rw [impl_FrontOk.l0]) ?_
    refine Ev.congr (fun k => (if_pos (by omega)).trans ((if_pos (by omega)).trans (if_pos (by omega)))) ?_
    refine Ev.bind ⟨0, fun k _ => i_ok _ _⟩ ?_
    cases okT (rd_T36 l ((i + 1 : Nat) : Int)).f0 (rd_T36 l ((i + 1 : Nat) : Int)).f1 with
    | false => exact Ev.now _
    | true =>
      rw [e]
      refine Ev.congr (fun k => (if_pos rfl).trans ((if_pos (by omega)).trans ((if_pos (by omega)).trans (if_pos (by omega))))) ?_
      by_cases h1 : (rd_T36 l (i : Int)).f0 ≥ (rd_T36 l ((i + 1 : Nat) : Int)).f0
      · refine Ev.congr (fun k => if_pos h1) ?_
        rw [decide_eq_false (by omega)]
        exact Ev.now _
      · refine Ev.congr (fun k => if_neg h1) ?_
        rw [decide_eq_true (by omega)]
        by_cases h2 : (rd_T36 l (i : Int)).f1 ≤ (rd_T36 l ((i + 1 : Nat) : Int)).f1
        · refine Ev.congr (fun k => if_pos h2) ?_
          rw [decide_eq_false (by omega)]
          exact Ev.now _
        · refine Ev.congr (fun k => if_neg h2) ?_
          rw [decide_eq_true (by omega), up1 (by omega : i + 1 < l.length) (by omega)]
          exact ih (i + 1) (by omega)
theorem iFront_ev (l : List Tm) (hl : l.length ≤ 1048576) : Ev (fun k => impl_FrontOk.f k l) (fOk l) := by
  unfold impl_FrontOk.f
  cases l with
  | nil =>
    refine Ev.step (fun k => by rw [impl_FrontOk.l0]) ?_
    exact Ev.congr (fun k => if_neg (by simp)) (Ev.now _)
  | cons x r =>
    refine Ev.step (fun k => by rw [impl_FrontOk.l0]) ?_
    refine Ev.congr (fun k => (if_pos (by simp)).trans ((if_pos (by omega)).trans (if_pos (by simp)))) ?_
    refine Ev.bind ⟨0, fun k _ => i_ok _ _⟩ ?_
    unfold fOk
    show Ev _ (okT (rd_T36 (x :: r) 0).f0 (rd_T36 (x :: r) 0).f1 && fOk1 (rd_T36 (x :: r) ((0 : Nat) : Int)) ((x :: r).drop (0 + 1)))
    cases okT (rd_T36 (x :: r) 0).f0 (rd_T36 (x :: r) 0).f1 with
    | false => exact Ev.now _
    | true =>
      refine Ev.congr (fun k => (if_pos rfl).trans (if_neg (by omega))) ?_
      have := iFront_loop (x :: r) hl r.length 0 (by simp; omega)
      simpa [w64] using this

theorem fOk1_ok {p : Tm} {l : List Tm} (h : fOk1 p l = true) : ∀ x ∈ l, okT x.f0 x.f1 = true := by
  induction l generalizing p with
  | nil => simp
  | cons y r ih =>
    simp only [fOk1, Bool.and_eq_true] at h
    intro x hx
    rcases List.mem_cons.1 hx with rfl | hx
    · exact h.1.1
    · exact ih h.2 x hx
theorem fOk_ok {l : List Tm} (h : fOk l = true) : ∀ x ∈ l, okT x.f0 x.f1 = true := by
  cases l with
  | nil => simp
  | cons y r =>
    simp only [fOk, Bool.and_eq_true] at h
    intro x hx
    rcases List.mem_cons.1 hx with rfl | hx
    · exact h.1
    · exact fOk1_ok h.2 x hx

def joT (a b c d : Int) : Int × Int := if okT a b && okT c d then (max a c, max b d) else (0, 0)
theorem s_join (a b c d : Int) : spec_TimeJoin.f a b c d = some (joT a b c d) := by
  unfold spec_TimeJoin.f joT
  rw [s_ok, s_ok, mx_def, mx_def]
  cases okT a b <;> cases okT c d <;> rfl
theorem i_join (a b c d : Int) : impl_TimeJoin.f a b c d = some (joT a b c d) := by
  unfold impl_TimeJoin.f joT
  rw [i_ok, i_ok, mx_def, mx_def]
  cases okT a b <;> cases okT c d <;> rfl

def meT (a b c d : Int) : Int × Int := if okT a b && okT c d then (min a c, min b d) else (0, 0)
theorem s_meet (a b c d : Int) : spec_TimeMeet.f a b c d = some (meT a b c d) := by
  unfold spec_TimeMeet.f meT
  rw [s_ok, s_ok, mn_def, mn_def]
  cases okT a b <;> cases okT c d <;> rfl
theorem i_meet (a b c d : Int) : impl_TimeMeet.f a b c d = some (meT a b c d) := by
  unfold impl_TimeMeet.f meT
  rw [i_ok, i_ok, mn_def, mn_def]
  cases okT a b <;> cases okT c d <;> rfl

/-! a time moved to a front -/
def mv1 (l : List Tm) (c e : Int) (a : Int × Int) : Int × Int := l.foldl (fun a x => (min a.1 (max x.f0 c), min a.2 (max x.f1 e))) a
def mvR (l : List Tm) (c e : Int) : Int × Int := match l with
  | [] => (c, e)
  | x :: r => mv1 r c e (max x.f0 c, max x.f1 e)
def mvT (l : List Tm) (c e : Int) : Int × Int := if fOk l && okT c e then mvR l c e else (0, 0)
theorem joT_ok {a b c d : Int} (h : okT a b = true) (k : okT c d = true) : joT a b c d = (max a c, max b d) := by simp [joT, h, k]
theorem meT_ok {a b c d : Int} (h : okT a b = true) (k : okT c d = true) : meT a b c d = (min a c, min b d) := by simp [meT, h, k]
theorem okT_max {a b c d : Int} (h : okT a b = true) (k : okT c d = true) : okT (max a c) (max b d) = true := by
  have := okT_true h; have := okT_true k
  exact decide_eq_true (by omega)
theorem okT_min {a b c d : Int} (h : okT a b = true) (k : okT c d = true) : okT (min a c) (min b d) = true := by
  have := okT_true h; have := okT_true k
  exact decide_eq_true (by omega)
theorem rdT_mem {l : List Tm} {i : Nat} (h : i < l.length) : rd_T36 l (i : Int) ∈ l := by
  have := rdT_drop h
  exact List.mem_of_mem_drop (this ▸ List.mem_cons_self)
theorem s_move_loop (l : List Tm) (c e : Int) (hl : l.length ≤ 1048576) (hv : ∀ x ∈ l, okT x.f0 x.f1 = true) (ht : okT c e = true) (d : Nat) : ∀ (i : Nat) (u v : Int), i + d = l.length → okT u v = true →
    Ev (fun k => spec_FrontMove.l0 k l (i : Int) c e u v) (mv1 (l.drop i) c e (u, v)) := by
  induction d with
  | zero =>
    intro i u v hi _
    rw [List.drop_eq_nil_of_le (by omega)]
    refine Ev.step (fun k => by rw [spec_FrontMove.l0]) ?_
    exact (Ev.congr (fun k => if_neg (by omega)) (Ev.now _))
  | succ d ih =>
    intro i u v hi ho
    have hx := hv _ (rdT_mem (by omega : i < l.length))
    rw [rdT_drop (by omega : i < l.length)]
    refine Ev.step (fun k => by rw [spec_FrontMove.l0]) (Ev.congr (fun k => (if_pos (by omega)).trans (if_pos (by omega))) ?_)
    refine Ev.bind ⟨0, fun k _ => (s_join _ _ _ _).trans (congrArg some (joT_ok hx ht))⟩ (Ev.bind ⟨0, fun k _ => (s_meet _ _ _ _).trans (congrArg some (meT_ok ho (okT_max hx ht)))⟩ ?_)
    rw [up1 (by omega : i < l.length) (by omega)]
    exact ih (i + 1) _ _ (by omega) (okT_min ho (okT_max hx ht))
theorem s_move (l : List Tm) (c e : Int) (hl : l.length ≤ 1048576) : Ev (fun k => spec_FrontMove.f k l c e) (mvT l c e) := by
  unfold spec_FrontMove.f mvT
  refine Ev.bind (sFront_ev l hl) ?_
  have out : Ev (fun k => spec_FrontMove.j0 k l true c e) ((0, 0) : Int × Int) := by
    refine Ev.step (fun k => by rw [spec_FrontMove.j0]) ?_
    exact Ev.congr (fun k => if_pos rfl) (Ev.now _)
  cases hf : fOk l with
  | false => exact Ev.congr (fun k => if_neg (by simp)) (by simpa using out)
  | true =>
    refine Ev.congr (fun k => if_pos rfl) (Ev.bind ⟨0, fun k _ => s_ok _ _⟩ ?_)
    cases ht : okT c e with
    | false => simpa using out
    | true =>
      have hv := fOk_ok hf
      refine Ev.step (fun k => by rw [spec_FrontMove.j0]) (Ev.congr (fun k => if_neg (by simp)) ?_)
      simp only [Bool.and_self, if_true]
      cases l with
      | nil => exact Ev.congr (fun k => if_pos rfl) (Ev.now _)
      | cons x r =>
        have hx := hv x List.mem_cons_self
        refine Ev.congr (fun k => (if_neg (by simp; omega)).trans (if_pos (by simp))) (Ev.bind ⟨0, fun k _ => (s_join _ _ _ _).trans (congrArg some (joT_ok (a := x.f0) (b := x.f1) hx ht))⟩ ?_)
        simpa [mvR] using s_move_loop (x :: r) c e hl hv ht r.length 1 _ _ (by simp; omega) (okT_max hx ht)
theorem i_move_loop (l : List Tm) (c e : Int) (hl : l.length ≤ 1048576) (hv : ∀ x ∈ l, okT x.f0 x.f1 = true) (ht : okT c e = true) (d : Nat) : ∀ (i : Nat) (u v : Int), i + d = l.length → okT u v = true →
    Ev (fun k => impl_moved.l0 k l (l.length : Int) (i : Int) c e u v) (mv1 (l.drop i) c e (u, v)) := by
  induction d with
  | zero =>
    intro i u v hi _
    rw [List.drop_eq_nil_of_le (by omega)]
    refine Ev.step (fun k => by rw [impl_moved.l0]) ?_
    exact (Ev.congr (fun k => if_neg (by omega)) (Ev.now _))
  | succ d ih =>
    intro i u v hi ho
    have hx := hv _ (rdT_mem (by omega : i < l.length))
    rw [rdT_drop (by omega : i < l.length)]
    refine Ev.step (fun k => by rw [impl_moved.l0]) (Ev.congr (fun k => (if_pos (by omega)).trans ((if_pos (by omega)).trans (if_pos (by omega)))) ?_)
    refine Ev.bind ⟨0, fun k _ => (i_join _ _ _ _).trans (congrArg some (joT_ok hx ht))⟩ (Ev.bind ⟨0, fun k _ => (i_meet _ _ _ _).trans (congrArg some (meT_ok ho (okT_max hx ht)))⟩ ?_)
    rw [up1 (by omega : i < l.length) (by omega)]
    exact ih (i + 1) _ _ (by omega) (okT_min ho (okT_max hx ht))
theorem i_moved (l : List Tm) (c e : Int) (hl : l.length ≤ 1048576) (hv : ∀ x ∈ l, okT x.f0 x.f1 = true) (ht : okT c e = true) : Ev (fun k => impl_moved.f k l c e) (mvR l c e) := by
  unfold impl_moved.f
  cases l with
  | nil => exact Ev.congr (fun k => if_pos rfl) (Ev.now _)
  | cons x r =>
    have hx := hv x List.mem_cons_self
    refine Ev.congr (fun k => (if_neg (by simp; omega)).trans (if_pos (by simp))) (Ev.bind ⟨0, fun k _ => (i_join _ _ _ _).trans (congrArg some (joT_ok (a := x.f0) (b := x.f1) hx ht))⟩ ?_)
    have := i_move_loop (x :: r) c e hl hv ht (r.length + 1) 0 _ _ (by simp) (okT_max hx ht)
    simpa [mvR, mv1] using this
theorem s_in (a b c : Int) : spec_l6In.f a b c = some (decide (b ≤ a ∧ a ≤ c)) := by
  unfold spec_l6In.f
  by_cases h0 : b ≤ a <;> by_cases h1 : a ≤ c <;> simp [h0, h1]

def rowOk (r : Rw) : Bool := decide (0 ≤ r.f0 ∧ r.f0 ≤ 3) && (decide (0 ≤ r.f1 ∧ r.f1 ≤ 99) && (okT r.f2.f0 r.f2.f1 && decide (-99999 ≤ r.f3 ∧ r.f3 ≤ 99999)))
def rowsOk (l : List Rw) : Bool := decide (l.length ≤ 400) && l.all rowOk
theorem s_l2Row (r : Rw) : spec_l2Row.f r.f0 r.f1 r.f2.f0 r.f2.f1 r.f3 = some (rowOk r) := by
  unfold spec_l2Row.f rowOk
  simp only [s_in, s_ok, Option.bind_some]
  cases decide (0 ≤ r.f0 ∧ r.f0 ≤ 3) <;> cases decide (0 ≤ r.f1 ∧ r.f1 ≤ 99) <;> cases okT r.f2.f0 r.f2.f1 <;> rfl
theorem s_rows_loop (l : List Rw) (hl : l.length ≤ 1048576) (d : Nat) : ∀ i : Nat, i + d = l.length → Ev (fun k => spec_RowsOk.l0 k l (i : Int)) ((l.drop i).all rowOk) := by
  induction d with
  | zero =>
    intro i hi
    rw [List.drop_eq_nil_of_le (by omega)]
    refine Ev.step (fun k => by rw [spec_RowsOk.l0]) ?_
    exact Ev.congr (fun k => if_neg (by omega)) (Ev.now _)
  | succ d ih =>
    intro i hi
    refine Ev.step (fun k => by rw [spec_RowsOk.l0]) ?_
    refine Ev.congr (fun k => (if_pos (by omega)).trans (if_pos (by omega))) ?_
    refine Ev.bind ⟨0, fun k _ => s_l2Row _⟩ ?_
    rw [rdR_drop (by omega : i < l.length), List.all_cons]
    cases rowOk (rd_T38 l (i : Int)) with
    | false => exact Ev.now _
    | true =>
      refine Ev.congr (fun k => if_pos rfl) ?_
      rw [up1 (by omega : i < l.length) (by omega)]
      exact ih (i + 1) (by omega)
theorem s_rows (l : List Rw) (hl : l.length ≤ 1048576) : Ev (fun k => spec_RowsOk.f k l) (rowsOk l) := by
  unfold spec_RowsOk.f rowsOk
  by_cases h : l.length ≤ 400
  · rw [decide_eq_true h]
    exact Ev.congr (fun k => if_neg (by omega)) (by simpa using s_rows_loop l hl l.length 0 (by omega))
  · rw [decide_eq_false h]
    exact Ev.congr (fun k => if_pos (by omega)) (Ev.now _)

theorem i_rows_loop (l : List Rw) (hl : l.length ≤ 1048576) (d : Nat) : ∀ i : Nat, i + d = l.length → Ev (fun k => impl_RowsOk.l0 k l l (l.length : Int) (i : Int)) (((l.drop i).all rowOk) && decide (l.length ≤ 400)) := by
  induction d with
  | zero =>
    intro i hi
    rw [List.drop_eq_nil_of_le (by omega)]
    refine Ev.step (fun k => by rw [impl_RowsOk.l0]) ?_
    refine Ev.congr (fun k => if_neg (by omega)) ?_
    have : decide ((l.length : Int) ≤ 400) = decide (l.length ≤ 400) := by rw [decide_eq_decide]; omega
    rw [this]
    exact Ev.now _
  | succ d ih =>
    intro i hi
    refine Ev.step (fun k => by rw [impl_RowsOk.l0]) ?_
    refine Ev.congr (fun k => (if_pos (by omega)).trans ((if_pos (by omega)).trans (if_pos (by omega)))) ?_
    rw [rdR_drop (by omega : i < l.length), List.all_cons, up1 (by omega : i < l.length) (by omega)]
    generalize rd_T38 l (i : Int) = r
    have no : rowOk r = false → Ev (fun _ : Nat => some false) ((rowOk r && ((l.drop (i + 1)).all rowOk)) && decide (l.length ≤ 400)) := fun h => by rw [h]; exact Ev.now _
    by_cases c0 : r.f0 < 0
    · exact Ev.congr (fun k => if_pos c0) (no (by simp [rowOk]; omega))
    refine Ev.congr (fun k => if_neg c0) ?_
    by_cases c1 : r.f0 ≥ 4
    · exact Ev.congr (fun k => if_pos c1) (no (by simp [rowOk]; omega))
    refine Ev.congr (fun k => if_neg c1) ?_
    by_cases c2 : r.f1 < 0
    · exact Ev.congr (fun k => if_pos c2) (no (by simp [rowOk]; omega))
    refine Ev.congr (fun k => if_neg c2) ?_
    by_cases c3 : r.f1 ≥ 100
    · exact Ev.congr (fun k => if_pos c3) (no (by simp [rowOk]; omega))
    refine Ev.congr (fun k => if_neg c3) (Ev.bind ⟨0, fun k _ => i_ok _ _⟩ ?_)
    cases c4 : okT r.f2.f0 r.f2.f1 with
    | false => exact Ev.congr (fun k => if_neg (by simp)) (no (by simp [rowOk, c4]))
    | true =>
      refine Ev.congr (fun k => if_pos rfl) ?_
      by_cases c5 : r.f3 < -99999
      · exact Ev.congr (fun k => if_pos c5) (no (by simp [rowOk]; omega))
      refine Ev.congr (fun k => if_neg c5) ?_
      by_cases c6 : r.f3 > 99999
      · exact Ev.congr (fun k => if_pos c6) (no (by simp [rowOk]; omega))
      refine Ev.congr (fun k => if_neg c6) ?_
      have : rowOk r = true := by simp only [rowOk, c4, Bool.and_eq_true, decide_eq_true_eq, true_and]; omega
      rw [this, Bool.true_and]
      exact ih (i + 1) (by omega)
theorem i_rows (l : List Rw) (hl : l.length ≤ 1048576) : Ev (fun k => impl_RowsOk.f k l) (rowsOk l) := by
  unfold impl_RowsOk.f rowsOk
  rw [Bool.and_comm]
  simpa using i_rows_loop l hl l.length 0 (by omega)


/-! rows: put into order, equal ones summed -/
def W64 : Int := 18446744073709551616
/-- key, value and time -/
def rkey (r : Rw) : Int × Int × Int × Int := (r.f0, r.f1, r.f2.f0, r.f2.f1)
def klt (a b : Int × Int × Int × Int) : Prop := a.1 < b.1 ∨ a.1 = b.1 ∧ (a.2.1 < b.2.1 ∨ a.2.1 = b.2.1 ∧ (a.2.2.1 < b.2.2.1 ∨ a.2.2.1 = b.2.2.1 ∧ a.2.2.2 < b.2.2.2))
instance (a b : Int × Int × Int × Int) : Decidable (klt a b) := by unfold klt; infer_instance
theorem klt_trans {a b c : Int × Int × Int × Int} (h : klt a b) (k : klt b c) : klt a c := by unfold klt at *; omega
theorem klt_irrefl (a : Int × Int × Int × Int) : ¬ klt a a := by unfold klt; omega
theorem klt_tri (a b : Int × Int × Int × Int) : klt a b ∨ a = b ∨ klt b a := by
  obtain ⟨a1, a2, a3, a4⟩ := a
  obtain ⟨b1, b2, b3, b4⟩ := b
  simp only [klt, Prod.mk.injEq]
  omega

def putR : List Rw → Rw → List Rw
  | [], r => [r]
  | x :: l, r => if klt (rkey r) (rkey x) then r :: x :: l else if rkey x = rkey r then { r with f3 := wrap64 (r.f3 + x.f3) } :: l else x :: putR l r
def csum (l : List Rw) : List Rw := l.foldl putR []
def consol (l : List Rw) : List Rw := (csum l).filter fun r => r.f3 != 0

/-! the reference's sums of rows -/
def cmpK (a b : Int × Int × Int × Int) : Int := if klt a b then -1 else if klt b a then 1 else 0
theorem comp_step {X Y : List Int} {c : Int} (i : Nat) (hX : X.length = 4) (hY : Y.length = 4) (hi : i < 4) (h1 : rd X (i : Int) < rd Y (i : Int) → c = -1) (h2 : rd Y (i : Int) < rd X (i : Int) → c = 1)
    (h3 : rd X (i : Int) = rd Y (i : Int) → Ev (fun k => spec_l2Comp.l0 k X Y ((i + 1 : Nat) : Int)) c) : Ev (fun k => spec_l2Comp.l0 k X Y (i : Int)) c := by
  refine Ev.step (fun k => by rw [spec_l2Comp.l0]) (Ev.congr (fun k => (if_pos (by omega)).trans ((if_pos (by omega)).trans (if_pos (by omega)))) ?_)
  by_cases c1 : rd X (i : Int) < rd Y (i : Int)
  · rw [h1 c1]
    exact Ev.congr (fun k => if_pos c1) (Ev.now _)
  · refine Ev.congr (fun k => if_neg c1) ?_
    by_cases c2 : rd X (i : Int) > rd Y (i : Int)
    · rw [h2 c2]
      exact Ev.congr (fun k => if_pos c2) (Ev.now _)
    · refine Ev.congr (fun k => if_neg c2) ?_
      rw [w64 (by omega) (by omega)]
      exact h3 (by omega)
theorem s_comp (x y : Rw) : Ev (fun k => spec_l2Comp.f k x.f0 x.f1 x.f2.f0 x.f2.f1 x.f3 y.f0 y.f1 y.f2.f0 y.f2.f1 y.f3) (cmpK (rkey x) (rkey y)) := by
  unfold spec_l2Comp.f
  obtain ⟨a0, a1, ⟨a2, a3⟩, a4⟩ := x
  obtain ⟨b0, b1, ⟨b2, b3⟩, b4⟩ := y
  simp only [rkey]
  have r0 : rd [a0, a1, a2, a3] ((0 : Nat) : Int) = a0 := rfl
  have r1 : rd [a0, a1, a2, a3] ((1 : Nat) : Int) = a1 := rfl
  have r2 : rd [a0, a1, a2, a3] ((2 : Nat) : Int) = a2 := rfl
  have r3 : rd [a0, a1, a2, a3] ((3 : Nat) : Int) = a3 := rfl
  have s0 : rd [b0, b1, b2, b3] ((0 : Nat) : Int) = b0 := rfl
  have s1 : rd [b0, b1, b2, b3] ((1 : Nat) : Int) = b1 := rfl
  have s2 : rd [b0, b1, b2, b3] ((2 : Nat) : Int) = b2 := rfl
  have s3 : rd [b0, b1, b2, b3] ((3 : Nat) : Int) = b3 := rfl
  have lo : ∀ {p q : Int × Int × Int × Int}, klt p q → cmpK p q = -1 := fun h => if_pos h
  have hi : ∀ {p q : Int × Int × Int × Int}, klt q p → cmpK p q = 1 := fun {p q} h => by
    unfold cmpK
    rw [if_neg (fun k => klt_irrefl p (klt_trans k h)), if_pos h]
  refine comp_step 0 rfl rfl (by omega) (fun h => lo (by unfold klt; simp only; omega)) (fun h => hi (by unfold klt; simp only; omega)) fun e0 => ?_
  refine comp_step 1 rfl rfl (by omega) (fun h => lo (by unfold klt; simp only; omega)) (fun h => hi (by unfold klt; simp only; omega)) fun e1 => ?_
  refine comp_step 2 rfl rfl (by omega) (fun h => lo (by unfold klt; simp only; omega)) (fun h => hi (by unfold klt; simp only; omega)) fun e2 => ?_
  refine comp_step 3 rfl rfl (by omega) (fun h => lo (by unfold klt; simp only; omega)) (fun h => hi (by unfold klt; simp only; omega)) fun e3 => ?_
  refine Ev.step (fun k => by rw [spec_l2Comp.l0]) (Ev.congr (fun k => if_neg (by simp)) ?_)
  have : cmpK (a0, a1, a2, a3) (b0, b1, b2, b3) = 0 := by
    unfold cmpK
    rw [if_neg (by unfold klt; simp only; omega), if_neg (by unfold klt; simp only; omega)]
  rw [this]
  exact Ev.now _

theorem putR_len (l : List Rw) (r : Rw) : (putR l r).length ≤ l.length + 1 := by
  induction l with
  | nil => simp [putR]
  | cons x l ih =>
    unfold putR
    split
    · simp
    · split <;> simp <;> omega
theorem csum_len (l : List Rw) : (csum l).length ≤ l.length := by
  have : ∀ (l a : List Rw), (l.foldl putR a).length ≤ a.length + l.length := by
    intro l
    induction l with
    | nil => intro a; simp
    | cons x l ih =>
      intro a
      have := ih (putR a x)
      have := putR_len a x
      simp only [List.foldl_cons, List.length_cons]
      omega
  have h := this l []
  simpa [csum] using h
theorem consol_len (l : List Rw) : (consol l).length ≤ l.length := Nat.le_trans (List.length_filter_le _ _) (csum_len l)
theorem put_done (l : List Rw) (hl : l.length ≤ 1048576) (d : Nat) : ∀ (i : Nat) (out : List Rw) (r : Rw), i + d = l.length → out.length ≤ i + 1 →
    Ev (fun k => spec_l2Put.l0 k l out true (i : Int) r.f0 r.f1 r.f2.f0 r.f2.f1 r.f3) (out ++ l.drop i) := by
  induction d with
  | zero =>
    intro i out r hi ho
    rw [List.drop_eq_nil_of_le (by omega), List.append_nil]
    refine Ev.step (fun k => by rw [spec_l2Put.l0]) (Ev.congr (fun k => (if_neg (by omega)).trans (if_pos rfl)) ?_)
    exact Ev.now out
  | succ d ih =>
    intro i out r hi ho
    refine Ev.step (fun k => by rw [spec_l2Put.l0]) (Ev.congr (fun k => (if_pos (by omega)).trans (if_pos (by omega))) ?_)
    refine Ev.bind (s_comp (rd_T38 l (i : Int)) r) (Ev.congr (fun k => if_pos rfl) ?_)
    refine Ev.step (fun k => by rw [spec_l2Put.j1]) (Ev.congr (fun k => (if_neg (by simp)).trans ((if_pos rfl).trans ((if_pos (by omega)).trans ((if_pos (by omega)).trans (if_pos (by omega)))))) ?_)
    rw [up1 (by omega : i < l.length) (by omega), rdR_drop (by omega : i < l.length)]
    have := ih (i + 1) (out ++ [rd_T38 l (i : Int)]) r (by omega) (by simp; omega)
    simpa using this
theorem put_loop (l : List Rw) (hl : l.length ≤ 1048576) (r : Rw) (d : Nat) : ∀ (i : Nat) (out : List Rw), i + d = l.length → out.length ≤ i →
    Ev (fun k => spec_l2Put.l0 k l out false (i : Int) r.f0 r.f1 r.f2.f0 r.f2.f1 r.f3) (out ++ putR (l.drop i) r) := by
  induction d with
  | zero =>
    intro i out hi ho
    rw [List.drop_eq_nil_of_le (by omega)]
    refine Ev.step (fun k => by rw [spec_l2Put.l0]) (Ev.congr (fun k => (if_neg (by omega)).trans ((if_neg (by simp)).trans (if_pos (by omega)))) ?_)
    exact Ev.now _
  | succ d ih =>
    intro i out hi ho
    refine Ev.step (fun k => by rw [spec_l2Put.l0]) (Ev.congr (fun k => (if_pos (by omega)).trans (if_pos (by omega))) ?_)
    refine Ev.bind (s_comp (rd_T38 l (i : Int)) r) (Ev.congr (fun k => if_neg (by simp)) ?_)
    have e := rdR_drop (by omega : i < l.length)
    have fin := fun (o : List Rw) (r' : Rw) (h : o.length ≤ i + 2) => put_done l hl d (i + 1) o r' (by omega) h
    rw [e]
    refine Ev.step (fun k => by rw [spec_l2Put.j1]) ?_
    rw [up1 (by omega : i < l.length) (by omega)]
    by_cases c1 : klt (rkey r) (rkey (rd_T38 l (i : Int)))
    · have ec : cmpK (rkey (rd_T38 l (i : Int))) (rkey r) = 1 := by
        unfold cmpK
        rw [if_neg (fun k => klt_irrefl _ (klt_trans k c1)), if_pos c1]
      rw [ec, show putR (rd_T38 l (i : Int) :: l.drop (i + 1)) r = r :: rd_T38 l (i : Int) :: l.drop (i + 1) by simp [putR, c1]]
      refine Ev.congr (fun k => (if_pos rfl).trans (if_pos (by omega))) (Ev.bind (Ev.now _) (Ev.congr (fun k => (if_pos (by omega)).trans ((if_pos (by omega)).trans (if_pos (by simp; omega)))) ?_))
      have := fin (out ++ [r] ++ [rd_T38 l (i : Int)]) r (by simp; omega)
      simpa using this
    · by_cases c2 : rkey (rd_T38 l (i : Int)) = rkey r
      · have ec : cmpK (rkey (rd_T38 l (i : Int))) (rkey r) = 0 := by
          unfold cmpK
          rw [c2, if_neg (klt_irrefl _), if_neg (klt_irrefl _)]
        rw [ec, show putR (rd_T38 l (i : Int) :: l.drop (i + 1)) r = { r with f3 := wrap64 (r.f3 + (rd_T38 l (i : Int)).f3) } :: l.drop (i + 1) by simp only [putR]; rw [if_neg c1, if_pos c2]]
        refine Ev.congr (fun k => (if_neg (by simp)).trans ((if_neg (by simp)).trans ((if_pos rfl).trans ((if_pos (by omega)).trans ((if_pos (by omega)).trans (if_pos (by omega))))))) ?_
        have := fin (out ++ [{ r with f3 := wrap64 (r.f3 + (rd_T38 l (i : Int)).f3) }]) { r with f3 := wrap64 (r.f3 + (rd_T38 l (i : Int)).f3) } (by simp; omega)
        simpa using this
      · have c3 : klt (rkey (rd_T38 l (i : Int))) (rkey r) := by
          rcases klt_tri (rkey (rd_T38 l (i : Int))) (rkey r) with t | t | t
          · exact t
          · exact absurd t c2
          · exact absurd t c1
        have ec : cmpK (rkey (rd_T38 l (i : Int))) (rkey r) = -1 := if_pos c3
        rw [ec, show putR (rd_T38 l (i : Int) :: l.drop (i + 1)) r = rd_T38 l (i : Int) :: putR (l.drop (i + 1)) r by simp only [putR]; rw [if_neg c1, if_neg c2]]
        refine Ev.congr (fun k => (if_neg (by simp)).trans ((if_neg (by simp)).trans ((if_neg (by simp)).trans ((if_pos (by omega)).trans ((if_pos (by omega)).trans (if_pos (by omega))))))) ?_
        have := ih (i + 1) (out ++ [rd_T38 l (i : Int)]) (by omega) (by simp; omega)
        simpa using this
theorem s_put (l : List Rw) (hl : l.length ≤ 1048576) (r : Rw) : Ev (fun k => spec_l2Put.f k l r.f0 r.f1 r.f2.f0 r.f2.f1 r.f3) (putR l r) := by
  unfold spec_l2Put.f
  simpa using put_loop l hl r l.length 0 [] (by omega) (by simp)
theorem sum_l1 (l : List Rw) (hl : l.length ≤ 1048576) (d : Nat) : ∀ (i : Nat) (out : List Rw), i + d = l.length → out.length ≤ i →
    Ev (fun k => spec_l2Sum.l1 k l out (i : Int)) (out ++ (l.drop i).filter fun r => r.f3 != 0) := by
  induction d with
  | zero =>
    intro i out hi ho
    rw [List.drop_eq_nil_of_le (by omega)]
    refine Ev.step (fun k => by rw [spec_l2Sum.l1]) (Ev.congr (fun k => if_neg (by omega)) ?_)
    simpa using Ev.now out
  | succ d ih =>
    intro i out hi ho
    refine Ev.step (fun k => by rw [spec_l2Sum.l1]) (Ev.congr (fun k => (if_pos (by omega)).trans (if_pos (by omega))) ?_)
    rw [up1 (by omega : i < l.length) (by omega), rdR_drop (by omega : i < l.length)]
    by_cases h : (rd_T38 l (i : Int)).f3 = 0
    · rw [List.filter_cons_of_neg (by simp [h])]
      exact Ev.congr (fun k => if_pos h) (ih (i + 1) out (by omega) (by omega))
    · rw [List.filter_cons_of_pos (by simp [h])]
      have := ih (i + 1) (out ++ [rd_T38 l (i : Int)]) (by omega) (by simp; omega)
      exact Ev.congr (fun k => (if_neg h).trans (if_pos (by omega))) (by simpa using this)
theorem sum_l0 (l : List Rw) (hl : l.length ≤ 1048576) (d : Nat) : ∀ (i : Nat) (s : List Rw), i + d = l.length → s.length ≤ i →
    Ev (fun k => spec_l2Sum.l0 k l s (i : Int)) (((l.drop i).foldl putR s).filter fun r => r.f3 != 0) := by
  induction d with
  | zero =>
    intro i s hi hs
    rw [List.drop_eq_nil_of_le (by omega)]
    refine Ev.step (fun k => by rw [spec_l2Sum.l0]) (Ev.congr (fun k => if_neg (by omega)) ?_)
    simpa using sum_l1 s (by omega) s.length 0 [] (by omega) (by simp)
  | succ d ih =>
    intro i s hi hs
    refine Ev.step (fun k => by rw [spec_l2Sum.l0]) (Ev.congr (fun k => (if_pos (by omega)).trans (if_pos (by omega))) ?_)
    refine Ev.bind (s_put s (by omega) (rd_T38 l (i : Int))) ?_
    rw [up1 (by omega : i < l.length) (by omega), rdR_drop (by omega : i < l.length), List.foldl_cons]
    have := putR_len s (rd_T38 l (i : Int))
    exact ih (i + 1) _ (by omega) (by omega)
theorem s_sum (l : List Rw) (hl : l.length ≤ 1048576) : Ev (fun k => spec_l2Sum.f k l) (consol l) := by
  unfold spec_l2Sum.f
  simpa [consol, csum] using sum_l0 l hl l.length 0 [] (by omega) (by simp)

theorem rw_ext {x y : Rw} (h : rkey x = rkey y) (hd : x.f3 = y.f3) : x = y := by
  obtain ⟨a, b, ⟨c, d⟩, e⟩ := x
  obtain ⟨a', b', ⟨c', d'⟩, e'⟩ := y
  simp only [rkey, Prod.mk.injEq] at h
  obtain ⟨rfl, rfl, rfl, rfl⟩ := h
  simp only at hd
  subst hd
  rfl
/-- the rows that have the property, summed -/
def wsum (p : Int × Int × Int × Int → Bool) : List Rw → Int
  | [] => 0
  | r :: l => (if p (rkey r) then r.f3 else 0) + wsum p l
theorem wsum_append (p : Int × Int × Int × Int → Bool) (a b : List Rw) : wsum p (a ++ b) = wsum p a + wsum p b := by
  induction a with
  | nil => simp [wsum]
  | cons x r ih => simp only [List.cons_append, wsum, ih]; omega
/-- the same modulo 2^64 -/
def mcong (a b : Int) : Prop := ∃ q : Int, a = b + q * 18446744073709551616
theorem mcong.refl (a : Int) : mcong a a := ⟨0, by omega⟩
theorem mcong.trans {a b c : Int} (h : mcong a b) (k : mcong b c) : mcong a c := by
  obtain ⟨q, rfl⟩ := h
  obtain ⟨s, rfl⟩ := k
  exact ⟨q + s, by omega⟩
theorem mcong.symm {a b : Int} (h : mcong a b) : mcong b a := by
  obtain ⟨q, rfl⟩ := h
  exact ⟨-q, by omega⟩
theorem mcong.add {a b c d : Int} (h : mcong a b) (k : mcong c d) : mcong (a + c) (b + d) := by
  obtain ⟨q, rfl⟩ := h
  obtain ⟨s, rfl⟩ := k
  exact ⟨q + s, by omega⟩
theorem mcong_wrap (a : Int) : mcong (wrap64 a) a := by
  unfold wrap64
  exact ⟨-((a + 9223372036854775808) / 18446744073709551616), by omega⟩
theorem mcong_eq {a b : Int} (h : mcong a b) (ha : -9223372036854775808 ≤ a ∧ a ≤ 9223372036854775807) (hb : -9223372036854775808 ≤ b ∧ b ≤ 9223372036854775807) : a = b := by
  obtain ⟨q, rfl⟩ := h
  omega
theorem wsum_put (p : Int × Int × Int × Int → Bool) (l : List Rw) (r : Rw) : mcong (wsum p (putR l r)) (wsum p l + (if p (rkey r) then r.f3 else 0)) := by
  induction l with
  | nil => exact ⟨0, by simp [putR, wsum]⟩
  | cons x l ih =>
    unfold putR
    split
    · exact ⟨0, by simp only [wsum]; omega⟩
    · split
      · rename_i _ he
        simp only [wsum]
        have : rkey { r with f3 := wrap64 (r.f3 + x.f3) } = rkey r := rfl
        rw [this, he]
        by_cases hp : p (rkey r) = true
        · simp only [hp, if_true]
          obtain ⟨q, hq⟩ := mcong_wrap (r.f3 + x.f3)
          exact ⟨q, by rw [hq]; omega⟩
        · simp only [hp]
          exact ⟨0, by simp⟩
      · simp only [wsum]
        obtain ⟨q, hq⟩ := ih
        exact ⟨q, by rw [hq]; omega⟩
theorem wsum_foldl (p : Int × Int × Int × Int → Bool) (l : List Rw) : ∀ a : List Rw, mcong (wsum p (l.foldl putR a)) (wsum p a + wsum p l) := by
  induction l with
  | nil => intro a; exact ⟨0, by simp [wsum]⟩
  | cons x l ih =>
    intro a
    simp only [List.foldl_cons]
    refine (ih (putR a x)).trans ?_
    obtain ⟨q, hq⟩ := wsum_put p a x
    exact ⟨q, by rw [hq]; simp only [wsum]; omega⟩
theorem wsum_filter (p : Int × Int × Int × Int → Bool) (l : List Rw) : wsum p (l.filter fun r => r.f3 != 0) = wsum p l := by
  induction l with
  | nil => rfl
  | cons x l ih =>
    by_cases h : x.f3 = 0
    · rw [List.filter_cons_of_neg (by simp [h])]
      simp only [wsum, h, ih]
      split <;> omega
    · rw [List.filter_cons_of_pos (by simp [h])]
      simp only [wsum, ih]
theorem wsum_consol (p : Int × Int × Int × Int → Bool) (l : List Rw) : mcong (wsum p (consol l)) (wsum p l) := by
  unfold consol csum
  rw [wsum_filter]
  have := wsum_foldl p l []
  simpa [wsum] using this
def Sorted (l : List Rw) : Prop := l.Pairwise fun x y => klt (rkey x) (rkey y)
theorem put_keys (l : List Rw) (r : Rw) : ∀ x ∈ putR l r, rkey x = rkey r ∨ ∃ y ∈ l, rkey x = rkey y := by
  induction l with
  | nil =>
    intro x hx
    rw [putR, List.mem_singleton] at hx
    exact .inl (by rw [hx])
  | cons y l ih =>
    intro x hx
    unfold putR at hx
    split at hx
    · rcases List.mem_cons.1 hx with rfl | hx
      · exact .inl rfl
      · exact .inr ⟨x, hx, rfl⟩
    · split at hx
      · rcases List.mem_cons.1 hx with rfl | hx
        · exact .inl rfl
        · exact .inr ⟨x, List.mem_cons_of_mem _ hx, rfl⟩
      · rcases List.mem_cons.1 hx with rfl | hx
        · exact .inr ⟨x, List.mem_cons_self, rfl⟩
        · rcases ih x hx with h | ⟨z, hz, h⟩
          · exact .inl h
          · exact .inr ⟨z, List.mem_cons_of_mem _ hz, h⟩
theorem put_sorted {l : List Rw} (h : Sorted l) (r : Rw) : Sorted (putR l r) := by
  induction l with
  | nil => exact List.pairwise_singleton _ _
  | cons y l ih =>
    have h2 := List.pairwise_cons.1 h
    unfold putR
    split
    · rename_i hk
      refine List.pairwise_cons.2 ⟨fun x hx => ?_, h⟩
      rcases List.mem_cons.1 hx with rfl | hx
      · exact hk
      · exact klt_trans hk (h2.1 x hx)
    · split
      · rename_i _ he
        refine List.pairwise_cons.2 ⟨fun x hx => ?_, h2.2⟩
        have := h2.1 x hx
        rw [he] at this
        exact this
      · rename_i h3 h4
        refine List.pairwise_cons.2 ⟨fun x hx => ?_, ih h2.2⟩
        rcases put_keys l r x hx with e | ⟨z, hz, e⟩
        · rw [e]
          rcases klt_tri (rkey y) (rkey r) with t | t | t
          · exact t
          · exact absurd t h4
          · exact absurd t h3
        · rw [e]
          exact h2.1 z hz
theorem csum_sorted (l : List Rw) : Sorted (csum l) := by
  have : ∀ a : List Rw, Sorted a → Sorted (l.foldl putR a) := by
    induction l with
    | nil => intro a ha; exact ha
    | cons x l ih => intro a ha; exact ih _ (put_sorted ha x)
  exact this [] List.Pairwise.nil
theorem consol_sorted (l : List Rw) : Sorted (consol l) := (csum_sorted l).filter _
theorem consol_ne (l : List Rw) : ∀ r ∈ consol l, r.f3 ≠ 0 := by
  intro r hr
  have := (List.mem_filter.1 hr).2
  simpa using this
def In64 (n : Int) : Prop := -9223372036854775808 ≤ n ∧ n ≤ 9223372036854775807
theorem in64_wrap (n : Int) : In64 (wrap64 n) := by unfold In64 wrap64; omega
theorem put_in64 {l : List Rw} {r : Rw} (h : ∀ x ∈ l, In64 x.f3) (hr : In64 r.f3) : ∀ x ∈ putR l r, In64 x.f3 := by
  induction l with
  | nil =>
    intro x hx
    rw [putR, List.mem_singleton] at hx
    rw [hx]
    exact hr
  | cons y l ih =>
    intro x hx
    unfold putR at hx
    split at hx
    · rcases List.mem_cons.1 hx with rfl | hx
      · exact hr
      · exact h x hx
    · split at hx
      · rcases List.mem_cons.1 hx with rfl | hx
        · exact in64_wrap _
        · exact h x (List.mem_cons_of_mem _ hx)
      · rcases List.mem_cons.1 hx with rfl | hx
        · exact h x List.mem_cons_self
        · exact ih (fun z hz => h z (List.mem_cons_of_mem _ hz)) x hx
theorem consol_in64 {l : List Rw} (h : ∀ x ∈ l, In64 x.f3) : ∀ x ∈ consol l, In64 x.f3 := by
  have : ∀ a : List Rw, (∀ x ∈ a, In64 x.f3) → ∀ x ∈ l.foldl putR a, In64 x.f3 := by
    induction l with
    | nil => intro a ha; exact ha
    | cons y l ih => intro a ha; exact ih (fun z hz => h z (List.mem_cons_of_mem _ hz)) _ (put_in64 ha (h y List.mem_cons_self))
  intro x hx
  exact this [] (fun x hx => by simp at hx) x (List.mem_filter.1 hx).1
/-- what is there of one key -/
def ksum (k : Int × Int × Int × Int) (l : List Rw) : Int := wsum (fun z => decide (z = k)) l
theorem wsum_none {p : Int × Int × Int × Int → Bool} {l : List Rw} (h : ∀ x ∈ l, p (rkey x) = false) : wsum p l = 0 := by
  induction l with
  | nil => rfl
  | cons y l ih =>
    simp only [wsum, h y List.mem_cons_self]
    rw [ih (fun x hx => h x (List.mem_cons_of_mem _ hx))]
    simp
theorem ksum_head {x : Rw} {l : List Rw} (h : Sorted (x :: l)) : ksum (rkey x) (x :: l) = x.f3 := by
  have h2 := (List.pairwise_cons.1 h).1
  unfold ksum
  simp only [wsum, decide_true, if_true]
  rw [wsum_none (fun y hy => ?_)]
  · omega
  · refine decide_eq_false fun e => ?_
    have := h2 y hy
    rw [e] at this
    exact klt_irrefl _ this
theorem ksum_low {k : Int × Int × Int × Int} {l : List Rw} (h : ∀ x ∈ l, klt k (rkey x)) : ksum k l = 0 :=
  wsum_none fun x hx => decide_eq_false fun e => by
    have := h x hx
    rw [e] at this
    exact klt_irrefl _ this
/-- Two lists in order, of rows that are not nothing, that say the same of each key are the same. -/
theorem sorted_unique : ∀ {a b : List Rw}, Sorted a → Sorted b → (∀ x ∈ a, x.f3 ≠ 0 ∧ In64 x.f3) → (∀ x ∈ b, x.f3 ≠ 0 ∧ In64 x.f3) → (∀ k, mcong (ksum k a) (ksum k b)) → a = b
  | [], [], _, _, _, _, _ => rfl
  | x :: a, [], ha, _, na, _, h => by
    have h1 := h (rkey x)
    rw [ksum_head ha] at h1
    have h2 := na x List.mem_cons_self
    exact absurd (mcong_eq h1 h2.2 (by simp [ksum, wsum])) h2.1
  | [], y :: b, _, hb, _, nb, h => by
    have h1 := h (rkey y)
    rw [ksum_head hb] at h1
    have h2 := nb y List.mem_cons_self
    exact absurd (mcong_eq h1.symm h2.2 (by simp [ksum, wsum])) h2.1
  | x :: a, y :: b, ha, hb, na, nb, h => by
    have ha2 := List.pairwise_cons.1 ha
    have hb2 := List.pairwise_cons.1 hb
    have nx := na x List.mem_cons_self
    have ny := nb y List.mem_cons_self
    rcases klt_tri (rkey x) (rkey y) with t | t | t
    · have h1 := h (rkey x)
      rw [ksum_head ha, ksum_low (l := y :: b) (fun z hz => by
        rcases List.mem_cons.1 hz with rfl | hz
        · exact t
        · exact klt_trans t (hb2.1 z hz))] at h1
      exact absurd (mcong_eq h1 nx.2 (by omega)) nx.1
    · have h1 := h (rkey x)
      rw [ksum_head ha, t, ksum_head hb] at h1
      have e := mcong_eq h1 nx.2 ny.2
      have exy : x = y := rw_ext t e
      subst exy
      congr 1
      refine sorted_unique ha2.2 hb2.2 (fun z hz => na z (List.mem_cons_of_mem _ hz)) (fun z hz => nb z (List.mem_cons_of_mem _ hz)) (fun k => ?_)
      obtain ⟨q, hq⟩ := h k
      simp only [ksum, wsum] at hq ⊢
      exact ⟨q, by omega⟩
    · have h1 := h (rkey y)
      rw [ksum_head hb, ksum_low (l := x :: a) (fun z hz => by
        rcases List.mem_cons.1 hz with rfl | hz
        · exact t
        · exact klt_trans t (ha2.1 z hz))] at h1
      exact absurd (mcong_eq h1.symm ny.2 (by omega)) ny.1
/-- A list in order that says of each key what the rows say is those rows consolidated. -/
theorem consol_unique {l a : List Rw} (hl : ∀ x ∈ l, In64 x.f3) (ha : Sorted a) (na : ∀ x ∈ a, x.f3 ≠ 0 ∧ In64 x.f3) (h : ∀ k, mcong (ksum k a) (ksum k l)) : a = consol l :=
  sorted_unique ha (consol_sorted l) na (fun x hx => ⟨consol_ne l x hx, consol_in64 hl x hx⟩) (fun k => (h k).trans (wsum_consol _ l).symm)
theorem consol_congr {l m : List Rw} (hl : ∀ x ∈ l, In64 x.f3) (hm : ∀ x ∈ m, In64 x.f3) (h : ∀ k, mcong (ksum k l) (ksum k m)) : consol l = consol m :=
  consol_unique hm (consol_sorted l) (fun x hx => ⟨consol_ne l x hx, consol_in64 hl x hx⟩) (fun k => (wsum_consol _ l).trans (h k))

/-! batches -/
def bOk1 (p : Rw) : List Rw → Bool
  | [] => true
  | y :: r => (y.f3 != 0) && decide (klt (rkey p) (rkey y)) && bOk1 y r
def bOk : List Rw → Bool
  | [] => true
  | x :: r => (x.f3 != 0) && bOk1 x r
def batchOk (l : List Rw) : Bool := rowsOk l && bOk l

theorem s_batch_loop (l : List Rw) (hl : l.length ≤ 1048576) (d : Nat) : ∀ i : Nat, i + 1 + d = l.length → Ev (fun k => spec_BatchOk.l0 k l ((i + 1 : Nat) : Int)) (bOk1 (rd_T38 l (i : Int)) (l.drop (i + 1))) := by
  induction d with
  | zero =>
    intro i hi
    refine Ev.step (fun k => by rw [spec_BatchOk.l0]) (Ev.congr (fun k => if_neg (by omega)) ?_)
    rw [List.drop_eq_nil_of_le (by omega)]
    exact Ev.now _
  | succ d ih =>
    intro i hi
    rw [rdR_drop (by omega : i + 1 < l.length)]
    unfold bOk1
    have e : wrap64 (((i + 1 : Nat) : Int) - 1) = (i : Int) := by rw [w64 (by omega) (by omega)]; omega
    refine Ev.step (fun k => by rw [spec_BatchOk.l0]) (Ev.congr (fun k => (if_pos (by omega)).trans (if_pos (by omega))) ?_)
    rw [e, up1 (by omega : i + 1 < l.length) (by omega)]
    have ih' := ih (i + 1) (by omega)
    generalize rd_T38 l ((i + 1 : Nat) : Int) = y at *
    generalize rd_T38 l (i : Int) = p at *
    by_cases h0 : y.f3 = 0
    · refine Ev.congr (fun k => if_pos h0) ?_
      rw [show (y.f3 != 0) = false by simp [h0]]
      exact Ev.now _
    · refine Ev.congr (fun k => (if_neg h0).trans ((if_pos (by omega)).trans ((if_pos (by omega)).trans (if_pos (by omega))))) (Ev.bind (s_comp p y) ?_)
      rw [show (y.f3 != 0) = true by simp [h0], Bool.true_and]
      by_cases h1 : klt (rkey p) (rkey y)
      · have : cmpK (rkey p) (rkey y) = -1 := if_pos h1
        rw [decide_eq_true h1, Bool.true_and, this]
        exact Ev.congr (fun k => if_neg (by omega)) ih'
      · have : cmpK (rkey p) (rkey y) ≥ 0 := by
          unfold cmpK
          rw [if_neg h1]
          split <;> omega
        rw [decide_eq_false h1, Bool.false_and]
        exact Ev.congr (fun k => if_pos this) (Ev.now _)
theorem s_batch (l : List Rw) (hl : l.length ≤ 1048576) : Ev (fun k => spec_BatchOk.f k l) (batchOk l) := by
  unfold spec_BatchOk.f batchOk
  refine Ev.bind (s_rows l hl) ?_
  cases rowsOk l with
  | false => exact Ev.congr (fun k => if_neg (by simp)) (Ev.now _)
  | true =>
    rw [Bool.true_and]
    refine Ev.congr (fun k => if_pos rfl) ?_
    cases l with
    | nil =>
      refine Ev.step (fun k => by rw [spec_BatchOk.l0]) ?_
      exact (Ev.congr (fun k => if_neg (by simp)) (Ev.now _))
    | cons x r =>
      refine Ev.step (fun k => by rw [spec_BatchOk.l0]) (Ev.congr (fun k => (if_pos (by simp)).trans (if_pos (by omega))) ?_)
      have hx : rd_T38 (x :: r) 0 = x := rfl
      rw [hx, show bOk (x :: r) = ((x.f3 != 0) && bOk1 x r) from rfl]
      by_cases h0 : x.f3 = 0
      · refine Ev.congr (fun k => if_pos h0) ?_
        rw [show (x.f3 != 0) = false by simp [h0]]
        exact Ev.now _
      · rw [show (x.f3 != 0) = true by simp [h0], Bool.true_and]
        refine Ev.congr (fun k => (if_neg h0).trans (if_neg (by omega))) ?_
        have := s_batch_loop (x :: r) hl r.length 0 (by simp; omega)
        simpa [w64, hx] using this

theorem i_ahead (a b c d : Int) : impl_ahead.f a b c d = some (decide (a < c ∨ a = c ∧ b < d)) := by
  unfold impl_ahead.f
  by_cases h0 : a < c
  · rw [if_pos h0, decide_eq_true (.inl h0)]
  · rw [if_neg h0]
    by_cases h1 : a = c
    · rw [if_pos h1]
      congr 1
      rw [decide_eq_decide]
      omega
    · rw [if_neg h1, decide_eq_false (by omega)]
theorem i_rowAhead (x y : Rw) : impl_rowAhead.f x.f0 x.f1 x.f2.f0 x.f2.f1 x.f3 y.f0 y.f1 y.f2.f0 y.f2.f1 y.f3 = some (decide (klt (rkey x) (rkey y))) := by
  unfold impl_rowAhead.f
  simp only [i_ahead, Option.bind_some]
  by_cases h0 : x.f0 = y.f0
  · rw [if_pos h0]
    by_cases h1 : x.f1 = y.f1
    · rw [if_pos h1]
      congr 1
      rw [decide_eq_decide]
      unfold klt rkey
      simp only
      omega
    · rw [if_neg h1]
      congr 1
      rw [decide_eq_decide]
      unfold klt rkey
      simp only
      omega
  · rw [if_neg h0]
    congr 1
    rw [decide_eq_decide]
    unfold klt rkey
    simp only
    omega
theorem i_batch_loop (l : List Rw) (hl : l.length ≤ 1048576) (d : Nat) : ∀ i : Nat, i + 1 + d = l.length → Ev (fun k => impl_BatchOk.l0 k l l (l.length : Int) ((i + 1 : Nat) : Int)) (rowsOk l && bOk1 (rd_T38 l (i : Int)) (l.drop (i + 1))) := by
  induction d with
  | zero =>
    intro i hi
    refine Ev.step (fun k => by rw [impl_BatchOk.l0]) (Ev.congr (fun k => if_neg (by omega)) ?_)
    rw [List.drop_eq_nil_of_le (by omega)]
    refine Ev.bind (i_rows l hl) ?_
    rw [show bOk1 (rd_T38 l (i : Int)) [] = true from rfl, Bool.and_true]
    exact Ev.now _
  | succ d ih =>
    intro i hi
    rw [rdR_drop (by omega : i + 1 < l.length)]
    unfold bOk1
    have e : wrap64 (((i + 1 : Nat) : Int) - 1) = (i : Int) := by rw [w64 (by omega) (by omega)]; omega
    refine Ev.step (fun k => by rw [impl_BatchOk.l0]) (Ev.congr (fun k => (if_pos (by omega)).trans ((if_pos (by omega)).trans (if_pos (by omega)))) ?_)
    rw [e, up1 (by omega : i + 1 < l.length) (by omega)]
    have ih' := ih (i + 1) (by omega)
    generalize rd_T38 l ((i + 1 : Nat) : Int) = y at *
    generalize rd_T38 l (i : Int) = p at *
    by_cases h0 : y.f3 = 0
    · refine Ev.congr (fun k => if_pos h0) ?_
      rw [show (y.f3 != 0) = false by simp [h0], Bool.false_and, Bool.false_and, Bool.and_false]
      exact Ev.now _
    · refine Ev.congr (fun k => (if_neg h0).trans ((if_pos (by omega)).trans ((if_pos (by omega)).trans (if_pos (by omega))))) (Ev.bind ⟨0, fun k _ => i_rowAhead p y⟩ ?_)
      rw [show (y.f3 != 0) = true by simp [h0], Bool.true_and]
      by_cases h1 : klt (rkey p) (rkey y)
      · rw [decide_eq_true h1, Bool.true_and]
        exact Ev.congr (fun k => if_pos rfl) ih'
      · rw [decide_eq_false h1, Bool.false_and, Bool.and_false]
        exact Ev.congr (fun k => if_neg (by simp)) (Ev.now _)
theorem i_batch (l : List Rw) (hl : l.length ≤ 1048576) : Ev (fun k => impl_BatchOk.f k l) (batchOk l) := by
  unfold impl_BatchOk.f batchOk
  cases l with
  | nil =>
    refine Ev.step (fun k => by rw [impl_BatchOk.l0]) (Ev.congr (fun k => if_neg (by simp)) (Ev.bind (i_rows [] hl) ?_))
    rw [show bOk [] = true from rfl, Bool.and_true]
    exact Ev.now _
  | cons x r =>
    refine Ev.step (fun k => by rw [impl_BatchOk.l0]) (Ev.congr (fun k => (if_pos (by simp)).trans ((if_pos (by omega)).trans (if_pos (by simp)))) ?_)
    have hx : rd_T38 (x :: r) 0 = x := rfl
    rw [hx, show bOk (x :: r) = ((x.f3 != 0) && bOk1 x r) from rfl]
    by_cases h0 : x.f3 = 0
    · refine Ev.congr (fun k => if_pos h0) ?_
      rw [show (x.f3 != 0) = false by simp [h0], Bool.false_and, Bool.and_false]
      exact Ev.now _
    · rw [show (x.f3 != 0) = true by simp [h0], Bool.true_and]
      refine Ev.congr (fun k => (if_neg h0).trans (if_neg (by omega))) ?_
      have := i_batch_loop (x :: r) hl r.length 0 (by simp; omega)
      simpa [w64, hx] using this

/-! marks of rows -/
theorem markR_at (l : List Rw) (hl : l.length ≤ 1048576) (a : Int) (h0 : 0 ≤ a) (h1 : a ≤ 100000000) : laws_markRowS.f l a = some (a + 5 * (l.length : Int), nums38 a l.length) := by
  unfold laws_markRowS.f
  rw [if_pos ⟨by omega, h0, h1⟩]
theorem heldR_loop (d : Nat) : ∀ (l : List Rw) (i : Nat) (a : Int), i + d = l.length → l.length ≤ 1048576 → 0 ≤ a → a + 5 * d ≤ 100000000 → l.drop i = nums38 a d →
    Ev (fun k => laws_heldRowS.l0 k l a (i : Int)) (a + 5 * (d : Int)) := by
  induction d with
  | zero =>
    intro l i a hi _ _ _ _
    refine Ev.step (fun k => by rw [laws_heldRowS.l0]) (Ev.congr (fun k => if_neg (by omega)) ?_)
    simpa using Ev.now a
  | succ d ih =>
    intro l i a hi hl h0 h1 hd
    have hlt : i < l.length := by omega
    rw [rdR_drop hlt] at hd
    obtain ⟨hx, hr⟩ := List.cons.inj hd
    refine Ev.step (fun k => by rw [laws_heldRowS.l0]) (Ev.congr (fun k => (if_pos (by omega)).trans (if_pos (by omega))) ?_)
    have e1 : wrap64 (a + 1) = a + 1 := w64 (by omega) (by omega)
    have e2 : wrap64 (a + 1 + 1) = a + 2 := by rw [w64 (by omega) (by omega)]; omega
    have e3 : wrap64 (a + 2 + 1) = a + 3 := by rw [w64 (by omega) (by omega)]; omega
    have e4 : wrap64 (a + 3 + 1) = a + 4 := by rw [w64 (by omega) (by omega)]; omega
    have e5 : wrap64 (a + 4 + 1) = a + 5 := by rw [w64 (by omega) (by omega)]; omega
    rw [e1, e2, e3, e4, e5, up1 hlt (by omega), hx]
    have := ih l (i + 1) (a + 5) (by omega) hl (by omega) (by omega) hr
    have e6 : a + 5 + 5 * (d : Int) = a + 5 * ((d + 1 : Nat) : Int) := by omega
    rw [e6] at this
    exact Ev.congr (fun k => (if_pos rfl).trans ((if_pos rfl).trans ((if_pos rfl).trans ((if_pos rfl).trans (if_pos rfl))))) this
theorem heldR_ev (n : Nat) (hn : n ≤ 1048576) : Ev (fun k => laws_heldRowS.f k (nums38 1 n) 1) (1 + 5 * (n : Int)) := by
  unfold laws_heldRowS.f
  have := heldR_loop n (nums38 1 n) 0 1 (by rw [nums38_len]; omega) (by rw [nums38_len]; omega) (by omega) (by omega) (by simp)
  simpa using this

/-! the program's consolidated rows are the reference's -/
theorem co_vsum_in64 (q : Rw) (l : List Rw) : ∀ n, In64 n → In64 (co_vsum q n l) := by
  induction l with
  | nil => intro n h; exact h
  | cons x r ih =>
    intro n h
    unfold co_vsum
    split
    · exact ih _ (in64_wrap _)
    · exact ih _ h
theorem co_vsum_ksum (q : Rw) (h0 : q.f3 = 0) (l : List Rw) : ∀ n, mcong (co_vsum q n l) (n + ksum (rkey q) l) := by
  induction l with
  | nil => intro n; exact ⟨0, by simp [co_vsum, ksum, wsum]⟩
  | cons x r ih =>
    intro n
    unfold co_vsum
    by_cases h : co_sk x q
    · rw [if_pos ⟨h, h0⟩]
      have e : rkey x = rkey q := by obtain ⟨a, b, c, d⟩ := h; simp only [rkey, a, b, c, d]
      obtain ⟨s, hs⟩ := ih (wrap64 (n + x.f3))
      obtain ⟨t, ht⟩ := mcong_wrap (n + x.f3)
      refine ⟨s + t, ?_⟩
      rw [hs, ht]
      simp only [ksum, wsum, e, decide_true, if_true]
      omega
    · rw [if_neg (fun k => h k.1)]
      have e : ¬ rkey x = rkey q := fun e => h (by simp only [rkey, Prod.mk.injEq] at e; exact ⟨e.1, e.2.1, e.2.2.1, e.2.2.2⟩)
      obtain ⟨s, hs⟩ := ih n
      refine ⟨s, ?_⟩
      rw [hs]
      simp only [ksum, wsum, e, decide_false]
      simp
theorem ksum_mem {l : List Rw} (hs : Sorted l) {y : Rw} (hy : y ∈ l) : ksum (rkey y) l = y.f3 := by
  induction l with
  | nil => simp at hy
  | cons x r ih =>
    rcases List.mem_cons.1 hy with rfl | hy
    · exact ksum_head hs
    · have h2 := List.pairwise_cons.1 hs
      have := ih h2.2 hy
      have hne : ¬ rkey x = rkey y := fun e => by
        have := h2.1 y hy
        rw [e] at this
        exact klt_irrefl _ this
      unfold ksum at this ⊢
      simp only [wsum, hne, decide_false]
      simpa using this
theorem csum_keys (l : List Rw) : ∀ x ∈ csum l, ∃ y ∈ l, rkey x = rkey y := by
  have : ∀ (l a : List Rw) (p : Int × Int × Int × Int → Prop), (∀ x ∈ a, p (rkey x)) → (∀ x ∈ l, p (rkey x)) → ∀ x ∈ l.foldl putR a, p (rkey x) := by
    intro l
    induction l with
    | nil => intro a p ha _; exact ha
    | cons y l ih =>
      intro a p ha hl
      refine ih (putR a y) p (fun x hx => ?_) fun x hx => hl x (List.mem_cons_of_mem _ hx)
      rcases put_keys a y x hx with e | ⟨z, hz, e⟩
      · rw [e]; exact hl y List.mem_cons_self
      · rw [e]; exact ha z hz
  exact this l [] (fun k => ∃ y ∈ l, k = rkey y) (fun x hx => by simp at hx) fun x hx => ⟨x, hx, rfl⟩
theorem consol_keys (l : List Rw) : ∀ x ∈ consol l, ∃ y ∈ l, rkey x = rkey y := fun x hx => csum_keys l x (List.mem_filter.1 hx).1
theorem okR_iff {x : Rw} : ok38 x = true ↔ In64 x.f0 ∧ In64 x.f1 ∧ In64 x.f2.f0 ∧ In64 x.f2.f1 ∧ In64 x.f3 := by
  rw [ok38_iff]
  simp only [co_wf64_iff, In64]
theorem consol_ok {l : List Rw} (h : ∀ x ∈ l, ok38 x = true) : ∀ x ∈ consol l, ok38 x = true := by
  intro x hx
  obtain ⟨y, hy, e⟩ := consol_keys l x hx
  have hy2 := okR_iff.1 (h y hy)
  simp only [rkey, Prod.mk.injEq] at e
  refine okR_iff.2 ⟨by rw [e.1]; exact hy2.1, by rw [e.2.1]; exact hy2.2.1, by rw [e.2.2.1]; exact hy2.2.2.1, by rw [e.2.2.2]; exact hy2.2.2.2.1, ?_⟩
  exact consol_in64 (fun z hz => (okR_iff.1 (h z hz)).2.2.2.2) x hx
theorem consol_gath {l : List Rw} (h : ∀ x ∈ l, ok38 x = true) : co_Gath l (consol l) where
  nod := (consol_sorted l).imp fun {x y} hk hs => by
    obtain ⟨a, b, c, d⟩ := hs
    unfold klt rkey at hk
    simp only [a, b, c, d] at hk
    omega
  vals := fun y hy => by
    refine ⟨consol_ok h y hy, consol_ne l y hy, ?_⟩
    have e1 := ksum_mem (consol_sorted l) hy
    have c1 := wsum_consol (fun z => decide (z = rkey y)) l
    have c2 := co_vsum_ksum (co_kI y) rfl l 0
    have e2 : rkey (co_kI y) = rkey y := rfl
    rw [e2, Int.zero_add] at c2
    have c3 : mcong y.f3 (co_vsum (co_kI y) 0 l) := by
      rw [← e1]
      exact c1.trans c2.symm
    exact mcong_eq c3 (okR_iff.1 (consol_ok h y hy)).2.2.2.2 (co_vsum_in64 _ l 0 (by unfold In64; omega))
  all := fun q hq hz => by
    by_cases h0 : q.f3 = 0
    · refine Classical.byContradiction fun hno => hz ?_
      have e1 : ksum (rkey q) (consol l) = 0 := wsum_none fun x hx => decide_eq_false fun e => hno ⟨x, hx, by
        simp only [rkey, Prod.mk.injEq] at e
        exact ⟨e.1, e.2.1, e.2.2.1, e.2.2.2⟩⟩
      have c1 := wsum_consol (fun z => decide (z = rkey q)) l
      have c2 := co_vsum_ksum q h0 l 0
      rw [Int.zero_add] at c2
      have c3 := c2.trans c1.symm
      have e2 : wsum (fun z => decide (z = rkey q)) (consol l) = 0 := e1
      rw [e2] at c3
      exact mcong_eq c3 (co_vsum_in64 _ l 0 (by unfold In64; omega)) (by omega)
    · exact absurd (co_vsum_z q l h0 0) hz
theorem consol_sortR (l : List Rw) : co_SortR (consol l) := (consol_sorted l).imp fun {x y} hk => decide_eq_true hk
theorem co_res_consol {l : List Rw} (h : ∀ x ∈ l, ok38 x = true) : co_res l = consol l := (co_res_eq (consol_gath h) (consol_sortR l)).symm
theorem i_consol (l : List Rw) (hl : l.length ≤ 1000000) (h : ∀ x ∈ l, ok38 x = true) : impl_consolidated.f l = some (consol l) := by
  unfold impl_consolidated.f
  rw [if_pos ⟨hl, List.all_eq_true.2 h⟩, co_res_consol h]
theorem rowOk_ok {x : Rw} (h : rowOk x = true) : ok38 x = true := by
  simp only [rowOk, okT, Bool.and_eq_true, decide_eq_true_eq] at h
  refine okR_iff.2 ?_
  unfold In64
  omega
theorem rowsOk_facts {l : List Rw} (h : rowsOk l = true) : l.length ≤ 400 ∧ ∀ x ∈ l, rowOk x = true := by
  unfold rowsOk at h
  simp only [Bool.and_eq_true, decide_eq_true_eq] at h
  exact ⟨h.1, List.all_eq_true.1 h.2⟩

/-! a batch out of rows -/
def fitB (l : List Rw) : List Rw := if batchOk (consol l) then consol l else []
theorem fitB_len (l : List Rw) : (fitB l).length ≤ l.length := by
  unfold fitB
  split
  · exact consol_len l
  · simp
theorem s_fit (l : List Rw) (hl : l.length ≤ 1048576) : Ev (fun k => (spec_l2Sum.f k l).bind fun t => (spec_l2Fit.f k t).bind fun u => some u) (fitB l) := by
  have hc := consol_len l
  refine Ev.bind (s_sum l hl) ?_
  unfold spec_l2Fit.f fitB
  refine Ev.bind (a := if batchOk (consol l) then consol l else []) (Ev.bind (s_batch _ (by omega)) ?_) (Ev.now _)
  cases batchOk (consol l) with
  | true => exact Ev.congr (fun k => if_pos rfl) (Ev.now _)
  | false => exact Ev.congr (fun k => if_neg (by simp)) (Ev.now _)
theorem i_fit (l : List Rw) (hl : l.length ≤ 1000000) (h : ∀ x ∈ l, ok38 x = true) : Ev (fun k => (impl_batch.f k l).bind fun t => some t.1) (fitB l) := by
  have hc := consol_len l
  unfold impl_batch.f fitB
  refine Ev.bind (a := if batchOk (consol l) then (consol l, true) else ([], false)) (Ev.bind ⟨0, fun k _ => i_consol l hl h⟩ (Ev.bind (i_batch _ (by omega)) ?_)) ?_
  · cases batchOk (consol l) with
    | true => exact Ev.congr (fun k => if_pos rfl) (Ev.now _)
    | false => exact Ev.congr (fun k => if_neg (by simp)) (Ev.now _)
  · cases batchOk (consol l) <;> exact Ev.now _

/-! BatchMove -/
theorem mv1_ok (l : List Tm) (c e : Int) (hv : ∀ x ∈ l, okT x.f0 x.f1 = true) (ht : okT c e = true) : ∀ a : Int × Int, okT a.1 a.2 = true → okT (mv1 l c e a).1 (mv1 l c e a).2 = true := by
  induction l with
  | nil => intro a h; exact h
  | cons x r ih =>
    intro a h
    exact ih (fun y hy => hv y (List.mem_cons_of_mem _ hy)) _ (okT_min h (okT_max (hv x List.mem_cons_self) ht))
theorem mvR_ok (l : List Tm) (c e : Int) (hv : ∀ x ∈ l, okT x.f0 x.f1 = true) (ht : okT c e = true) : okT (mvR l c e).1 (mvR l c e).2 = true := by
  cases l with
  | nil => exact ht
  | cons x r => exact mv1_ok r c e (fun y hy => hv y (List.mem_cons_of_mem _ hy)) ht _ (okT_max (hv x List.mem_cons_self) ht)
def mvB (f : List Tm) (x : Rw) : Rw := ⟨x.f0, x.f1, ⟨(mvR f x.f2.f0 x.f2.f1).1, (mvR f x.f2.f0 x.f2.f1).2⟩, x.f3⟩
def batchMove (l : List Rw) (f : List Tm) : List Rw := if rowsOk l && fOk f then fitB (l.map (mvB f)) else []
theorem batchMove_len (l : List Rw) (f : List Tm) : (batchMove l f).length ≤ l.length := by
  unfold batchMove
  split
  · have := fitB_len (l.map (mvB f))
    simpa using this
  · simp
theorem rowOk_time {x : Rw} (h : rowOk x = true) : okT x.f2.f0 x.f2.f1 = true := by
  simp only [rowOk, Bool.and_eq_true] at h
  exact h.2.2.1
theorem mvB_rowOk {f : List Tm} (hf : fOk f = true) {x : Rw} (h : rowOk x = true) : rowOk (mvB f x) = true := by
  have := mvR_ok f x.f2.f0 x.f2.f1 (fOk_ok hf) (rowOk_time h)
  simp only [rowOk, Bool.and_eq_true] at h ⊢
  exact ⟨h.1, h.2.1, this, h.2.2.2⟩
theorem rdR_mem {l : List Rw} {i : Nat} (h : i < l.length) : rd_T38 l (i : Int) ∈ l := by
  have := rdR_drop h
  exact List.mem_of_mem_drop (this ▸ List.mem_cons_self)
theorem s_batchmove_loop (l : List Rw) (f : List Tm) (hl : l.length ≤ 1048576) (hfl : f.length ≤ 1048576) (hok : ∀ x ∈ l, rowOk x = true) (hf : fOk f = true) (d : Nat) : ∀ (i : Nat) (out : List Rw), i + d = l.length → out.length ≤ i →
    Ev (fun k => spec_BatchMove.l0 k l f out (i : Int)) (fitB (out ++ (l.drop i).map (mvB f))) := by
  induction d with
  | zero =>
    intro i out hi _
    rw [List.drop_eq_nil_of_le (by omega)]
    refine Ev.step (fun k => by rw [spec_BatchMove.l0]) (Ev.congr (fun k => if_neg (by omega)) ?_)
    simpa using s_fit out (by omega)
  | succ d ih =>
    intro i out hi ho
    have hx := hok _ (rdR_mem (by omega : i < l.length))
    refine Ev.step (fun k => by rw [spec_BatchMove.l0]) (Ev.congr (fun k => (if_pos (by omega)).trans (if_pos (by omega))) ?_)
    rw [up1 (by omega : i < l.length) (by omega), rdR_drop (by omega : i < l.length)]
    generalize rd_T38 l (i : Int) = r at *
    have hm := s_move f r.f2.f0 r.f2.f1 hfl
    rw [show mvT f r.f2.f0 r.f2.f1 = mvR f r.f2.f0 r.f2.f1 by unfold mvT; rw [hf, rowOk_time hx]; rfl] at hm
    refine Ev.bind hm (Ev.congr (fun k => if_pos (by omega)) ?_)
    have := ih (i + 1) (out ++ [mvB f r]) (by omega) (by simp; omega)
    simpa [mvB] using this
theorem s_batchmove (l : List Rw) (f : List Tm) (hl : l.length ≤ 1048576) (hfl : f.length ≤ 1048576) : Ev (fun k => spec_BatchMove.f k l f) (batchMove l f) := by
  unfold spec_BatchMove.f batchMove
  refine Ev.bind (Ev.now _) (Ev.bind (s_rows l hl) ?_)
  have out : Ev (fun k => spec_BatchMove.j0 k l f [] true) [] := by
    refine Ev.step (fun k => by rw [spec_BatchMove.j0]) ?_
    exact Ev.congr (fun k => if_pos rfl) (Ev.now _)
  cases hok : rowsOk l with
  | false => exact Ev.congr (fun k => if_neg (by simp)) out
  | true =>
    refine Ev.congr (fun k => if_pos rfl) (Ev.bind (sFront_ev f hfl) ?_)
    cases hf : fOk f with
    | false => exact out
    | true =>
      refine Ev.step (fun k => by rw [spec_BatchMove.j0]) (Ev.congr (fun k => if_neg (by simp)) ?_)
      simpa using s_batchmove_loop l f hl hfl (rowsOk_facts hok).2 hf l.length 0 [] (by omega) (by simp)
theorem i_advanced_loop (f : List Tm) (hfl : f.length ≤ 1048576) (hf : fOk f = true) (d : Nat) : ∀ (l : List Rw) (i : Nat), i + d = l.length → l.length ≤ 1048576 → (∀ x ∈ l.drop i, rowOk x = true) → Ev (fun k => impl_advanced.l0 k f l (l.length : Int) (i : Int)) (l.take i ++ (l.drop i).map (mvB f)) := by
  induction d with
  | zero =>
    intro l i hi _ _
    rw [List.drop_eq_nil_of_le (by omega), List.take_of_length_le (by omega)]
    refine Ev.step (fun k => by rw [impl_advanced.l0]) (Ev.congr (fun k => if_neg (by omega)) ?_)
    simpa using Ev.now l
  | succ d ih =>
    intro l i hi hl hok
    have hlt : i < l.length := by omega
    refine Ev.step (fun k => by rw [impl_advanced.l0]) (Ev.congr (fun k => (if_pos (by omega)).trans ((if_pos (by omega)).trans (if_pos (by omega)))) ?_)
    rw [rdR_drop hlt] at hok
    have hx := hok _ List.mem_cons_self
    rw [up1 hlt (by omega), rdR_drop hlt, Int.toNat_natCast]
    generalize rd_T38 l (i : Int) = r at *
    refine Ev.bind (i_moved f r.f2.f0 r.f2.f1 hfl (fOk_ok hf) (rowOk_time hx)) ?_
    have := ih (l.set i (mvB f r)) (i + 1) (by simp; omega) (by simpa using hl) (by
      rw [List.drop_set_of_lt (by omega)]
      exact fun x h => hok x (List.mem_cons_of_mem _ h))
    rw [List.length_set, List.take_succ_eq_append_getElem (by simpa using hlt), List.getElem_set_self, List.take_set_of_le (by omega), List.drop_set_of_lt (by omega)] at this
    simpa [mvB] using this
theorem i_batchmove (l : List Rw) (f : List Tm) (hl : l.length ≤ 1048576) (hfl : f.length ≤ 1048576) : Ev (fun k => impl_BatchMove.f k l f) (batchMove l f) := by
  unfold impl_BatchMove.f batchMove
  have out : Ev (fun k => impl_BatchMove.j0 k l f true) [] := by
    refine Ev.step (fun k => by rw [impl_BatchMove.j0]) ?_
    exact Ev.congr (fun k => if_pos rfl) (Ev.now _)
  refine Ev.bind (i_rows l hl) ?_
  cases hok : rowsOk l with
  | false => exact Ev.congr (fun k => if_neg (by simp)) out
  | true =>
    obtain ⟨h1, g1⟩ := rowsOk_facts hok
    refine Ev.congr (fun k => if_pos rfl) (Ev.bind (iFront_ev f hfl) ?_)
    cases hf : fOk f with
    | false => exact out
    | true =>
      refine Ev.step (fun k => by rw [impl_BatchMove.j0]) (Ev.congr (fun k => if_neg (by simp)) ?_)
      refine Ev.bind (a := l.map (mvB f)) ?_ (i_fit (l.map (mvB f)) (by simp; omega) fun x hx => ?_)
      · unfold impl_advanced.f
        refine Ev.bind (Ev.now _) (Ev.congr (fun k => if_pos (by simp; omega)) (Ev.bind (Ev.now _) ?_))
        simpa using i_advanced_loop f hfl hf l.length l 0 (by omega) hl (by simpa using g1)
      · obtain ⟨y, hy, rfl⟩ := List.mem_map.1 hx
        exact rowOk_ok (mvB_rowOk hf (g1 y hy))

theorem szT_big (l : List TmA) (a : Int) (hm : l.length ≤ maxLen) (h0 : 0 ≤ a) (h : a < l.length) (h1 : a ≤ 1048576) : laws_szTimeS.f l a = some (-1) := by
  unfold maxLen at hm
  unfold laws_szTimeS.f
  rw [w64 (by omega) (by omega), if_pos (by omega)]
theorem FnExactBatchMove (l : List RwA) (hm : l.length ≤ maxLen) {P : Prop} (_ : P) (m : List TmA) (hm2 : m.length ≤ maxLen) {Q : Prop} (_ : Q) : ∃ k, laws_FnExactBatchMove.f k l m = some true := by
  refine Ev.rounds ?_
  unfold laws_FnExactBatchMove.f
  by_cases h : 1048576 < l.length
  · exact Ev.bind ⟨0, fun k _ => szRowS_big l 1048576 hm (by omega) (by omega)⟩ (Ev.congr (fun k => if_pos (by omega)) (Ev.now _))
  have hl : l.length ≤ 1048576 := by omega
  refine Ev.bind ⟨0, fun k _ => szRowS_small l 1048576 (by omega) (by omega)⟩ (Ev.congr (fun k => if_neg (by omega)) ?_)
  by_cases h2 : 1048576 - (l.length : Int) < m.length
  · exact Ev.bind ⟨0, fun k _ => szT_big m _ hm2 (by omega) (by omega) (by omega)⟩ (Ev.congr (fun k => if_pos (by omega)) (Ev.now _))
  have hml : m.length ≤ 1048576 := by omega
  refine Ev.bind ⟨0, fun k _ => szTimeS_small m _ (by omega) (by omega)⟩ (Ev.congr (fun k => if_neg (by omega)) ?_)
  have hc : (l.map cvR).length ≤ 1048576 := by simpa using hl
  have hd : (m.map cvT).length ≤ 1048576 := by simpa using hml
  have es := s_batchmove (l.map cvR) (m.map cvT) hc hd
  have ei := i_batchmove (l.map cvR) (m.map cvT) hc hd
  have hr := batchMove_len (l.map cvR) (m.map cvT)
  generalize batchMove (l.map cvR) (m.map cvT) = r at *
  have m1 := fun k : Nat => markR_at (l.map cvR) hc 1 (by omega) (by omega)
  have m3 := fun k : Nat => markR_at r (by omega) 1 (by omega) (by omega)
  refine Ev.bind (toRowS_ev l hl) (Ev.bind (toTimeS_ev m hml) (Ev.bind es (Ev.bind (toRowS_ev l hl) (Ev.bind (toTimeS_ev m hml) (Ev.bind ei (Ev.bind (eqRowS_ev _ (by omega)) (Ev.congr (fun k => if_pos rfl) ?_)))))))
  refine Ev.bind (toRowS_ev l hl) (Ev.bind (eqRowS_ev _ hc) (Ev.congr (fun k => if_pos rfl) (Ev.bind (toTimeS_ev m hml) (Ev.bind (eqTimeS_ev _ hd) (Ev.congr (fun k => if_pos rfl) ?_)))))
  refine Ev.bind ⟨0, fun k _ => m1 k⟩ (Ev.bind (markT_at _ hd _ (by omega) (by omega)) (Ev.congr (fun k => if_neg (by simp only; omega)) (Ev.bind (eqRowS_ev _ (by omega)) ?_)))
  refine Ev.step (fun k => by rw [laws_FnExactBatchMove.j0]) (Ev.congr (fun k => if_neg (by simp)) ?_)
  refine Ev.bind ⟨0, fun k _ => m3 k⟩ (Ev.bind (heldR_ev _ (by omega)) (Ev.congr (fun k => (if_neg (by omega)).trans (if_pos rfl)) ?_))
  exact Ev.bind (toRowS_ev l hl) (Ev.bind (toTimeS_ev m hml) (Ev.bind ei (Ev.bind (eqRowS_ev _ (by omega)) (Ev.congr (fun k => if_pos rfl) (Ev.bind (heldR_ev _ (by omega)) (Ev.congr (fun k => (if_neg (by omega)).trans (if_pos rfl)) (Ev.now _)))))))
end Go.Proofs.Ytjlkffmdmifahaa.Pure
