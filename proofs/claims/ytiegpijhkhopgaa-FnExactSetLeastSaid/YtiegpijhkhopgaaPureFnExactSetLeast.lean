/- The plain law of FnExactSetLeast. -/
import Derived.Test.YtiegpijhkhopgaaVFnExactSetLeastx
namespace Go.Proofs.Ytiegpijhkhopgaa.Pure
open Go.RowKit Go.Proofs.Ytiegpijhkhopgaa.PFnExactSetLeast Go.Proofs.YtiegpijhkhopgaaW.PrintWords Go.Proofs.YtiegpijhkhopgaaW.PrintLast Go.Proofs.Ytiegpijhkhopgaa.EvP
theorem up1 {i n : Nat} (h : i < n) (hn : n ≤ 4611686018427387904) : wrap64 ((i : Int) + 1) = ((i + 1 : Nat) : Int) := by
  rw [w64 (by omega) (by omega)]; rfl

/-! lists of items -/
abbrev It := S60
theorem rdI_drop {xs : List It} {i : Nat} (h : i < xs.length) : xs.drop i = rd_T60 xs (i : Int) :: xs.drop (i + 1) := by
  unfold rd_T60
  rw [List.drop_eq_getElem_cons h, List.getD_eq_getElem?_getD, Int.toNat_natCast, List.getElem?_eq_getElem h]
  rfl

/-! the laws' own items made into the program's -/
abbrev ItA := S64
def cvI (x : ItA) : It := ⟨x.f0, x.f1, x.f2⟩
theorem rdC_drop {xs : List ItA} {i : Nat} (h : i < xs.length) : xs.drop i = rd_T64 xs (i : Int) :: xs.drop (i + 1) := by
  unfold rd_T64
  rw [List.drop_eq_getElem_cons h, List.getD_eq_getElem?_getD, Int.toNat_natCast, List.getElem?_eq_getElem h]
  rfl
theorem toItemS_loop (l : List ItA) (hl : l.length ≤ 1048576) (d : Nat) : ∀ (i : Nat) (out : List It), i + d = l.length → out.length = l.length →
    Ev (fun k => laws_toItemS.l0 k l out (i : Int)) (out.take i ++ (l.drop i).map cvI) := by
  induction d with
  | zero =>
    intro i out hi ho
    refine Ev.step (fun k => by rw [laws_toItemS.l0]) ?_
    refine Ev.congr (fun k => if_neg (by omega)) ?_
    rw [List.take_of_length_le (by omega), List.drop_eq_nil_of_le (by omega)]
    simpa using Ev.now out
  | succ d ih =>
    intro i out hi ho
    have hlt : i < l.length := by omega
    refine Ev.step (fun k => by rw [laws_toItemS.l0]) ?_
    refine Ev.congr (fun k => (if_pos (by omega)).trans (if_pos (by omega))) ?_
    refine Ev.bind (Ev.now _) ?_
    refine Ev.congr (fun k => if_pos (by omega)) ?_
    rw [up1 hlt (by omega)]
    have := ih (i + 1) (out.set i (cvI (rd_T64 l (i : Int)))) (by omega) (by simpa using ho)
    rw [List.take_succ_eq_append_getElem (by simp; omega), List.getElem_set_self, List.take_set_of_le (by omega)] at this
    rw [rdC_drop hlt, List.map_cons]
    simpa [cvI] using this
theorem toItemS_ev (l : List ItA) (hl : l.length ≤ 1048576) : Ev (fun k => laws_toItemS.f k l) (l.map cvI) := by
  unfold laws_toItemS.f
  refine Ev.congr (fun k => (if_pos (by omega)).trans (if_pos (by omega))) ?_
  simpa using toItemS_loop l hl l.length 0 (List.replicate ((l.length : Int)).toNat z60) (by omega) (by simp)
theorem eqItemS_loop (l : List It) (hl : l.length ≤ 1048576) (d : Nat) : ∀ i : Nat, i + d = l.length → Ev (fun k => laws_eqItemS.l0 k l l (i : Int)) true := by
  induction d with
  | zero =>
    intro i hi
    refine Ev.step (fun k => by rw [laws_eqItemS.l0]) ?_
    exact Ev.congr (fun k => if_neg (by omega)) (Ev.now _)
  | succ d ih =>
    intro i hi
    refine Ev.step (fun k => by rw [laws_eqItemS.l0]) ?_
    refine Ev.congr (fun k => (if_pos (by omega)).trans ((if_pos (by omega)).trans (if_pos (by omega)))) ?_
    refine Ev.bind (a := true) ⟨0, fun k _ => by simp [laws_eqItem.f]⟩ (Ev.congr (fun k => if_pos rfl) ?_)
    rw [up1 (by omega : i < l.length) (by omega)]
    exact ih (i + 1) (by omega)
theorem eqItemS_ev (l : List It) (hl : l.length ≤ 1048576) : Ev (fun k => laws_eqItemS.f k l l) true := by
  unfold laws_eqItemS.f
  exact Ev.congr (fun k => if_pos rfl) (eqItemS_loop l hl l.length 0 (by omega))
theorem szItemS_big (l : List ItA) (a : Int) (hm : l.length ≤ maxLen) (h0 : 0 ≤ a) (h : a < l.length) : laws_szItemS.f l a = some (-1) := by
  unfold maxLen at hm
  unfold laws_szItemS.f
  rw [w64 (by omega) (by omega), if_pos (by omega)]
theorem szItemS_small (l : List ItA) (a : Int) (ha : a ≤ 1048576) (h : (l.length : Int) ≤ a) : laws_szItemS.f l a = some (a - (l.length : Int)) := by
  unfold laws_szItemS.f
  rw [w64 (by omega) (by omega), if_neg (by omega)]

/-! collections -/
def itOk (x : It) : Bool := decide (0 ≤ x.f0 ∧ x.f0 ≤ 3) && (decide (0 ≤ x.f1 ∧ x.f1 ≤ 99) && ((x.f2 != 0) && decide (-1099511627776 ≤ x.f2 ∧ x.f2 ≤ 1099511627776)))
def ilt (x y : It) : Bool := decide (x.f0 < y.f0 ∨ x.f0 = y.f0 ∧ x.f1 < y.f1)
def sOk1 (p : It) : List It → Bool
  | [] => true
  | y :: r => itOk y && ilt p y && sOk1 y r
def sOk : List It → Bool
  | [] => true
  | x :: r => itOk x && sOk1 x r
def setOk (l : List It) : Bool := decide (l.length ≤ 400) && sOk l

theorem s_in (a b c : Int) : spec_l6In.f a b c = some (decide (b ≤ a ∧ a ≤ c)) := by
  unfold spec_l6In.f
  by_cases h0 : b ≤ a <;> by_cases h1 : a ≤ c <;> simp [h0, h1]

theorem s_l3Item (x : It) : spec_l3Item.f x.f0 x.f1 x.f2 = some (decide (0 ≤ x.f0 ∧ x.f0 ≤ 3) && (decide (0 ≤ x.f1 ∧ x.f1 ≤ 99) && (x.f2 != 0))) := by
  unfold spec_l3Item.f
  simp only [s_in, Option.bind_some]
  cases decide (0 ≤ x.f0 ∧ x.f0 ≤ 3) <;> cases decide (0 ≤ x.f1 ∧ x.f1 ≤ 99) <;> rfl
theorem s_set_loop (l : List It) (hl : l.length ≤ 1048576) (d : Nat) : ∀ i : Nat, i + 1 + d = l.length → Ev (fun k => spec_SetOk.l0 k l ((i + 1 : Nat) : Int)) (sOk1 (rd_T60 l (i : Int)) (l.drop (i + 1))) := by
  induction d with
  | zero =>
    intro i hi
    refine Ev.step (fun k => by rw [spec_SetOk.l0]) (Ev.congr (fun k => if_neg (by omega)) ?_)
    rw [List.drop_eq_nil_of_le (by omega)]
    exact Ev.now _
  | succ d ih =>
    intro i hi
    rw [rdI_drop (by omega : i + 1 < l.length)]
    unfold sOk1
    have e : wrap64 (((i + 1 : Nat) : Int) - 1) = (i : Int) := by rw [w64 (by omega) (by omega)]; omega
    have e2 : wrap64 (-1099511627776) = -1099511627776 := w64 (by omega) (by omega)
    refine Ev.step (fun k => by rw [spec_SetOk.l0]) (Ev.congr (fun k => (if_pos (by omega)).trans (if_pos (by omega))) ?_)
    refine Ev.bind ⟨0, fun k _ => s_l3Item _⟩ ?_
    rw [e, up1 (by omega : i + 1 < l.length) (by omega)]
    have ih' := ih (i + 1) (by omega)
    generalize rd_T60 l ((i + 1 : Nat) : Int) = y at *
    generalize rd_T60 l (i : Int) = p at *
    have no : itOk y = false → Ev (fun _ : Nat => some false) (itOk y && ilt p y && sOk1 y (l.drop (i + 1 + 1))) := fun h => by rw [h]; exact Ev.now _
    cases c1 : (decide (0 ≤ y.f0 ∧ y.f0 ≤ 3) && (decide (0 ≤ y.f1 ∧ y.f1 ≤ 99) && (y.f2 != 0))) with
    | false => exact Ev.congr (fun k => if_neg (by simp)) (no (by
        unfold itOk
        rw [← Bool.and_assoc, ← Bool.and_assoc, Bool.and_assoc (decide _) (decide _), c1, Bool.false_and]))
    | true =>
      refine Ev.congr (fun k => if_pos rfl) (Ev.bind (Ev.now _) (Ev.bind (Ev.now _) (Ev.bind ⟨0, fun k _ => s_in _ _ _⟩ ?_)))
      rw [e2]
      have ei : itOk y = decide (-1099511627776 ≤ y.f2 ∧ y.f2 ≤ 1099511627776) := by
        unfold itOk
        rw [← Bool.and_assoc, ← Bool.and_assoc, Bool.and_assoc (decide _) (decide _), c1, Bool.true_and]
      cases c2 : decide (-1099511627776 ≤ y.f2 ∧ y.f2 ≤ 1099511627776) with
      | false => exact Ev.congr (fun k => if_neg (by simp)) (no (by rw [ei, c2]))
      | true =>
        rw [ei, c2, Bool.true_and]
        refine Ev.congr (fun k => (if_pos rfl).trans ((if_pos (by omega)).trans ((if_pos (by omega)).trans (if_pos (by omega))))) ?_
        by_cases h1 : p.f0 > y.f0
        · refine Ev.congr (fun k => if_pos h1) ?_
          rw [show ilt p y = false from decide_eq_false (by omega)]
          exact Ev.now _
        · refine Ev.congr (fun k => if_neg h1) ?_
          by_cases h2 : p.f0 = y.f0
          · refine Ev.congr (fun k => if_pos h2) ?_
            by_cases h3 : p.f1 ≥ y.f1
            · refine Ev.congr (fun k => if_pos h3) ?_
              rw [show ilt p y = false from decide_eq_false (by omega)]
              exact Ev.now _
            · refine Ev.congr (fun k => if_neg h3) ?_
              rw [show ilt p y = true from decide_eq_true (by omega)]
              exact ih'
          · refine Ev.congr (fun k => if_neg h2) ?_
            rw [show ilt p y = true from decide_eq_true (by omega)]
            exact ih'
theorem s_set (l : List It) (hl : l.length ≤ 1048576) : Ev (fun k => spec_SetOk.f k l) (setOk l) := by
  unfold spec_SetOk.f setOk
  by_cases h : (l.length : Int) > 400
  · rw [decide_eq_false (by omega)]
    exact Ev.congr (fun k => if_pos h) (Ev.now _)
  rw [decide_eq_true (by omega), Bool.true_and]
  refine Ev.congr (fun k => if_neg h) ?_
  cases l with
  | nil =>
    refine Ev.step (fun k => by rw [spec_SetOk.l0]) ?_
    exact (Ev.congr (fun k => if_neg (by simp)) (Ev.now _))
  | cons x r =>
    refine Ev.step (fun k => by rw [spec_SetOk.l0]) (Ev.congr (fun k => (if_pos (by simp)).trans (if_pos (by omega))) ?_)
    have e2 : wrap64 (-1099511627776) = -1099511627776 := w64 (by omega) (by omega)
    refine Ev.bind ⟨0, fun k _ => s_l3Item _⟩ ?_
    have hx : rd_T60 (x :: r) 0 = x := rfl
    rw [hx]
    rw [show sOk (x :: r) = (itOk x && sOk1 x r) from rfl]
    cases c1 : (decide (0 ≤ x.f0 ∧ x.f0 ≤ 3) && (decide (0 ≤ x.f1 ∧ x.f1 ≤ 99) && (x.f2 != 0))) with
    | false =>
      rw [show itOk x = false from by
        unfold itOk
        rw [← Bool.and_assoc, ← Bool.and_assoc, Bool.and_assoc (decide _) (decide _), c1, Bool.false_and]]
      exact Ev.now _
    | true =>
      refine Ev.congr (fun k => if_pos rfl) (Ev.bind (Ev.now _) (Ev.bind (Ev.now _) (Ev.bind ⟨0, fun k _ => s_in _ _ _⟩ ?_)))
      rw [e2]
      have ei : itOk x = decide (-1099511627776 ≤ x.f2 ∧ x.f2 ≤ 1099511627776) := by
        unfold itOk
        rw [← Bool.and_assoc, ← Bool.and_assoc, Bool.and_assoc (decide _) (decide _), c1, Bool.true_and]
      rw [ei]
      cases c2 : decide (-1099511627776 ≤ x.f2 ∧ x.f2 ≤ 1099511627776) with
      | false => exact Ev.now _
      | true =>
        refine Ev.congr (fun k => (if_pos rfl).trans (if_neg (by omega))) ?_
        have := s_set_loop (x :: r) hl r.length 0 (by simp; omega)
        simpa [w64, hx] using this


theorem i_set_tests {g : Nat → Bool → Option Bool} {y : It} {r : Bool} (cont : ∀ b : Bool, (b = true ↔ itOk y = false) → Ev (fun k => g k b) r) :
    Ev (fun k => if y.f0 < 0 then g k true else if y.f0 ≥ 4 then g k true else if y.f1 < 0 then g k true else if y.f1 ≥ 100 then g k true else if y.f2 = 0 then g k true else if y.f2 < (-1099511627776) then g k true else g k (decide (y.f2 > 1099511627776))) r := by
  have no : itOk y = false → Ev (fun k => g k true) r := fun h => cont true ⟨fun _ => h, fun _ => rfl⟩
  by_cases c0 : y.f0 < 0
  · exact Ev.congr (fun k => if_pos c0) (no (by simp [itOk]; omega))
  refine Ev.congr (fun k => if_neg c0) ?_
  by_cases c1 : y.f0 ≥ 4
  · exact Ev.congr (fun k => if_pos c1) (no (by simp [itOk]; omega))
  refine Ev.congr (fun k => if_neg c1) ?_
  by_cases c2 : y.f1 < 0
  · exact Ev.congr (fun k => if_pos c2) (no (by simp [itOk]; omega))
  refine Ev.congr (fun k => if_neg c2) ?_
  by_cases c3 : y.f1 ≥ 100
  · exact Ev.congr (fun k => if_pos c3) (no (by simp [itOk]; omega))
  refine Ev.congr (fun k => if_neg c3) ?_
  by_cases c4 : y.f2 = 0
  · exact Ev.congr (fun k => if_pos c4) (no (by simp [itOk, c4]))
  refine Ev.congr (fun k => if_neg c4) ?_
  by_cases c5 : y.f2 < (-1099511627776)
  · exact Ev.congr (fun k => if_pos c5) (no (by simp [itOk]; omega))
  refine Ev.congr (fun k => if_neg c5) (cont _ ?_)
  rw [decide_eq_true_eq]
  simp [itOk]
  omega

theorem i_set_loop (l : List It) (hl : l.length ≤ 1048576) (d : Nat) : ∀ i : Nat, i + 1 + d = l.length → Ev (fun k => impl_SetOk.l0 k l l (l.length : Int) ((i + 1 : Nat) : Int)) (sOk1 (rd_T60 l (i : Int)) (l.drop (i + 1)) && decide (l.length ≤ 400)) := by
  induction d with
  | zero =>
    intro i hi
    refine Ev.step (fun k => by rw [impl_SetOk.l0]) (Ev.congr (fun k => if_neg (by omega)) ?_)
    rw [List.drop_eq_nil_of_le (by omega)]
    have : decide ((l.length : Int) ≤ 400) = decide (l.length ≤ 400) := by rw [decide_eq_decide]; omega
    rw [this]
    exact Ev.now _
  | succ d ih =>
    intro i hi
    rw [rdI_drop (by omega : i + 1 < l.length)]
    unfold sOk1
    have e : wrap64 (((i + 1 : Nat) : Int) - 1) = (i : Int) := by rw [w64 (by omega) (by omega)]; omega
    refine Ev.step (fun k => by rw [impl_SetOk.l0]) (Ev.congr (fun k => (if_pos (by omega)).trans ((if_pos (by omega)).trans (if_pos (by omega)))) ?_)
    have ih' := ih (i + 1) (by omega)
    have cont : ∀ b : Bool, (b = true ↔ itOk (rd_T60 l ((i + 1 : Nat) : Int)) = false) →
        Ev (fun k => impl_SetOk.j1 k l ((i + 1 : Nat) : Int) l (l.length : Int) ((i + 1 : Nat) : Int) b (rd_T60 l ((i + 1 : Nat) : Int)).f0 (rd_T60 l ((i + 1 : Nat) : Int)).f1 (rd_T60 l ((i + 1 : Nat) : Int)).f2)
          (itOk (rd_T60 l ((i + 1 : Nat) : Int)) && ilt (rd_T60 l (i : Int)) (rd_T60 l ((i + 1 : Nat) : Int)) && sOk1 (rd_T60 l ((i + 1 : Nat) : Int)) (l.drop (i + 1 + 1)) && decide (l.length ≤ 400)) := by
      intro b hb
      refine Ev.step (fun k => by rw [impl_SetOk.j1]) ?_
      rw [e, up1 (by omega : i + 1 < l.length) (by omega)]
      generalize rd_T60 l ((i + 1 : Nat) : Int) = y at *
      generalize rd_T60 l (i : Int) = p at *
      cases b with
      | true =>
        rw [hb.1 rfl]
        exact Ev.now _
      | false =>
        have hy : itOk y = true := by
          cases h : itOk y with
          | true => rfl
          | false => exact absurd (hb.2 h) (by simp)
        rw [hy, Bool.true_and]
        refine Ev.congr (fun k => (if_neg (by simp)).trans ((if_pos (by omega)).trans ((if_pos (by omega)).trans (if_pos (by omega))))) ?_
        by_cases h1 : p.f0 > y.f0
        · refine Ev.congr (fun k => if_pos h1) ?_
          rw [show ilt p y = false from decide_eq_false (by omega)]
          exact Ev.now _
        · refine Ev.congr (fun k => if_neg h1) ?_
          by_cases h2 : p.f0 = y.f0
          · refine Ev.congr (fun k => if_pos h2) ?_
            by_cases h3 : p.f1 ≥ y.f1
            · refine Ev.congr (fun k => if_pos h3) ?_
              rw [show ilt p y = false from decide_eq_false (by omega)]
              exact Ev.now _
            · refine Ev.congr (fun k => if_neg h3) ?_
              rw [show ilt p y = true from decide_eq_true (by omega)]
              exact ih'
          · refine Ev.congr (fun k => if_neg h2) ?_
            rw [show ilt p y = true from decide_eq_true (by omega)]
            exact ih'
    exact i_set_tests (y := rd_T60 l ((i + 1 : Nat) : Int)) (g := fun k b => impl_SetOk.j1 k l ((i + 1 : Nat) : Int) l (l.length : Int) ((i + 1 : Nat) : Int) b (rd_T60 l ((i + 1 : Nat) : Int)).f0 (rd_T60 l ((i + 1 : Nat) : Int)).f1 (rd_T60 l ((i + 1 : Nat) : Int)).f2) cont
theorem i_set (l : List It) (hl : l.length ≤ 1048576) : Ev (fun k => impl_SetOk.f k l) (setOk l) := by
  unfold impl_SetOk.f setOk
  cases l with
  | nil =>
    refine Ev.step (fun k => by rw [impl_SetOk.l0]) ?_
    exact (Ev.congr (fun k => if_neg (by simp)) (Ev.now _))
  | cons x r =>
    refine Ev.step (fun k => by rw [impl_SetOk.l0]) (Ev.congr (fun k => (if_pos (by simp)).trans ((if_pos (by omega)).trans (if_pos (by simp)))) ?_)
    have hx : rd_T60 (x :: r) 0 = x := rfl
    rw [hx]
    refine i_set_tests (y := x) (g := fun k b => impl_SetOk.j1 k (x :: r) 0 (x :: r) ((x :: r).length : Int) 0 b x.f0 x.f1 x.f2) fun b hb => ?_
    refine Ev.step (fun k => by rw [impl_SetOk.j1]) ?_
    rw [show sOk (x :: r) = (itOk x && sOk1 x r) from rfl]
    cases b with
    | true =>
      rw [hb.1 rfl, Bool.false_and, Bool.and_false]
      exact Ev.now _
    | false =>
      have hy : itOk x = true := by
        cases h : itOk x with
        | true => rfl
        | false => exact absurd (hb.2 h) (by simp)
      rw [hy, Bool.true_and, Bool.and_comm]
      refine Ev.congr (fun k => (if_neg (by simp)).trans (if_neg (by omega))) ?_
      have := i_set_loop (x :: r) hl r.length 0 (by simp; omega)
      simpa [w64, hx] using this

/-! marks -/
def numsI (a : Int) : Nat → List It
  | 0 => []
  | n + 1 => ⟨a, a + 1, a + 2⟩ :: numsI (a + 3) n
theorem rdI_set {l : List It} {i : Nat} (h : i < l.length) (v : It) : rd_T60 (l.set i v) (i : Int) = v := by
  unfold rd_T60
  rw [List.getD_eq_getElem?_getD, Int.toNat_natCast, List.getElem?_set_self h]
  rfl
theorem markI_loop (d : Nat) : ∀ (l : List It) (i : Nat) (a : Int), i + d = l.length → l.length ≤ 1048576 → 0 ≤ a → a + 3 * d ≤ 100000000 →
    Ev (fun k => laws_markItemS.l0 k l a (i : Int)) (a + 3 * (d : Int), l.take i ++ numsI a d) := by
  induction d with
  | zero =>
    intro l i a hi _ _ _
    refine Ev.step (fun k => by rw [laws_markItemS.l0]) (Ev.congr (fun k => if_neg (by omega)) ?_)
    rw [List.take_of_length_le (by omega)]
    simpa [numsI] using Ev.now (a, l)
  | succ d ih =>
    intro l i a hi hl h0 h1
    have hlt : i < l.length := by omega
    refine Ev.step (fun k => by rw [laws_markItemS.l0]) (Ev.congr (fun k => (if_pos (by omega)).trans (if_pos (by omega))) ?_)
    refine Ev.bind (Ev.now _) (Ev.bind (Ev.now _) ?_)
    have e1 : wrap64 (a + 1) = a + 1 := w64 (by omega) (by omega)
    have e2 : wrap64 (a + 1 + 1) = a + 2 := by rw [w64 (by omega) (by omega)]; omega
    have e3 : wrap64 (a + 2 + 1) = a + 3 := by rw [w64 (by omega) (by omega)]; omega
    simp only [e1, e2, e3, up1 hlt (by omega : l.length ≤ 4611686018427387904), Int.toNat_natCast, rdI_set hlt, List.set_set]
    have := ih (l.set i ⟨a, a + 1, a + 2⟩) (i + 1) (a + 3) (by simp; omega) (by simpa using hl) (by omega) (by omega)
    rw [List.take_succ_eq_append_getElem (by simpa using hlt), List.getElem_set_self, List.take_set_of_le (by omega)] at this
    have e4 : a + 3 + 3 * (d : Int) = a + 3 * ((d + 1 : Nat) : Int) := by omega
    rw [e4] at this
    simpa [numsI] using this
theorem markI_ev (l : List It) (hl : l.length ≤ 1048576) : Ev (fun k => laws_markItemS.f k l 1) (1 + 3 * (l.length : Int), numsI 1 l.length) := by
  unfold laws_markItemS.f
  simpa using markI_loop l.length l 0 1 (by omega) hl (by omega) (by omega)
theorem numsI_len (n : Nat) : ∀ a, (numsI a n).length = n := by
  induction n with
  | zero => intro a; rfl
  | succ n ih => intro a; simp [numsI, ih]
theorem heldI_loop (d : Nat) : ∀ (l : List It) (i : Nat) (a : Int), i + d = l.length → l.length ≤ 1048576 → 0 ≤ a → a + 3 * d ≤ 100000000 → l.drop i = numsI a d →
    Ev (fun k => laws_heldItemS.l0 k l a (i : Int)) (a + 3 * (d : Int)) := by
  induction d with
  | zero =>
    intro l i a hi _ _ _ _
    refine Ev.step (fun k => by rw [laws_heldItemS.l0]) (Ev.congr (fun k => if_neg (by omega)) ?_)
    simpa using Ev.now a
  | succ d ih =>
    intro l i a hi hl h0 h1 hd
    have hlt : i < l.length := by omega
    rw [rdI_drop hlt] at hd
    obtain ⟨hx, hr⟩ := List.cons.inj hd
    refine Ev.step (fun k => by rw [laws_heldItemS.l0]) (Ev.congr (fun k => (if_pos (by omega)).trans (if_pos (by omega))) ?_)
    have e1 : wrap64 (a + 1) = a + 1 := w64 (by omega) (by omega)
    have e2 : wrap64 (a + 1 + 1) = a + 2 := by rw [w64 (by omega) (by omega)]; omega
    have e3 : wrap64 (a + 2 + 1) = a + 3 := by rw [w64 (by omega) (by omega)]; omega
    rw [e1, e2, e3, up1 hlt (by omega), hx]
    have := ih l (i + 1) (a + 3) (by omega) hl (by omega) (by omega) hr
    have e4 : a + 3 + 3 * (d : Int) = a + 3 * ((d + 1 : Nat) : Int) := by omega
    rw [e4] at this
    exact Ev.congr (fun k => (if_pos rfl).trans ((if_pos rfl).trans (if_pos rfl))) this
theorem heldI_ev (n : Nat) (hn : n ≤ 1048576) : Ev (fun k => laws_heldItemS.f k (numsI 1 n) 1) (1 + 3 * (n : Int)) := by
  unfold laws_heldItemS.f
  have := heldI_loop n (numsI 1 n) 0 1 (by rw [numsI_len]; omega) (by rw [numsI_len]; omega) (by omega) (by omega) (by simp)
  simpa using this

/-! the sums of the reference, key by key -/
theorem l3Sum_ev (l : List It) (hl : l.length ≤ 1048576) (kind : Int) (g : Int → List It) (hg : ∀ key, Ev (fun k => spec_l3Key.f k l key kind) (g key)) (hlen : ∀ key, (g key).length ≤ 1048576) :
    Ev (fun k => spec_l3Sum.f k l kind) (if setOk l then g 0 ++ (g 1 ++ (g 2 ++ g 3)) else []) := by
  unfold spec_l3Sum.f
  have h0 := hlen 0; have h1 := hlen 1; have h2 := hlen 2; have h3 := hlen 3
  have e1 : wrap64 (0 + 1) = 1 := by unfold wrap64; omega
  have e2 : wrap64 (1 + 1) = 2 := by unfold wrap64; omega
  have e3 : wrap64 (2 + 1) = 3 := by unfold wrap64; omega
  have e4 : wrap64 (3 + 1) = 4 := by unfold wrap64; omega
  refine Ev.step (fun k => by rw [spec_l3Sum.l0]) (Ev.congr (fun k => if_pos (by omega)) (Ev.bind (s_set l hl) ?_))
  cases hok : setOk l with
  | false => exact Ev.now _
  | true =>
    refine Ev.congr (fun k => if_pos rfl) (Ev.bind (hg 0) (Ev.congr (fun k => if_pos (by simp; omega)) ?_))
    rw [e1]
    refine Ev.step (fun k => by rw [spec_l3Sum.l0]) (Ev.congr (fun k => if_pos (by omega)) (Ev.bind (s_set l hl) ?_))
    rw [hok]
    refine Ev.congr (fun k => if_pos rfl) (Ev.bind (hg 1) (Ev.congr (fun k => if_pos (by simp; omega)) ?_))
    rw [e2]
    refine Ev.step (fun k => by rw [spec_l3Sum.l0]) (Ev.congr (fun k => if_pos (by omega)) (Ev.bind (s_set l hl) ?_))
    rw [hok]
    refine Ev.congr (fun k => if_pos rfl) (Ev.bind (hg 2) (Ev.congr (fun k => if_pos (by simp; omega)) ?_))
    rw [e3]
    refine Ev.step (fun k => by rw [spec_l3Sum.l0]) (Ev.congr (fun k => if_pos (by omega)) (Ev.bind (s_set l hl) ?_))
    rw [hok]
    refine Ev.congr (fun k => if_pos rfl) (Ev.bind (hg 3) (Ev.congr (fun k => if_pos (by simp; omega)) ?_))
    rw [e4]
    refine Ev.step (fun k => by rw [spec_l3Sum.l0]) (Ev.congr (fun k => if_neg (by omega)) ?_)
    simpa [List.append_assoc] using Ev.now _

/-! a collection is in order -/
theorem sOk1_facts {p : It} {l : List It} (h : sOk1 p l = true) : (∀ x ∈ l, itOk x = true) ∧ (p :: l).Pairwise (fun x y => ilt x y = true) := by
  induction l generalizing p with
  | nil => exact ⟨fun x hx => by simp at hx, List.pairwise_singleton _ _⟩
  | cons y r ih =>
    simp only [sOk1, Bool.and_eq_true] at h
    obtain ⟨⟨h1, h2⟩, h3⟩ := h
    obtain ⟨g1, g2⟩ := ih h3
    refine ⟨fun x hx => ?_, List.pairwise_cons.2 ⟨fun x hx => ?_, g2⟩⟩
    · rcases List.mem_cons.1 hx with rfl | hx
      · exact h1
      · exact g1 x hx
    · rcases List.mem_cons.1 hx with rfl | hx
      · exact h2
      · have h4 := (List.pairwise_cons.1 g2).1 x hx
        simp only [ilt, decide_eq_true_eq] at h2 h4 ⊢
        omega
theorem setOk_facts {l : List It} (h : setOk l = true) : l.length ≤ 400 ∧ (∀ x ∈ l, itOk x = true) ∧ l.Pairwise (fun x y => ilt x y = true) := by
  unfold setOk at h
  simp only [Bool.and_eq_true, decide_eq_true_eq] at h
  refine ⟨h.1, ?_⟩
  cases l with
  | nil => exact ⟨fun x hx => by simp at hx, List.Pairwise.nil⟩
  | cons x r =>
    have h2 := h.2
    simp only [sOk, Bool.and_eq_true] at h2
    obtain ⟨g1, g2⟩ := sOk1_facts h2.2
    refine ⟨fun y hy => ?_, g2⟩
    rcases List.mem_cons.1 hy with rfl | hy
    · exact h2.1
    · exact g1 y hy
theorem itOk_key {x : It} (h : itOk x = true) : 0 ≤ x.f0 ∧ x.f0 ≤ 3 := by
  simp only [itOk, Bool.and_eq_true, decide_eq_true_eq] at h
  exact h.1
/-- A list in order, cut by its keys, is the list. -/
theorem by_keys {l : List It} (hk : ∀ x ∈ l, 0 ≤ x.f0 ∧ x.f0 ≤ 3) (hs : l.Pairwise fun x y => x.f0 ≤ y.f0) :
    l.filter (fun x => x.f0 == 0) ++ (l.filter (fun x => x.f0 == 1) ++ (l.filter (fun x => x.f0 == 2) ++ l.filter (fun x => x.f0 == 3))) = l := by
  induction l with
  | nil => rfl
  | cons y r ih =>
    have ih' := ih (fun x hx => hk x (List.mem_cons_of_mem _ hx)) (List.pairwise_cons.1 hs).2
    have hge := (List.pairwise_cons.1 hs).1
    have low : ∀ k : Int, k < y.f0 → r.filter (fun x => x.f0 == k) = [] := fun k hk2 => by
      rw [List.filter_eq_nil_iff]
      intro x hx
      have := hge x hx
      simp only [beq_iff_eq]
      omega
    have hy := hk y List.mem_cons_self
    have c : y.f0 = 0 ∨ y.f0 = 1 ∨ y.f0 = 2 ∨ y.f0 = 3 := by omega
    rcases c with c | c | c | c
    · simp only [List.filter_cons, c]
      simpa using ih'
    · have l0 := low 0 (by omega)
      rw [l0] at ih'
      simp only [List.filter_cons, c, l0]
      simpa using ih'
    · have l0 := low 0 (by omega)
      have l1 := low 1 (by omega)
      rw [l0, l1] at ih'
      simp only [List.filter_cons, c, l0, l1]
      simpa using ih'
    · have l0 := low 0 (by omega)
      have l1 := low 1 (by omega)
      have l2 := low 2 (by omega)
      rw [l0, l1, l2] at ih'
      simp only [List.filter_cons, c, l0, l1, l2]
      simpa using ih'

/-! SetOnce -/
def onI (x : It) : It := ⟨x.f0, x.f1, 1⟩
def onceL (l : List It) : List It := (l.filter fun x => decide (x.f2 > 0)).map onI
def setOnce (l : List It) : List It := if setOk l then onceL l else []
theorem i_once_loop (l : List It) (hl : l.length ≤ 1048576) (d : Nat) : ∀ (i : Nat) (out : List It), i + d = l.length → out.length ≤ i →
    Ev (fun k => impl_once.l0 k out l (l.length : Int) (i : Int)) (out ++ onceL (l.drop i)) := by
  induction d with
  | zero =>
    intro i out hi _
    rw [List.drop_eq_nil_of_le (by omega)]
    refine Ev.step (fun k => by rw [impl_once.l0]) (Ev.congr (fun k => if_neg (by omega)) ?_)
    simpa [onceL] using Ev.now out
  | succ d ih =>
    intro i out hi ho
    refine Ev.step (fun k => by rw [impl_once.l0]) (Ev.congr (fun k => (if_pos (by omega)).trans ((if_pos (by omega)).trans (if_pos (by omega)))) ?_)
    rw [up1 (by omega : i < l.length) (by omega), rdI_drop (by omega : i < l.length)]
    by_cases h : (rd_T60 l (i : Int)).f2 > 0
    · have := ih (i + 1) (out ++ [onI (rd_T60 l (i : Int))]) (by omega) (by simp; omega)
      rw [show onceL (rd_T60 l (i : Int) :: l.drop (i + 1)) = onI (rd_T60 l (i : Int)) :: onceL (l.drop (i + 1)) by simp [onceL, h]]
      exact Ev.congr (fun k => (if_pos h).trans (if_pos (by omega))) (by simpa [onI] using this)
    · rw [show onceL (rd_T60 l (i : Int) :: l.drop (i + 1)) = onceL (l.drop (i + 1)) by simp [onceL, h]]
      exact Ev.congr (fun k => if_neg h) (ih (i + 1) out (by omega) (by omega))
theorem i_once (l : List It) (hl : l.length ≤ 1048576) : Ev (fun k => impl_once.f k l) (onceL l) := by
  unfold impl_once.f
  simpa using i_once_loop l hl l.length 0 [] (by omega) (by simp)
theorem onceL_len (l : List It) : (onceL l).length ≤ l.length := by
  unfold onceL
  rw [List.length_map]
  exact List.length_filter_le _ _

theorem once_keys {l : List It} (h : setOk l = true) :
    onceL (l.filter fun x => x.f0 == 0) ++ (onceL (l.filter fun x => x.f0 == 1) ++ (onceL (l.filter fun x => x.f0 == 2) ++ onceL (l.filter fun x => x.f0 == 3))) = onceL l := by
  obtain ⟨_, h2, h3⟩ := setOk_facts h
  have app : ∀ a b : List It, onceL a ++ onceL b = onceL (a ++ b) := fun a b => by simp [onceL]
  rw [app, app, app, by_keys (fun x hx => itOk_key (h2 x hx)) (h3.imp fun hxy => by simp only [ilt, decide_eq_true_eq] at hxy; omega)]

/-! SetLeast -/
def lstI : Option Int → List It → List It
  | _, [] => []
  | p, x :: r => if p = some x.f0 then lstI p r else x :: lstI (some x.f0) r
def leastL (l : List It) : List It := lstI none (onceL l)
def setLeast (l : List It) : List It := if setOk l then leastL l else []
theorem lst_sub (l : List It) : ∀ p, (lstI p l).Sublist l := by
  induction l with
  | nil => intro p; exact List.Sublist.refl _
  | cons x r ih =>
    intro p
    unfold lstI
    split
    · exact (ih p).cons x
    · exact (ih _).cons_cons x
theorem leastL_len (l : List It) : (leastL l).length ≤ l.length := Nat.le_trans (lst_sub _ _).length_le (onceL_len l)
theorem setLeast_len (l : List It) (hl : l.length ≤ 1048576) : (setLeast l).length ≤ 1048576 := by
  unfold setLeast
  split
  · exact Nat.le_trans (leastL_len l) hl
  · simp
theorem rd_last (pre : List It) (y : It) (h : pre.length ≤ 1048576) : wrap64 (((pre ++ [y]).length : Int) - 1) = (pre.length : Int) ∧ rd_T60 (pre ++ [y]) (pre.length : Int) = y := by
  have e : (pre ++ [y]).length = pre.length + 1 := by simp
  refine ⟨by rw [w64 (by omega) (by omega)]; omega, ?_⟩
  have := rdI_drop (xs := pre ++ [y]) (i := pre.length) (by simp)
  rw [List.drop_left] at this
  exact (List.cons.inj this).1.symm
/-- the last key of what is there -/
def lastK (out : List It) (p : Option Int) : Prop := (out = [] ∧ p = none) ∨ ∃ pre y, out = pre ++ [y] ∧ p = some y.f0
theorem i_least_loop (t : List It) (hl : t.length ≤ 1048576) (d : Nat) : ∀ (i : Nat) (out : List It) (p : Option Int), i + d = t.length → out.length ≤ i → lastK out p →
    Ev (fun k => impl_leastOf.l0 k out t (t.length : Int) (i : Int)) (out ++ lstI p (t.drop i)) := by
  induction d with
  | zero =>
    intro i out p hi _ _
    rw [List.drop_eq_nil_of_le (by omega)]
    refine Ev.step (fun k => by rw [impl_leastOf.l0]) (Ev.congr (fun k => if_neg (by omega)) ?_)
    simpa [lstI] using Ev.now out
  | succ d ih =>
    intro i out p hi ho hp
    refine Ev.step (fun k => by rw [impl_leastOf.l0]) (Ev.congr (fun k => (if_pos (by omega)).trans ((if_pos (by omega)).trans (if_pos (by omega)))) ?_)
    rw [up1 (by omega : i < t.length) (by omega), rdI_drop (by omega : i < t.length)]
    generalize rd_T60 t (i : Int) = x
    have add : p ≠ some x.f0 → Ev (fun k => impl_leastOf.l0 k (out ++ [x]) t (t.length : Int) ((i + 1 : Nat) : Int)) (out ++ lstI p (x :: t.drop (i + 1))) := fun hne => by
      rw [show lstI p (x :: t.drop (i + 1)) = x :: lstI (some x.f0) (t.drop (i + 1)) from if_neg hne]
      have := ih (i + 1) (out ++ [x]) (some x.f0) (by omega) (by simp; omega) (.inr ⟨out, x, rfl, rfl⟩)
      simpa using this
    rcases hp with ⟨h1, h2⟩ | ⟨pre, y, h1, h2⟩
    · exact Ev.congr (fun k => (if_pos (by rw [h1]; rfl)).trans (if_pos (by omega))) (add (by rw [h2]; simp))
    · have hlen : out.length = pre.length + 1 := by rw [h1]; simp
      obtain ⟨e1, e2⟩ := rd_last pre y (by omega)
      rw [← h1] at e1 e2
      rw [e1, e2]
      refine Ev.congr (fun k => (if_neg (by omega)).trans ((if_pos (by omega)).trans (if_pos (by omega)))) ?_
      by_cases hk : y.f0 = x.f0
      · refine Ev.congr (fun k => if_pos hk) ?_
        rw [show lstI p (x :: t.drop (i + 1)) = lstI p (t.drop (i + 1)) by rw [lstI, if_pos (by rw [h2, hk])]]
        exact ih (i + 1) out p (by omega) (by omega) (.inr ⟨pre, y, h1, h2⟩)
      · exact Ev.congr (fun k => (if_neg hk).trans (if_pos (by omega))) (add (by rw [h2]; simpa using hk))
theorem i_leastof (l : List It) (hl : l.length ≤ 1048576) : Ev (fun k => impl_leastOf.f k l) (leastL l) := by
  unfold impl_leastOf.f leastL
  have := onceL_len l
  refine Ev.bind (i_once l hl) ?_
  simpa using i_least_loop (onceL l) (by omega) (onceL l).length 0 [] none (by omega) (by simp) (.inl ⟨rfl, rfl⟩)
theorem i_setleast (l : List It) (hl : l.length ≤ 1048576) : Ev (fun k => impl_SetLeast.f k l) (setLeast l) := by
  unfold impl_SetLeast.f setLeast
  refine Ev.bind (i_set l hl) ?_
  cases hok : setOk l with
  | false => exact Ev.now _
  | true => exact Ev.congr (fun k => if_pos rfl) (Ev.bind (i_leastof l hl) (Ev.now _))
theorem key3_done (l : List It) (hl : l.length ≤ 1048576) (key : Int) (d : Nat) : ∀ (i : Nat) (out : List It) (n : Int), i + d = l.length → out ≠ [] →
    Ev (fun k => spec_l3Key.l0 k l key 3 out n (i : Int)) out := by
  induction d with
  | zero =>
    intro i out n hi _
    refine Ev.step (fun k => by rw [spec_l3Key.l0]) ?_
    exact (Ev.congr (fun k => (if_neg (by omega)).trans (if_neg (by omega))) (Ev.now out))
  | succ d ih =>
    intro i out n hi ho
    refine Ev.step (fun k => by rw [spec_l3Key.l0]) (Ev.congr (fun k => (if_pos (by omega)).trans (if_pos (by omega))) ?_)
    rw [up1 (by omega : i < l.length) (by omega)]
    have hz : ¬ (out.length : Int) = 0 := fun h => ho (List.eq_nil_of_length_eq_zero (by omega))
    generalize rd_T60 l (i : Int) = x
    by_cases h1 : x.f0 = key
    · refine Ev.congr (fun k => if_pos h1) ?_
      by_cases h : x.f2 > 0
      · exact Ev.congr (fun k => (if_pos h).trans ((if_neg (by omega)).trans ((if_pos rfl).trans (if_neg hz)))) (ih (i + 1) out _ (by omega) ho)
      · exact Ev.congr (fun k => if_neg h) (ih (i + 1) out _ (by omega) ho)
    · exact Ev.congr (fun k => if_neg h1) (ih (i + 1) out _ (by omega) ho)
theorem key3_loop (l : List It) (hl : l.length ≤ 1048576) (key : Int) (d : Nat) : ∀ (i : Nat) (n : Int), i + d = l.length →
    Ev (fun k => spec_l3Key.l0 k l key 3 [] n (i : Int)) ((onceL ((l.drop i).filter fun x => x.f0 == key)).take 1) := by
  induction d with
  | zero =>
    intro i n hi
    rw [List.drop_eq_nil_of_le (by omega)]
    refine Ev.step (fun k => by rw [spec_l3Key.l0]) (Ev.congr (fun k => (if_neg (by omega)).trans (if_neg (by omega))) ?_)
    exact Ev.now _
  | succ d ih =>
    intro i n hi
    refine Ev.step (fun k => by rw [spec_l3Key.l0]) (Ev.congr (fun k => (if_pos (by omega)).trans (if_pos (by omega))) ?_)
    rw [up1 (by omega : i < l.length) (by omega), rdI_drop (by omega : i < l.length)]
    generalize hx : rd_T60 l (i : Int) = x
    by_cases h1 : x.f0 = key
    · rw [List.filter_cons_of_pos (by simpa using h1)]
      refine Ev.congr (fun k => if_pos h1) ?_
      by_cases h : x.f2 > 0
      · rw [show onceL (x :: (l.drop (i + 1)).filter fun x => x.f0 == key) = onI x :: onceL ((l.drop (i + 1)).filter fun x => x.f0 == key) by simp [onceL, h]]
        refine Ev.congr (fun k => (if_pos h).trans ((if_neg (by omega)).trans ((if_pos rfl).trans ((if_pos rfl).trans (if_pos (by simp)))))) ?_
        subst h1
        have := key3_done l hl x.f0 d (i + 1) [onI x] (wrap64 (n + x.f2)) (by omega) (by simp)
        simpa [onI] using this
      · rw [show onceL (x :: (l.drop (i + 1)).filter fun x => x.f0 == key) = onceL ((l.drop (i + 1)).filter fun x => x.f0 == key) by simp [onceL, h]]
        exact Ev.congr (fun k => if_neg h) (ih (i + 1) _ (by omega))
    · rw [List.filter_cons_of_neg (by simpa using h1)]
      exact Ev.congr (fun k => if_neg h1) (ih (i + 1) _ (by omega))
theorem lst_skip (c : Int) (A B : List It) (h : ∀ x ∈ A, x.f0 = c) : lstI (some c) (A ++ B) = lstI (some c) B := by
  induction A with
  | nil => rfl
  | cons x r ih =>
    rw [List.cons_append, lstI, if_pos (by rw [h x List.mem_cons_self])]
    exact ih fun y hy => h y (List.mem_cons_of_mem _ hy)
theorem lst_app (c : Int) (p : Option Int) (A B : List It) (h : ∀ x ∈ A, x.f0 = c) (hp : p ≠ some c) : ∃ q, (q = p ∨ q = some c) ∧ lstI p (A ++ B) = A.take 1 ++ lstI q B := by
  cases A with
  | nil => exact ⟨p, .inl rfl, rfl⟩
  | cons x r =>
    have hx := h x List.mem_cons_self
    refine ⟨some c, .inr rfl, ?_⟩
    rw [List.cons_append, lstI, if_neg (by rw [hx]; exact hp), hx, lst_skip c r B fun y hy => h y (List.mem_cons_of_mem _ hy)]
    rfl
theorem once_key (c : Int) (l : List It) : ∀ x ∈ onceL (l.filter fun x => x.f0 == c), x.f0 = c := by
  intro x hx
  simp only [onceL, List.mem_map, List.mem_filter, beq_iff_eq] at hx
  obtain ⟨y, ⟨⟨_, h⟩, _⟩, rfl⟩ := hx
  exact h
theorem least_keys {l : List It} (h : setOk l = true) :
    (onceL (l.filter fun x => x.f0 == 0)).take 1 ++ ((onceL (l.filter fun x => x.f0 == 1)).take 1 ++ ((onceL (l.filter fun x => x.f0 == 2)).take 1 ++ (onceL (l.filter fun x => x.f0 == 3)).take 1)) = leastL l := by
  unfold leastL
  rw [← once_keys h]
  have k0 := once_key 0 l; have k1 := once_key 1 l; have k2 := once_key 2 l; have k3 := once_key 3 l
  obtain ⟨q0, h0, e0⟩ := lst_app 0 none _ (onceL (l.filter fun x => x.f0 == 1) ++ (onceL (l.filter fun x => x.f0 == 2) ++ onceL (l.filter fun x => x.f0 == 3))) k0 (by simp)
  obtain ⟨q1, h1, e1⟩ := lst_app 1 q0 _ (onceL (l.filter fun x => x.f0 == 2) ++ onceL (l.filter fun x => x.f0 == 3)) k1 (by rcases h0 with rfl | rfl <;> simp)
  obtain ⟨q2, h2, e2⟩ := lst_app 2 q1 _ (onceL (l.filter fun x => x.f0 == 3)) k2 (by rcases h1 with rfl | rfl <;> first | (simp; done) | (rcases h0 with rfl | rfl <;> simp))
  obtain ⟨q3, h3, e3⟩ := lst_app 3 q2 _ [] k3 (by rcases h2 with rfl | rfl <;> first | (simp; done) | (rcases h1 with rfl | rfl <;> first | (simp; done) | (rcases h0 with rfl | rfl <;> simp)))
  rw [List.append_nil] at e3
  rw [e0, e1, e2, e3]
  simp [lstI]
theorem s_setleast (l : List It) (hl : l.length ≤ 1048576) : Ev (fun k => spec_SetLeast.f k l) (setLeast l) := by
  unfold spec_SetLeast.f setLeast
  have hlen : ∀ key : Int, ((onceL (l.filter fun x => x.f0 == key)).take 1).length ≤ 1048576 := fun key => by rw [List.length_take]; omega
  have := l3Sum_ev l hl 3 (fun key => (onceL (l.filter fun x => x.f0 == key)).take 1) (fun key => by
    unfold spec_l3Key.f
    simpa using key3_loop l hl key l.length 0 0 (by omega)) hlen
  refine Ev.bind this ?_
  cases hok : setOk l with
  | false => exact Ev.now _
  | true =>
    simp only [if_true, least_keys hok]
    exact Ev.now _

theorem SetLeast_holds (hs : ∀ l : List It, l.length ≤ 1048576 → ∃ r : List It, r.length ≤ 1048576 ∧ Ev (fun k => spec_SetLeast.f k l) r ∧ Ev (fun k => impl_SetLeast.f k l) r) (l : List ItA) (hm : l.length ≤ maxLen) : ∃ k, laws_FnExactSetLeast.f k l = some true := by
  refine Ev.rounds ?_
  unfold laws_FnExactSetLeast.f
  by_cases h : 1048576 < l.length
  · exact Ev.bind ⟨0, fun k _ => szItemS_big l 1048576 hm (by omega) (by omega)⟩ (Ev.congr (fun k => if_pos (by omega)) (Ev.now _))
  · have hl : l.length ≤ 1048576 := by omega
    have hc : (l.map cvI).length ≤ 1048576 := by simpa using hl
    obtain ⟨r, hr, es, ei⟩ := hs (l.map cvI) hc
    refine Ev.bind ⟨0, fun k _ => szItemS_small l 1048576 (by omega) (by omega)⟩ (Ev.congr (fun k => if_neg (by omega)) ?_)
    refine Ev.bind (toItemS_ev l hl) (Ev.bind es (Ev.bind (toItemS_ev l hl) (Ev.bind ei (Ev.bind (eqItemS_ev _ hr) (Ev.congr (fun k => if_pos rfl) ?_)))))
    refine Ev.bind (toItemS_ev l hl) (Ev.bind (eqItemS_ev _ hc) (Ev.congr (fun k => if_pos rfl) (Ev.bind (markI_ev _ hc) (Ev.congr (fun k => if_neg (by simp only; omega)) (Ev.bind (eqItemS_ev _ hr) ?_)))))
    refine Ev.step (fun k => by rw [laws_FnExactSetLeast.j0]) (Ev.congr (fun k => if_neg (by simp)) ?_)
    refine Ev.bind (markI_ev _ hr) (Ev.bind (heldI_ev _ hr) (Ev.congr (fun k => (if_neg (by omega)).trans (if_pos rfl)) ?_))
    exact Ev.bind (toItemS_ev l hl) (Ev.bind ei (Ev.bind (eqItemS_ev _ hr) (Ev.congr (fun k => if_pos rfl) (Ev.bind (heldI_ev _ hr) (Ev.congr (fun k => (if_neg (by omega)).trans (if_pos rfl)) (Ev.now _))))))
theorem FnExactSetLeast (l : List ItA) (hm : l.length ≤ maxLen) {P : Prop} (_ : P) : ∃ k, laws_FnExactSetLeast.f k l = some true := SetLeast_holds (fun l hl => ⟨setLeast l, setLeast_len l hl, s_setleast l hl, i_setleast l hl⟩) l hm
end Go.Proofs.Ytiegpijhkhopgaa.Pure
