/- The plain law of FnExactSetLess. -/
import Derived.Test.YtiegpijhkhopgaaVFnExactSetLessx
namespace Go.Proofs.Ytiegpijhkhopgaa.Pure
open Go.RowKit Go.Proofs.Ytiegpijhkhopgaa.PFnExactSetLess Go.Proofs.YtiegpijhkhopgaaW.PrintWords Go.Proofs.YtiegpijhkhopgaaW.PrintLast Go.Proofs.Ytiegpijhkhopgaa.EvP
theorem up1 {i n : Nat} (h : i < n) (hn : n ≤ 4611686018427387904) : wrap64 ((i : Int) + 1) = ((i + 1 : Nat) : Int) := by
  rw [w64 (by omega) (by omega)]; rfl

/-! lists of items -/
abbrev It := S60
theorem rdI_drop {xs : List It} {i : Nat} (h : i < xs.length) : xs.drop i = rd_T60 xs (i : Int) :: xs.drop (i + 1) := by
  unfold rd_T60
  rw [List.drop_eq_getElem_cons h, List.getD_eq_getElem?_getD, Int.toNat_natCast, List.getElem?_eq_getElem h]
  rfl

/-! the laws' own items made into the program's -/
abbrev ItA := S64
def cvI (x : ItA) : It := ⟨x.f0, x.f1, x.f2⟩
theorem rdC_drop {xs : List ItA} {i : Nat} (h : i < xs.length) : xs.drop i = rd_T64 xs (i : Int) :: xs.drop (i + 1) := by
  unfold rd_T64
  rw [List.drop_eq_getElem_cons h, List.getD_eq_getElem?_getD, Int.toNat_natCast, List.getElem?_eq_getElem h]
  rfl
theorem toItemS_loop (l : List ItA) (hl : l.length ≤ 1048576) (d : Nat) : ∀ (i : Nat) (out : List It), i + d = l.length → out.length = l.length →
    Ev (fun k => laws_toItemS.l0 k l out (i : Int)) (out.take i ++ (l.drop i).map cvI) := by
  induction d with
  | zero =>
    intro i out hi ho
    refine Ev.step (fun k => by rw [laws_toItemS.l0]) ?_
    refine Ev.congr (fun k => if_neg (by omega)) ?_
    rw [List.take_of_length_le (by omega), List.drop_eq_nil_of_le (by omega)]
    simpa using Ev.now out
  | succ d ih =>
    intro i out hi ho
    have hlt : i < l.length := by omega
    refine Ev.step (fun k => by rw [laws_toItemS.l0]) ?_
    refine Ev.congr (fun k => (if_pos (by omega)).trans (if_pos (by omega))) ?_
    refine Ev.bind (Ev.now _) ?_
    refine Ev.congr (fun k => if_pos (by omega)) ?_
    rw [up1 hlt (by omega)]
    have := ih (i + 1) (out.set i (cvI (rd_T64 l (i : Int)))) (by omega) (by simpa using ho)
    rw [List.take_succ_eq_append_getElem (by simp; omega), List.getElem_set_self, List.take_set_of_le (by omega)] at this
    rw [rdC_drop hlt, List.map_cons]
    simpa [cvI] using this
theorem toItemS_ev (l : List ItA) (hl : l.length ≤ 1048576) : Ev (fun k => laws_toItemS.f k l) (l.map cvI) := by
  unfold laws_toItemS.f
  refine Ev.congr (fun k => (if_pos (by omega)).trans (if_pos (by omega))) ?_
  simpa using toItemS_loop l hl l.length 0 (List.replicate ((l.length : Int)).toNat z60) (by omega) (by simp)
theorem eqItemS_loop (l : List It) (hl : l.length ≤ 1048576) (d : Nat) : ∀ i : Nat, i + d = l.length → Ev (fun k => laws_eqItemS.l0 k l l (i : Int)) true := by
  induction d with
  | zero =>
    intro i hi
    refine Ev.step (fun k => by rw [laws_eqItemS.l0]) ?_
    exact Ev.congr (fun k => if_neg (by omega)) (Ev.now _)
  | succ d ih =>
    intro i hi
    refine Ev.step (fun k => by rw [laws_eqItemS.l0]) ?_
    refine Ev.congr (fun k => (if_pos (by omega)).trans ((if_pos (by omega)).trans (if_pos (by omega)))) ?_
    refine Ev.bind (a := true) ⟨0, fun k _ => by simp [laws_eqItem.f]⟩ (Ev.congr (fun k => if_pos rfl) ?_)
    rw [up1 (by omega : i < l.length) (by omega)]
    exact ih (i + 1) (by omega)
theorem eqItemS_ev (l : List It) (hl : l.length ≤ 1048576) : Ev (fun k => laws_eqItemS.f k l l) true := by
  unfold laws_eqItemS.f
  exact Ev.congr (fun k => if_pos rfl) (eqItemS_loop l hl l.length 0 (by omega))
theorem szItemS_big (l : List ItA) (a : Int) (hm : l.length ≤ maxLen) (h0 : 0 ≤ a) (h : a < l.length) : laws_szItemS.f l a = some (-1) := by
  unfold maxLen at hm
  unfold laws_szItemS.f
  rw [w64 (by omega) (by omega), if_pos (by omega)]
theorem szItemS_small (l : List ItA) (a : Int) (ha : a ≤ 1048576) (h : (l.length : Int) ≤ a) : laws_szItemS.f l a = some (a - (l.length : Int)) := by
  unfold laws_szItemS.f
  rw [w64 (by omega) (by omega), if_neg (by omega)]

/-! collections -/
def itOk (x : It) : Bool := decide (0 ≤ x.f0 ∧ x.f0 ≤ 3) && (decide (0 ≤ x.f1 ∧ x.f1 ≤ 99) && ((x.f2 != 0) && decide (-1099511627776 ≤ x.f2 ∧ x.f2 ≤ 1099511627776)))
def ilt (x y : It) : Bool := decide (x.f0 < y.f0 ∨ x.f0 = y.f0 ∧ x.f1 < y.f1)
def sOk1 (p : It) : List It → Bool
  | [] => true
  | y :: r => itOk y && ilt p y && sOk1 y r
def sOk : List It → Bool
  | [] => true
  | x :: r => itOk x && sOk1 x r
def setOk (l : List It) : Bool := decide (l.length ≤ 400) && sOk l

theorem s_in (a b c : Int) : spec_l6In.f a b c = some (decide (b ≤ a ∧ a ≤ c)) := by
  unfold spec_l6In.f
  by_cases h0 : b ≤ a <;> by_cases h1 : a ≤ c <;> simp [h0, h1]

theorem s_l3Item (x : It) : spec_l3Item.f x.f0 x.f1 x.f2 = some (decide (0 ≤ x.f0 ∧ x.f0 ≤ 3) && (decide (0 ≤ x.f1 ∧ x.f1 ≤ 99) && (x.f2 != 0))) := by
  unfold spec_l3Item.f
  simp only [s_in, Option.bind_some]
  cases decide (0 ≤ x.f0 ∧ x.f0 ≤ 3) <;> cases decide (0 ≤ x.f1 ∧ x.f1 ≤ 99) <;> rfl
theorem s_set_loop (l : List It) (hl : l.length ≤ 1048576) (d : Nat) : ∀ i : Nat, i + 1 + d = l.length → Ev (fun k => spec_SetOk.l0 k l ((i + 1 : Nat) : Int)) (sOk1 (rd_T60 l (i : Int)) (l.drop (i + 1))) := by
  induction d with
  | zero =>
    intro i hi
    refine Ev.step (fun k => by rw [spec_SetOk.l0]) (Ev.congr (fun k => if_neg (by omega)) ?_)
    rw [List.drop_eq_nil_of_le (by omega)]
    exact Ev.now _
  | succ d ih =>
    intro i hi
    rw [rdI_drop (by omega : i + 1 < l.length)]
    unfold sOk1
    have e : wrap64 (((i + 1 : Nat) : Int) - 1) = (i : Int) := by rw [w64 (by omega) (by omega)]; omega
    have e2 : wrap64 (-1099511627776) = -1099511627776 := w64 (by omega) (by omega)
    refine Ev.step (fun k => by rw [spec_SetOk.l0]) (Ev.congr (fun k => (if_pos (by omega)).trans (if_pos (by omega))) ?_)
    refine Ev.bind ⟨0, fun k _ => s_l3Item _⟩ ?_
    rw [e, up1 (by omega : i + 1 < l.length) (by omega)]
    have ih' := ih (i + 1) (by omega)
    generalize rd_T60 l ((i + 1 : Nat) : Int) = y at *
    generalize rd_T60 l (i : Int) = p at *
    have no : itOk y = false → Ev (fun _ : Nat => some false) (itOk y && ilt p y && sOk1 y (l.drop (i + 1 + 1))) := fun h => by rw [h]; exact Ev.now _
    cases c1 : (decide (0 ≤ y.f0 ∧ y.f0 ≤ 3) && (decide (0 ≤ y.f1 ∧ y.f1 ≤ 99) && (y.f2 != 0))) with
    | false => exact Ev.congr (fun k => if_neg (by simp)) (no (by
        unfold itOk
        rw [← Bool.and_assoc, ← Bool.and_assoc, Bool.and_assoc (decide _) (decide _), c1, Bool.false_and]))
    | true =>
      refine Ev.congr (fun k => if_pos rfl) (Ev.bind (Ev.now _) (Ev.bind (Ev.now _) (Ev.bind ⟨0, fun k _ => s_in _ _ _⟩ ?_)))
      rw [e2]
      have ei : itOk y = decide (-1099511627776 ≤ y.f2 ∧ y.f2 ≤ 1099511627776) := by
        unfold itOk
        rw [← Bool.and_assoc, ← Bool.and_assoc, Bool.and_assoc (decide _) (decide _), c1, Bool.true_and]
      cases c2 : decide (-1099511627776 ≤ y.f2 ∧ y.f2 ≤ 1099511627776) with
      | false => exact Ev.congr (fun k => if_neg (by simp)) (no (by rw [ei, c2]))
      | true =>
        rw [ei, c2, Bool.true_and]
        refine Ev.congr (fun k => (if_pos rfl).trans ((if_pos (by omega)).trans ((if_pos (by omega)).trans (if_pos (by omega))))) ?_
        by_cases h1 : p.f0 > y.f0
        · refine Ev.congr (fun k => if_pos h1) ?_
          rw [show ilt p y = false from decide_eq_false (by omega)]
          exact Ev.now _
        · refine Ev.congr (fun k => if_neg h1) ?_
          by_cases h2 : p.f0 = y.f0
          · refine Ev.congr (fun k => if_pos h2) ?_
            by_cases h3 : p.f1 ≥ y.f1
            · refine Ev.congr (fun k => if_pos h3) ?_
              rw [show ilt p y = false from decide_eq_false (by omega)]
              exact Ev.now _
            · refine Ev.congr (fun k => if_neg h3) ?_
              rw [show ilt p y = true from decide_eq_true (by omega)]
              exact ih'
          · refine Ev.congr (fun k => if_neg h2) ?_
            rw [show ilt p y = true from decide_eq_true (by omega)]
            exact ih'
theorem s_set (l : List It) (hl : l.length ≤ 1048576) : Ev (fun k => spec_SetOk.f k l) (setOk l) := by
  unfold spec_SetOk.f setOk
  by_cases h : (l.length : Int) > 400
  · rw [decide_eq_false (by omega)]
    exact Ev.congr (fun k => if_pos h) (Ev.now _)
  rw [decide_eq_true (by omega), Bool.true_and]
  refine Ev.congr (fun k => if_neg h) ?_
  cases l with
  | nil =>
    refine Ev.step (fun k => by rw [spec_SetOk.l0]) ?_
    exact (Ev.congr (fun k => if_neg (by simp)) (Ev.now _))
  | cons x r =>
    refine Ev.step (fun k => by rw [spec_SetOk.l0]) (Ev.congr (fun k => (if_pos (by simp)).trans (if_pos (by omega))) ?_)
    have e2 : wrap64 (-1099511627776) = -1099511627776 := w64 (by omega) (by omega)
    refine Ev.bind ⟨0, fun k _ => s_l3Item _⟩ ?_
    have hx : rd_T60 (x :: r) 0 = x := rfl
    rw [hx]
    rw [show sOk (x :: r) = (itOk x && sOk1 x r) from rfl]
    cases c1 : (decide (0 ≤ x.f0 ∧ x.f0 ≤ 3) && (decide (0 ≤ x.f1 ∧ x.f1 ≤ 99) && (x.f2 != 0))) with
    | false =>
      rw [show itOk x = false from by
        unfold itOk
        rw [← Bool.and_assoc, ← Bool.and_assoc, Bool.and_assoc (decide _) (decide _), c1, Bool.false_and]]
      exact Ev.now _
    | true =>
      refine Ev.congr (fun k => if_pos rfl) (Ev.bind (Ev.now _) (Ev.bind (Ev.now _) (Ev.bind ⟨0, fun k _ => s_in _ _ _⟩ ?_)))
      rw [e2]
      have ei : itOk x = decide (-1099511627776 ≤ x.f2 ∧ x.f2 ≤ 1099511627776) := by
        unfold itOk
        rw [← Bool.and_assoc, ← Bool.and_assoc, Bool.and_assoc (decide _) (decide _), c1, Bool.true_and]
      rw [ei]
      cases c2 : decide (-1099511627776 ≤ x.f2 ∧ x.f2 ≤ 1099511627776) with
      | false => exact Ev.now _
      | true =>
        refine Ev.congr (fun k => (if_pos rfl).trans (if_neg (by omega))) ?_
        have := s_set_loop (x :: r) hl r.length 0 (by simp; omega)
        simpa [w64, hx] using this


theorem i_set_tests {g : Nat → Bool → Option Bool} {y : It} {r : Bool} (cont : ∀ b : Bool, (b = true ↔ itOk y = false) → Ev (fun k => g k b) r) :
    Ev (fun k => if y.f0 < 0 then g k true else if y.f0 ≥ 4 then g k true else if y.f1 < 0 then g k true else if y.f1 ≥ 100 then g k true else if y.f2 = 0 then g k true else if y.f2 < (-1099511627776) then g k true else g k (decide (y.f2 > 1099511627776))) r := by
  have no : itOk y = false → Ev (fun k => g k true) r := fun h => cont true ⟨fun _ => h, fun _ => rfl⟩
  by_cases c0 : y.f0 < 0
  · exact Ev.congr (fun k => if_pos c0) (no (by simp [itOk]; omega))
  refine Ev.congr (fun k => if_neg c0) ?_
  by_cases c1 : y.f0 ≥ 4
  · exact Ev.congr (fun k => if_pos c1) (no (by simp [itOk]; omega))
  refine Ev.congr (fun k => if_neg c1) ?_
  by_cases c2 : y.f1 < 0
  · exact Ev.congr (fun k => if_pos c2) (no (by simp [itOk]; omega))
  refine Ev.congr (fun k => if_neg c2) ?_
  by_cases c3 : y.f1 ≥ 100
  · exact Ev.congr (fun k => if_pos c3) (no (by simp [itOk]; omega))
  refine Ev.congr (fun k => if_neg c3) ?_
  by_cases c4 : y.f2 = 0
  · exact Ev.congr (fun k => if_pos c4) (no (by simp [itOk, c4]))
  refine Ev.congr (fun k => if_neg c4) ?_
  by_cases c5 : y.f2 < (-1099511627776)
  · exact Ev.congr (fun k => if_pos c5) (no (by simp [itOk]; omega))
  refine Ev.congr (fun k => if_neg c5) (cont _ ?_)
  rw [decide_eq_true_eq]
  simp [itOk]
  omega

theorem i_set_loop (l : List It) (hl : l.length ≤ 1048576) (d : Nat) : ∀ i : Nat, i + 1 + d = l.length → Ev (fun k => impl_SetOk.l0 k l l (l.length : Int) ((i + 1 : Nat) : Int)) (sOk1 (rd_T60 l (i : Int)) (l.drop (i + 1)) && decide (l.length ≤ 400)) := by
  induction d with
  | zero =>
    intro i hi
    refine Ev.step (fun k => by rw [impl_SetOk.l0]) (Ev.congr (fun k => if_neg (by omega)) ?_)
    rw [List.drop_eq_nil_of_le (by omega)]
    have : decide ((l.length : Int) ≤ 400) = decide (l.length ≤ 400) := by rw [decide_eq_decide]; omega
    rw [this]
    exact Ev.now _
  | succ d ih =>
    intro i hi
    rw [rdI_drop (by omega : i + 1 < l.length)]
    unfold sOk1
    have e : wrap64 (((i + 1 : Nat) : Int) - 1) = (i : Int) := by rw [w64 (by omega) (by omega)]; omega
    refine Ev.step (fun k => by rw [impl_SetOk.l0]) (Ev.congr (fun k => (if_pos (by omega)).trans ((if_pos (by omega)).trans (if_pos (by omega)))) ?_)
    have ih' := ih (i + 1) (by omega)
    have cont : ∀ b : Bool, (b = true ↔ itOk (rd_T60 l ((i + 1 : Nat) : Int)) = false) →
        Ev (fun k => impl_SetOk.j1 k l ((i + 1 : Nat) : Int) l (l.length : Int) ((i + 1 : Nat) : Int) b (rd_T60 l ((i + 1 : Nat) : Int)).f0 (rd_T60 l ((i + 1 : Nat) : Int)).f1 (rd_T60 l ((i + 1 : Nat) : Int)).f2)
          (itOk (rd_T60 l ((i + 1 : Nat) : Int)) && ilt (rd_T60 l (i : Int)) (rd_T60 l ((i + 1 : Nat) : Int)) && sOk1 (rd_T60 l ((i + 1 : Nat) : Int)) (l.drop (i + 1 + 1)) && decide (l.length ≤ 400)) := by
      intro b hb
      refine Ev.step (fun k => by rw [impl_SetOk.j1]) ?_
      rw [e, up1 (by omega : i + 1 < l.length) (by omega)]
      generalize rd_T60 l ((i + 1 : Nat) : Int) = y at *
      generalize rd_T60 l (i : Int) = p at *
      cases b with
      | true =>
        rw [hb.1 rfl]
        exact Ev.now _
      | false =>
        have hy : itOk y = true := by
          cases h : itOk y with
          | true => rfl
          | false => exact absurd (hb.2 h) (by simp)
        rw [hy, Bool.true_and]
        refine Ev.congr (fun k => (if_neg (by simp)).trans ((if_pos (by omega)).trans ((if_pos (by omega)).trans (if_pos (by omega))))) ?_
        by_cases h1 : p.f0 > y.f0
        · refine Ev.congr (fun k => if_pos h1) ?_
          rw [show ilt p y = false from decide_eq_false (by omega)]
          exact Ev.now _
        · refine Ev.congr (fun k => if_neg h1) ?_
          by_cases h2 : p.f0 = y.f0
          · refine Ev.congr (fun k => if_pos h2) ?_
            by_cases h3 : p.f1 ≥ y.f1
            · refine Ev.congr (fun k => if_pos h3) ?_
              rw [show ilt p y = false from decide_eq_false (by omega)]
              exact Ev.now _
            · refine Ev.congr (fun k => if_neg h3) ?_
              rw [show ilt p y = true from decide_eq_true (by omega)]
              exact ih'
          · refine Ev.congr (fun k => if_neg h2) ?_
            rw [show ilt p y = true from decide_eq_true (by omega)]
            exact ih'
    exact i_set_tests (y := rd_T60 l ((i + 1 : Nat) : Int)) (g := fun k b => impl_SetOk.j1 k l ((i + 1 : Nat) : Int) l (l.length : Int) ((i + 1 : Nat) : Int) b (rd_T60 l ((i + 1 : Nat) : Int)).f0 (rd_T60 l ((i + 1 : Nat) : Int)).f1 (rd_T60 l ((i + 1 : Nat) : Int)).f2) cont
theorem i_set (l : List It) (hl : l.length ≤ 1048576) : Ev (fun k => impl_SetOk.f k l) (setOk l) := by
  unfold impl_SetOk.f setOk
  cases l with
  | nil =>
    refine Ev.step (fun k => by rw [impl_SetOk.l0]) ?_
    exact (Ev.congr (fun k => if_neg (by simp)) (Ev.now _))
  | cons x r =>
    refine Ev.step (fun k => by rw [impl_SetOk.l0]) (Ev.congr (fun k => (if_pos (by simp)).trans ((if_pos (by omega)).trans (if_pos (by simp)))) ?_)
    have hx : rd_T60 (x :: r) 0 = x := rfl
    rw [hx]
    refine i_set_tests (y := x) (g := fun k b => impl_SetOk.j1 k (x :: r) 0 (x :: r) ((x :: r).length : Int) 0 b x.f0 x.f1 x.f2) fun b hb => ?_
    refine Ev.step (fun k => by rw [impl_SetOk.j1]) ?_
    rw [show sOk (x :: r) = (itOk x && sOk1 x r) from rfl]
    cases b with
    | true =>
      rw [hb.1 rfl, Bool.false_and, Bool.and_false]
      exact Ev.now _
    | false =>
      have hy : itOk x = true := by
        cases h : itOk x with
        | true => rfl
        | false => exact absurd (hb.2 h) (by simp)
      rw [hy, Bool.true_and, Bool.and_comm]
      refine Ev.congr (fun k => (if_neg (by simp)).trans (if_neg (by omega))) ?_
      have := i_set_loop (x :: r) hl r.length 0 (by simp; omega)
      simpa [w64, hx] using this

/-! marks -/
def numsI (a : Int) : Nat → List It
  | 0 => []
  | n + 1 => ⟨a, a + 1, a + 2⟩ :: numsI (a + 3) n
theorem rdI_set {l : List It} {i : Nat} (h : i < l.length) (v : It) : rd_T60 (l.set i v) (i : Int) = v := by
  unfold rd_T60
  rw [List.getD_eq_getElem?_getD, Int.toNat_natCast, List.getElem?_set_self h]
  rfl
theorem markI_loop (d : Nat) : ∀ (l : List It) (i : Nat) (a : Int), i + d = l.length → l.length ≤ 1048576 → 0 ≤ a → a + 3 * d ≤ 100000000 →
    Ev (fun k => laws_markItemS.l0 k l a (i : Int)) (a + 3 * (d : Int), l.take i ++ numsI a d) := by
  induction d with
  | zero =>
    intro l i a hi _ _ _
    refine Ev.step (fun k => by rw [laws_markItemS.l0]) (Ev.congr (fun k => if_neg (by omega)) ?_)
    rw [List.take_of_length_le (by omega)]
    simpa [numsI] using Ev.now (a, l)
  | succ d ih =>
    intro l i a hi hl h0 h1
    have hlt : i < l.length := by omega
    refine Ev.step (fun k => by rw [laws_markItemS.l0]) (Ev.congr (fun k => (if_pos (by omega)).trans (if_pos (by omega))) ?_)
    refine Ev.bind (Ev.now _) (Ev.bind (Ev.now _) ?_)
    have e1 : wrap64 (a + 1) = a + 1 := w64 (by omega) (by omega)
    have e2 : wrap64 (a + 1 + 1) = a + 2 := by rw [w64 (by omega) (by omega)]; omega
    have e3 : wrap64 (a + 2 + 1) = a + 3 := by rw [w64 (by omega) (by omega)]; omega
    simp only [e1, e2, e3, up1 hlt (by omega : l.length ≤ 4611686018427387904), Int.toNat_natCast, rdI_set hlt, List.set_set]
    have := ih (l.set i ⟨a, a + 1, a + 2⟩) (i + 1) (a + 3) (by simp; omega) (by simpa using hl) (by omega) (by omega)
    rw [List.take_succ_eq_append_getElem (by simpa using hlt), List.getElem_set_self, List.take_set_of_le (by omega)] at this
    have e4 : a + 3 + 3 * (d : Int) = a + 3 * ((d + 1 : Nat) : Int) := by omega
    rw [e4] at this
    simpa [numsI] using this
theorem markI_ev (l : List It) (hl : l.length ≤ 1048576) : Ev (fun k => laws_markItemS.f k l 1) (1 + 3 * (l.length : Int), numsI 1 l.length) := by
  unfold laws_markItemS.f
  simpa using markI_loop l.length l 0 1 (by omega) hl (by omega) (by omega)
theorem numsI_len (n : Nat) : ∀ a, (numsI a n).length = n := by
  induction n with
  | zero => intro a; rfl
  | succ n ih => intro a; simp [numsI, ih]
theorem heldI_loop (d : Nat) : ∀ (l : List It) (i : Nat) (a : Int), i + d = l.length → l.length ≤ 1048576 → 0 ≤ a → a + 3 * d ≤ 100000000 → l.drop i = numsI a d →
    Ev (fun k => laws_heldItemS.l0 k l a (i : Int)) (a + 3 * (d : Int)) := by
  induction d with
  | zero =>
    intro l i a hi _ _ _ _
    refine Ev.step (fun k => by rw [laws_heldItemS.l0]) (Ev.congr (fun k => if_neg (by omega)) ?_)
    simpa using Ev.now a
  | succ d ih =>
    intro l i a hi hl h0 h1 hd
    have hlt : i < l.length := by omega
    rw [rdI_drop hlt] at hd
    obtain ⟨hx, hr⟩ := List.cons.inj hd
    refine Ev.step (fun k => by rw [laws_heldItemS.l0]) (Ev.congr (fun k => (if_pos (by omega)).trans (if_pos (by omega))) ?_)
    have e1 : wrap64 (a + 1) = a + 1 := w64 (by omega) (by omega)
    have e2 : wrap64 (a + 1 + 1) = a + 2 := by rw [w64 (by omega) (by omega)]; omega
    have e3 : wrap64 (a + 2 + 1) = a + 3 := by rw [w64 (by omega) (by omega)]; omega
    rw [e1, e2, e3, up1 hlt (by omega), hx]
    have := ih l (i + 1) (a + 3) (by omega) hl (by omega) (by omega) hr
    have e4 : a + 3 + 3 * (d : Int) = a + 3 * ((d + 1 : Nat) : Int) := by omega
    rw [e4] at this
    exact Ev.congr (fun k => (if_pos rfl).trans ((if_pos rfl).trans (if_pos rfl))) this
theorem heldI_ev (n : Nat) (hn : n ≤ 1048576) : Ev (fun k => laws_heldItemS.f k (numsI 1 n) 1) (1 + 3 * (n : Int)) := by
  unfold laws_heldItemS.f
  have := heldI_loop n (numsI 1 n) 0 1 (by rw [numsI_len]; omega) (by rw [numsI_len]; omega) (by omega) (by omega) (by simp)
  simpa using this

/-! SetLess -/
def ngI (x : It) : It := ⟨x.f0, x.f1, wrap64 (-x.f2)⟩
def setLess (l : List It) : List It := if setOk l then l.map ngI else []
theorem setOk_len {l : List It} (h : setOk l = true) : l.length ≤ 400 := by
  unfold setOk at h
  simp only [Bool.and_eq_true, decide_eq_true_eq] at h
  exact h.1
theorem s_setless_loop (l : List It) (hl : l.length ≤ 1048576) (hok : setOk l = true) (d : Nat) : ∀ (i : Nat) (out : List It), i + d = l.length → out.length ≤ i →
    Ev (fun k => spec_SetLess.l0 k l out (i : Int)) (out ++ (l.drop i).map ngI) := by
  induction d with
  | zero =>
    intro i out hi _
    rw [List.drop_eq_nil_of_le (by omega)]
    refine Ev.step (fun k => by rw [spec_SetLess.l0]) (Ev.congr (fun k => if_neg (by omega)) ?_)
    simpa using Ev.now out
  | succ d ih =>
    intro i out hi ho
    refine Ev.step (fun k => by rw [spec_SetLess.l0]) (Ev.congr (fun k => if_pos (by omega)) (Ev.bind (s_set l hl) ?_))
    rw [hok]
    refine Ev.congr (fun k => (if_pos rfl).trans ((if_pos (by omega)).trans (if_pos (by omega)))) ?_
    rw [up1 (by omega : i < l.length) (by omega), rdI_drop (by omega : i < l.length)]
    have := ih (i + 1) (out ++ [ngI (rd_T60 l (i : Int))]) (by omega) (by simp; omega)
    simpa [ngI] using this
theorem s_setless (l : List It) (hl : l.length ≤ 1048576) : Ev (fun k => spec_SetLess.f k l) (setLess l) := by
  unfold spec_SetLess.f setLess
  cases hok : setOk l with
  | true => simpa using s_setless_loop l hl hok l.length 0 [] (by omega) (by simp)
  | false =>
    refine Ev.step (fun k => by rw [spec_SetLess.l0]) ?_
    by_cases h : (0 : Int) < (l.length : Int)
    · refine Ev.congr (fun k => if_pos h) (Ev.bind (s_set l hl) ?_)
      rw [hok]
      exact Ev.now _
    · exact Ev.congr (fun k => if_neg h) (Ev.now _)
theorem i_setless_loop (d : Nat) : ∀ (l : List It) (i : Nat), i + d = l.length → l.length ≤ 1048576 → Ev (fun k => impl_SetLess.l0 k l (l.length : Int) (i : Int)) (l.take i ++ (l.drop i).map ngI) := by
  induction d with
  | zero =>
    intro l i hi _
    rw [List.drop_eq_nil_of_le (by omega), List.take_of_length_le (by omega)]
    refine Ev.step (fun k => by rw [impl_SetLess.l0]) (Ev.congr (fun k => if_neg (by omega)) ?_)
    simpa using Ev.now l
  | succ d ih =>
    intro l i hi hl
    have hlt : i < l.length := by omega
    refine Ev.step (fun k => by rw [impl_SetLess.l0]) (Ev.congr (fun k => (if_pos (by omega)).trans ((if_pos (by omega)).trans (if_pos (by omega)))) ?_)
    rw [up1 hlt (by omega), rdI_drop hlt, Int.toNat_natCast]
    have := ih (l.set i (ngI (rd_T60 l (i : Int)))) (i + 1) (by simp; omega) (by simpa using hl)
    rw [List.length_set, List.take_succ_eq_append_getElem (by simpa using hlt), List.getElem_set_self, List.take_set_of_le (by omega), List.drop_set_of_lt (by omega)] at this
    simpa [ngI] using this
theorem i_setless (l : List It) (hl : l.length ≤ 1048576) : Ev (fun k => impl_SetLess.f k l) (setLess l) := by
  unfold impl_SetLess.f setLess
  refine Ev.bind (i_set l hl) ?_
  cases hok : setOk l with
  | false => exact Ev.now _
  | true =>
    refine Ev.congr (fun k => if_pos rfl) (Ev.bind (Ev.now _) (Ev.congr (fun k => if_pos (by simp; omega)) (Ev.bind (Ev.now _) ?_)))
    simpa using i_setless_loop l.length l 0 (by omega) hl

theorem SetLess_holds (hs : ∀ l : List It, l.length ≤ 1048576 → ∃ r : List It, r.length ≤ 1048576 ∧ Ev (fun k => spec_SetLess.f k l) r ∧ Ev (fun k => impl_SetLess.f k l) r) (l : List ItA) (hm : l.length ≤ maxLen) : ∃ k, laws_FnExactSetLess.f k l = some true := by
  refine Ev.rounds ?_
  unfold laws_FnExactSetLess.f
  by_cases h : 1048576 < l.length
  · exact Ev.bind ⟨0, fun k _ => szItemS_big l 1048576 hm (by omega) (by omega)⟩ (Ev.congr (fun k => if_pos (by omega)) (Ev.now _))
  · have hl : l.length ≤ 1048576 := by omega
    have hc : (l.map cvI).length ≤ 1048576 := by simpa using hl
    obtain ⟨r, hr, es, ei⟩ := hs (l.map cvI) hc
    refine Ev.bind ⟨0, fun k _ => szItemS_small l 1048576 (by omega) (by omega)⟩ (Ev.congr (fun k => if_neg (by omega)) ?_)
    refine Ev.bind (toItemS_ev l hl) (Ev.bind es (Ev.bind (toItemS_ev l hl) (Ev.bind ei (Ev.bind (eqItemS_ev _ hr) (Ev.congr (fun k => if_pos rfl) ?_)))))
    refine Ev.bind (toItemS_ev l hl) (Ev.bind (eqItemS_ev _ hc) (Ev.congr (fun k => if_pos rfl) (Ev.bind (markI_ev _ hc) (Ev.congr (fun k => if_neg (by simp only; omega)) (Ev.bind (eqItemS_ev _ hr) ?_)))))
    refine Ev.step (fun k => by rw [laws_FnExactSetLess.j0]) (Ev.congr (fun k => if_neg (by simp)) ?_)
    refine Ev.bind (markI_ev _ hr) (Ev.bind (heldI_ev _ hr) (Ev.congr (fun k => (if_neg (by omega)).trans (if_pos rfl)) ?_))
    exact Ev.bind (toItemS_ev l hl) (Ev.bind ei (Ev.bind (eqItemS_ev _ hr) (Ev.congr (fun k => if_pos rfl) (Ev.bind (heldI_ev _ hr) (Ev.congr (fun k => (if_neg (by omega)).trans (if_pos rfl)) (Ev.now _))))))
theorem FnExactSetLess (l : List ItA) (hm : l.length ≤ maxLen) {P : Prop} (_ : P) : ∃ k, laws_FnExactSetLess.f k l = some true := SetLess_holds (fun l hl => ⟨setLess l, by unfold setLess; split <;> simp <;> omega, s_setless l hl, i_setless l hl⟩) l hm
end Go.Proofs.Ytiegpijhkhopgaa.Pure
