/- The plain law of FnExactSetJoin. -/
import Derived.Test.YtpggfdjnebccnaaVFnExactSetJoinx
namespace Go.Proofs.Ytpggfdjnebccnaa.Pure
open Go.RowKit Go.Proofs.Ytpggfdjnebccnaa.PFnExactSetJoin Go.Proofs.YtpggfdjnebccnaaW.PrintWords Go.Proofs.YtpggfdjnebccnaaW.PrintLast Go.Proofs.Ytpggfdjnebccnaa.EvP
theorem up1 {i n : Nat} (h : i < n) (hn : n ≤ 4611686018427387904) : wrap64 ((i : Int) + 1) = ((i + 1 : Nat) : Int) := by
  rw [w64 (by omega) (by omega)]; rfl

/-! lists of items -/
abbrev It := S80
theorem rdI_drop {xs : List It} {i : Nat} (h : i < xs.length) : xs.drop i = rd_T80 xs (i : Int) :: xs.drop (i + 1) := by
  unfold rd_T80
  rw [List.drop_eq_getElem_cons h, List.getD_eq_getElem?_getD, Int.toNat_natCast, List.getElem?_eq_getElem h]
  rfl

/-! lists of rows -/
abbrev Rw := S90
theorem rdR_drop {xs : List Rw} {i : Nat} (h : i < xs.length) : xs.drop i = rd_T90 xs (i : Int) :: xs.drop (i + 1) := by
  unfold rd_T90
  rw [List.drop_eq_getElem_cons h, List.getD_eq_getElem?_getD, Int.toNat_natCast, List.getElem?_eq_getElem h]
  rfl

/-! the laws' own items made into the program's -/
abbrev ItA := S82
def cvI (x : ItA) : It := ⟨x.f0, x.f1, x.f2⟩
theorem rdC_drop {xs : List ItA} {i : Nat} (h : i < xs.length) : xs.drop i = rd_T82 xs (i : Int) :: xs.drop (i + 1) := by
  unfold rd_T82
  rw [List.drop_eq_getElem_cons h, List.getD_eq_getElem?_getD, Int.toNat_natCast, List.getElem?_eq_getElem h]
  rfl
theorem toItemS_loop (l : List ItA) (hl : l.length ≤ 1048576) (d : Nat) : ∀ (i : Nat) (out : List It), i + d = l.length → out.length = l.length →
    Ev (fun k => laws_toItemS.l0 k l out (i : Int)) (out.take i ++ (l.drop i).map cvI) := by
  induction d with
  | zero =>
    intro i out hi ho
    refine Ev.step (fun k => by rw [laws_toItemS.l0]) ?_
    refine Ev.congr (fun k => if_neg (by omega)) ?_
    rw [List.take_of_length_le (by omega), List.drop_eq_nil_of_le (by omega)]
    simpa using Ev.now out
  | succ d ih =>
    intro i out hi ho
    have hlt : i < l.length := by omega
    refine Ev.step (fun k => by rw [laws_toItemS.l0]) ?_
    refine Ev.congr (fun k => (if_pos (by omega)).trans (if_pos (by omega))) ?_
    refine Ev.bind (Ev.now _) ?_
    refine Ev.congr (fun k => if_pos (by omega)) ?_
    rw [up1 hlt (by omega)]
    have := ih (i + 1) (out.set i (cvI (rd_T82 l (i : Int)))) (by omega) (by simpa using ho)
    rw [List.take_succ_eq_append_getElem (by simp; omega), List.getElem_set_self, List.take_set_of_le (by omega)] at this
    rw [rdC_drop hlt, List.map_cons]
    simpa [cvI] using this
theorem toItemS_ev (l : List ItA) (hl : l.length ≤ 1048576) : Ev (fun k => laws_toItemS.f k l) (l.map cvI) := by
  unfold laws_toItemS.f
  refine Ev.congr (fun k => (if_pos (by omega)).trans (if_pos (by omega))) ?_
  simpa using toItemS_loop l hl l.length 0 (List.replicate ((l.length : Int)).toNat z80) (by omega) (by simp)
theorem eqItemS_loop (l : List It) (hl : l.length ≤ 1048576) (d : Nat) : ∀ i : Nat, i + d = l.length → Ev (fun k => laws_eqItemS.l0 k l l (i : Int)) true := by
  induction d with
  | zero =>
    intro i hi
    refine Ev.step (fun k => by rw [laws_eqItemS.l0]) ?_
    exact Ev.congr (fun k => if_neg (by omega)) (Ev.now _)
  | succ d ih =>
    intro i hi
    refine Ev.step (fun k => by rw [laws_eqItemS.l0]) ?_
    refine Ev.congr (fun k => (if_pos (by omega)).trans ((if_pos (by omega)).trans (if_pos (by omega)))) ?_
    refine Ev.bind (a := true) ⟨0, fun k _ => by simp [laws_eqItem.f]⟩ (Ev.congr (fun k => if_pos rfl) ?_)
    rw [up1 (by omega : i < l.length) (by omega)]
    exact ih (i + 1) (by omega)
theorem eqItemS_ev (l : List It) (hl : l.length ≤ 1048576) : Ev (fun k => laws_eqItemS.f k l l) true := by
  unfold laws_eqItemS.f
  exact Ev.congr (fun k => if_pos rfl) (eqItemS_loop l hl l.length 0 (by omega))
theorem szItemS_big (l : List ItA) (a : Int) (hm : l.length ≤ maxLen) (h0 : 0 ≤ a) (h : a < l.length) : laws_szItemS.f l a = some (-1) := by
  unfold maxLen at hm
  unfold laws_szItemS.f
  rw [w64 (by omega) (by omega), if_pos (by omega)]
theorem szItemS_small (l : List ItA) (a : Int) (ha : a ≤ 1048576) (h : (l.length : Int) ≤ a) : laws_szItemS.f l a = some (a - (l.length : Int)) := by
  unfold laws_szItemS.f
  rw [w64 (by omega) (by omega), if_neg (by omega)]

/-! collections -/
def itOk (x : It) : Bool := decide (0 ≤ x.f0 ∧ x.f0 ≤ 3) && (decide (0 ≤ x.f1 ∧ x.f1 ≤ 99) && ((x.f2 != 0) && decide (-1099511627776 ≤ x.f2 ∧ x.f2 ≤ 1099511627776)))
def ilt (x y : It) : Bool := decide (x.f0 < y.f0 ∨ x.f0 = y.f0 ∧ x.f1 < y.f1)
def sOk1 (p : It) : List It → Bool
  | [] => true
  | y :: r => itOk y && ilt p y && sOk1 y r
def sOk : List It → Bool
  | [] => true
  | x :: r => itOk x && sOk1 x r
def setOk (l : List It) : Bool := decide (l.length ≤ 400) && sOk l

theorem s_in (a b c : Int) : spec_l6In.f a b c = some (decide (b ≤ a ∧ a ≤ c)) := by
  unfold spec_l6In.f
  by_cases h0 : b ≤ a <;> by_cases h1 : a ≤ c <;> simp [h0, h1]

theorem s_l3Item (x : It) : spec_l3Item.f x.f0 x.f1 x.f2 = some (decide (0 ≤ x.f0 ∧ x.f0 ≤ 3) && (decide (0 ≤ x.f1 ∧ x.f1 ≤ 99) && (x.f2 != 0))) := by
  unfold spec_l3Item.f
  simp only [s_in, Option.bind_some]
  cases decide (0 ≤ x.f0 ∧ x.f0 ≤ 3) <;> cases decide (0 ≤ x.f1 ∧ x.f1 ≤ 99) <;> rfl
theorem s_set_loop (l : List It) (hl : l.length ≤ 1048576) (d : Nat) : ∀ i : Nat, i + 1 + d = l.length → Ev (fun k => spec_SetOk.l0 k l ((i + 1 : Nat) : Int)) (sOk1 (rd_T80 l (i : Int)) (l.drop (i + 1))) := by
  induction d with
  | zero =>
    intro i hi
    refine Ev.step (fun k => by rw [spec_SetOk.l0]) (Ev.congr (fun k => if_neg (by omega)) ?_)
    rw [List.drop_eq_nil_of_le (by omega)]
    exact Ev.now _
  | succ d ih =>
    intro i hi
    rw [rdI_drop (by omega : i + 1 < l.length)]
    unfold sOk1
    have e : wrap64 (((i + 1 : Nat) : Int) - 1) = (i : Int) := by rw [w64 (by omega) (by omega)]; omega
    have e2 : wrap64 (-1099511627776) = -1099511627776 := w64 (by omega) (by omega)
    refine Ev.step (fun k => by rw [spec_SetOk.l0]) (Ev.congr (fun k => (if_pos (by omega)).trans (if_pos (by omega))) ?_)
    refine Ev.bind ⟨0, fun k _ => s_l3Item _⟩ ?_
    rw [e, up1 (by omega : i + 1 < l.length) (by omega)]
    have ih' := ih (i + 1) (by omega)
    generalize rd_T80 l ((i + 1 : Nat) : Int) = y at *
    generalize rd_T80 l (i : Int) = p at *
    have no : itOk y = false → Ev (fun _ : Nat => some false) (itOk y && ilt p y && sOk1 y (l.drop (i + 1 + 1))) := fun h => by rw [h]; exact Ev.now _
    cases c1 : (decide (0 ≤ y.f0 ∧ y.f0 ≤ 3) && (decide (0 ≤ y.f1 ∧ y.f1 ≤ 99) && (y.f2 != 0))) with
    | false => exact Ev.congr (fun k => if_neg (by simp)) (no (by
        unfold itOk
        rw [← Bool.and_assoc, ← Bool.and_assoc, Bool.and_assoc (decide _) (decide _), c1, Bool.false_and]))
    | true =>
      refine Ev.congr (fun k => if_pos rfl) (Ev.bind (Ev.now _) (Ev.bind (Ev.now _) (Ev.bind ⟨0, fun k _ => s_in _ _ _⟩ ?_)))
      rw [e2]
      have ei : itOk y = decide (-1099511627776 ≤ y.f2 ∧ y.f2 ≤ 1099511627776) := by
        unfold itOk
        rw [← Bool.and_assoc, ← Bool.and_assoc, Bool.and_assoc (decide _) (decide _), c1, Bool.true_and]
      cases c2 : decide (-1099511627776 ≤ y.f2 ∧ y.f2 ≤ 1099511627776) with
      | false => exact Ev.congr (fun k => if_neg (by simp)) (no (by rw [ei, c2]))
      | true =>
        rw [ei, c2, Bool.true_and]
        refine Ev.congr (fun k => (if_pos rfl).trans ((if_pos (by omega)).trans ((if_pos (by omega)).trans (if_pos (by omega))))) ?_
        by_cases h1 : p.f0 > y.f0
        · refine Ev.congr (fun k => if_pos h1) ?_
          rw [show ilt p y = false from decide_eq_false (by omega)]
          exact Ev.now _
        · refine Ev.congr (fun k => if_neg h1) ?_
          by_cases h2 : p.f0 = y.f0
          · refine Ev.congr (fun k => if_pos h2) ?_
            by_cases h3 : p.f1 ≥ y.f1
            · refine Ev.congr (fun k => if_pos h3) ?_
              rw [show ilt p y = false from decide_eq_false (by omega)]
              exact Ev.now _
            · refine Ev.congr (fun k => if_neg h3) ?_
              rw [show ilt p y = true from decide_eq_true (by omega)]
              exact ih'
          · refine Ev.congr (fun k => if_neg h2) ?_
            rw [show ilt p y = true from decide_eq_true (by omega)]
            exact ih'
theorem s_set (l : List It) (hl : l.length ≤ 1048576) : Ev (fun k => spec_SetOk.f k l) (setOk l) := by
  unfold spec_SetOk.f setOk
  by_cases h : (l.length : Int) > 400
  · rw [decide_eq_false (by omega)]
    exact Ev.congr (fun k => if_pos h) (Ev.now _)
  rw [decide_eq_true (by omega), Bool.true_and]
  refine Ev.congr (fun k => if_neg h) ?_
  cases l with
  | nil =>
    refine Ev.step (fun k => by rw [spec_SetOk.l0]) ?_
    exact (Ev.congr (fun k => if_neg (by simp)) (Ev.now _))
  | cons x r =>
    refine Ev.step (fun k => by rw [spec_SetOk.l0]) (Ev.congr (fun k => (if_pos (by simp)).trans (if_pos (by omega))) ?_)
    have e2 : wrap64 (-1099511627776) = -1099511627776 := w64 (by omega) (by omega)
    refine Ev.bind ⟨0, fun k _ => s_l3Item _⟩ ?_
    have hx : rd_T80 (x :: r) 0 = x := rfl
    rw [hx]
    rw [show sOk (x :: r) = (itOk x && sOk1 x r) from rfl]
    cases c1 : (decide (0 ≤ x.f0 ∧ x.f0 ≤ 3) && (decide (0 ≤ x.f1 ∧ x.f1 ≤ 99) && (x.f2 != 0))) with
    | false =>
      rw [show itOk x = false from by
        unfold itOk
        rw [← Bool.and_assoc, ← Bool.and_assoc, Bool.and_assoc (decide _) (decide _), c1, Bool.false_and]]
      exact Ev.now _
    | true =>
      refine Ev.congr (fun k => if_pos rfl) (Ev.bind (Ev.now _) (Ev.bind (Ev.now _) (Ev.bind ⟨0, fun k _ => s_in _ _ _⟩ ?_)))
      rw [e2]
      have ei : itOk x = decide (-1099511627776 ≤ x.f2 ∧ x.f2 ≤ 1099511627776) := by
        unfold itOk
        rw [← Bool.and_assoc, ← Bool.and_assoc, Bool.and_assoc (decide _) (decide _), c1, Bool.true_and]
      rw [ei]
      cases c2 : decide (-1099511627776 ≤ x.f2 ∧ x.f2 ≤ 1099511627776) with
      | false => exact Ev.now _
      | true =>
        refine Ev.congr (fun k => (if_pos rfl).trans (if_neg (by omega))) ?_
        have := s_set_loop (x :: r) hl r.length 0 (by simp; omega)
        simpa [w64, hx] using this


theorem i_set_tests {g : Nat → Bool → Option Bool} {y : It} {r : Bool} (cont : ∀ b : Bool, (b = true ↔ itOk y = false) → Ev (fun k => g k b) r) :
    Ev (fun k => if y.f0 < 0 then g k true else if y.f0 ≥ 4 then g k true else if y.f1 < 0 then g k true else if y.f1 ≥ 100 then g k true else if y.f2 = 0 then g k true else if y.f2 < (-1099511627776) then g k true else g k (decide (y.f2 > 1099511627776))) r := by
  have no : itOk y = false → Ev (fun k => g k true) r := fun h => cont true ⟨fun _ => h, fun _ => rfl⟩
  by_cases c0 : y.f0 < 0
  · exact Ev.congr (fun k => if_pos c0) (no (by simp [itOk]; omega))
  refine Ev.congr (fun k => if_neg c0) ?_
  by_cases c1 : y.f0 ≥ 4
  · exact Ev.congr (fun k => if_pos c1) (no (by simp [itOk]; omega))
  refine Ev.congr (fun k => if_neg c1) ?_
  by_cases c2 : y.f1 < 0
  · exact Ev.congr (fun k => if_pos c2) (no (by simp [itOk]; omega))
  refine Ev.congr (fun k => if_neg c2) ?_
  by_cases c3 : y.f1 ≥ 100
  · exact Ev.congr (fun k => if_pos c3) (no (by simp [itOk]; omega))
  refine Ev.congr (fun k => if_neg c3) ?_
  by_cases c4 : y.f2 = 0
  · exact Ev.congr (fun k => if_pos c4) (no (by simp [itOk, c4]))
  refine Ev.congr (fun k => if_neg c4) ?_
  by_cases c5 : y.f2 < (-1099511627776)
  · exact Ev.congr (fun k => if_pos c5) (no (by simp [itOk]; omega))
  refine Ev.congr (fun k => if_neg c5) (cont _ ?_)
  rw [decide_eq_true_eq]
  simp [itOk]
  omega

theorem i_set_loop (l : List It) (hl : l.length ≤ 1048576) (d : Nat) : ∀ i : Nat, i + 1 + d = l.length → Ev (fun k => impl_SetOk.l0 k l l (l.length : Int) ((i + 1 : Nat) : Int)) (sOk1 (rd_T80 l (i : Int)) (l.drop (i + 1)) && decide (l.length ≤ 400)) := by
  induction d with
  | zero =>
    intro i hi
    refine Ev.step (fun k => by rw [impl_SetOk.l0]) (Ev.congr (fun k => if_neg (by omega)) ?_)
    rw [List.drop_eq_nil_of_le (by omega)]
    have : decide ((l.length : Int) ≤ 400) = decide (l.length ≤ 400) := by rw [decide_eq_decide]; omega
    rw [this]
    exact Ev.now _
  | succ d ih =>
    intro i hi
    rw [rdI_drop (by omega : i + 1 < l.length)]
    unfold sOk1
    have e : wrap64 (((i + 1 : Nat) : Int) - 1) = (i : Int) := by rw [w64 (by omega) (by omega)]; omega
    refine Ev.step (fun k => by rw [impl_SetOk.l0]) (Ev.congr (fun k => (if_pos (by omega)).trans ((if_pos (by omega)).trans (if_pos (by omega)))) ?_)
    have ih' := ih (i + 1) (by omega)
    have cont : ∀ b : Bool, (b = true ↔ itOk (rd_T80 l ((i + 1 : Nat) : Int)) = false) →
        Ev (fun k => impl_SetOk.j1 k l ((i + 1 : Nat) : Int) l (l.length : Int) ((i + 1 : Nat) : Int) b (rd_T80 l ((i + 1 : Nat) : Int)).f0 (rd_T80 l ((i + 1 : Nat) : Int)).f1 (rd_T80 l ((i + 1 : Nat) : Int)).f2)
          (itOk (rd_T80 l ((i + 1 : Nat) : Int)) && ilt (rd_T80 l (i : Int)) (rd_T80 l ((i + 1 : Nat) : Int)) && sOk1 (rd_T80 l ((i + 1 : Nat) : Int)) (l.drop (i + 1 + 1)) && decide (l.length ≤ 400)) := by
      intro b hb
      refine Ev.step (fun k => by rw [impl_SetOk.j1]) ?_
      rw [e, up1 (by omega : i + 1 < l.length) (by omega)]
      generalize rd_T80 l ((i + 1 : Nat) : Int) = y at *
      generalize rd_T80 l (i : Int) = p at *
      cases b with
      | true =>
        rw [hb.1 rfl]
        exact Ev.now _
      | false =>
        have hy : itOk y = true := by
          cases h : itOk y with
          | true => rfl
          | false => exact absurd (hb.2 h) (by simp)
        rw [hy, Bool.true_and]
        refine Ev.congr (fun k => (if_neg (by simp)).trans ((if_pos (by omega)).trans ((if_pos (by omega)).trans (if_pos (by omega))))) ?_
        by_cases h1 : p.f0 > y.f0
        · refine Ev.congr (fun k => if_pos h1) ?_
          rw [show ilt p y = false from decide_eq_false (by omega)]
          exact Ev.now _
        · refine Ev.congr (fun k => if_neg h1) ?_
          by_cases h2 : p.f0 = y.f0
          · refine Ev.congr (fun k => if_pos h2) ?_
            by_cases h3 : p.f1 ≥ y.f1
            · refine Ev.congr (fun k => if_pos h3) ?_
              rw [show ilt p y = false from decide_eq_false (by omega)]
              exact Ev.now _
            · refine Ev.congr (fun k => if_neg h3) ?_
              rw [show ilt p y = true from decide_eq_true (by omega)]
              exact ih'
          · refine Ev.congr (fun k => if_neg h2) ?_
            rw [show ilt p y = true from decide_eq_true (by omega)]
            exact ih'
    exact i_set_tests (y := rd_T80 l ((i + 1 : Nat) : Int)) (g := fun k b => impl_SetOk.j1 k l ((i + 1 : Nat) : Int) l (l.length : Int) ((i + 1 : Nat) : Int) b (rd_T80 l ((i + 1 : Nat) : Int)).f0 (rd_T80 l ((i + 1 : Nat) : Int)).f1 (rd_T80 l ((i + 1 : Nat) : Int)).f2) cont
theorem i_set (l : List It) (hl : l.length ≤ 1048576) : Ev (fun k => impl_SetOk.f k l) (setOk l) := by
  unfold impl_SetOk.f setOk
  cases l with
  | nil =>
    refine Ev.step (fun k => by rw [impl_SetOk.l0]) ?_
    exact (Ev.congr (fun k => if_neg (by simp)) (Ev.now _))
  | cons x r =>
    refine Ev.step (fun k => by rw [impl_SetOk.l0]) (Ev.congr (fun k => (if_pos (by simp)).trans ((if_pos (by omega)).trans (if_pos (by simp)))) ?_)
    have hx : rd_T80 (x :: r) 0 = x := rfl
    rw [hx]
    refine i_set_tests (y := x) (g := fun k b => impl_SetOk.j1 k (x :: r) 0 (x :: r) ((x :: r).length : Int) 0 b x.f0 x.f1 x.f2) fun b hb => ?_
    refine Ev.step (fun k => by rw [impl_SetOk.j1]) ?_
    rw [show sOk (x :: r) = (itOk x && sOk1 x r) from rfl]
    cases b with
    | true =>
      rw [hb.1 rfl, Bool.false_and, Bool.and_false]
      exact Ev.now _
    | false =>
      have hy : itOk x = true := by
        cases h : itOk x with
        | true => rfl
        | false => exact absurd (hb.2 h) (by simp)
      rw [hy, Bool.true_and, Bool.and_comm]
      refine Ev.congr (fun k => (if_neg (by simp)).trans (if_neg (by omega))) ?_
      have := i_set_loop (x :: r) hl r.length 0 (by simp; omega)
      simpa [w64, hx] using this

/-! marks -/
def numsI (a : Int) : Nat → List It
  | 0 => []
  | n + 1 => ⟨a, a + 1, a + 2⟩ :: numsI (a + 3) n
theorem rdI_set {l : List It} {i : Nat} (h : i < l.length) (v : It) : rd_T80 (l.set i v) (i : Int) = v := by
  unfold rd_T80
  rw [List.getD_eq_getElem?_getD, Int.toNat_natCast, List.getElem?_set_self h]
  rfl
theorem markI_loop (d : Nat) : ∀ (l : List It) (i : Nat) (a : Int), i + d = l.length → l.length ≤ 1048576 → 0 ≤ a → a + 3 * d ≤ 100000000 →
    Ev (fun k => laws_markItemS.l0 k l a (i : Int)) (a + 3 * (d : Int), l.take i ++ numsI a d) := by
  induction d with
  | zero =>
    intro l i a hi _ _ _
    refine Ev.step (fun k => by rw [laws_markItemS.l0]) (Ev.congr (fun k => if_neg (by omega)) ?_)
    rw [List.take_of_length_le (by omega)]
    simpa [numsI] using Ev.now (a, l)
  | succ d ih =>
    intro l i a hi hl h0 h1
    have hlt : i < l.length := by omega
    refine Ev.step (fun k => by rw [laws_markItemS.l0]) (Ev.congr (fun k => (if_pos (by omega)).trans (if_pos (by omega))) ?_)
    refine Ev.bind (Ev.now _) (Ev.bind (Ev.now _) ?_)
    have e1 : wrap64 (a + 1) = a + 1 := w64 (by omega) (by omega)
    have e2 : wrap64 (a + 1 + 1) = a + 2 := by rw [w64 (by omega) (by omega)]; omega
    have e3 : wrap64 (a + 2 + 1) = a + 3 := by rw [w64 (by omega) (by omega)]; omega
    simp only [e1, e2, e3, up1 hlt (by omega : l.length ≤ 4611686018427387904), Int.toNat_natCast, rdI_set hlt, List.set_set]
    have := ih (l.set i ⟨a, a + 1, a + 2⟩) (i + 1) (a + 3) (by simp; omega) (by simpa using hl) (by omega) (by omega)
    rw [List.take_succ_eq_append_getElem (by simpa using hlt), List.getElem_set_self, List.take_set_of_le (by omega)] at this
    have e4 : a + 3 + 3 * (d : Int) = a + 3 * ((d + 1 : Nat) : Int) := by omega
    rw [e4] at this
    simpa [numsI] using this
theorem markI_ev (l : List It) (hl : l.length ≤ 1048576) : Ev (fun k => laws_markItemS.f k l 1) (1 + 3 * (l.length : Int), numsI 1 l.length) := by
  unfold laws_markItemS.f
  simpa using markI_loop l.length l 0 1 (by omega) hl (by omega) (by omega)
theorem numsI_len (n : Nat) : ∀ a, (numsI a n).length = n := by
  induction n with
  | zero => intro a; rfl
  | succ n ih => intro a; simp [numsI, ih]
theorem heldI_loop (d : Nat) : ∀ (l : List It) (i : Nat) (a : Int), i + d = l.length → l.length ≤ 1048576 → 0 ≤ a → a + 3 * d ≤ 100000000 → l.drop i = numsI a d →
    Ev (fun k => laws_heldItemS.l0 k l a (i : Int)) (a + 3 * (d : Int)) := by
  induction d with
  | zero =>
    intro l i a hi _ _ _ _
    refine Ev.step (fun k => by rw [laws_heldItemS.l0]) (Ev.congr (fun k => if_neg (by omega)) ?_)
    simpa using Ev.now a
  | succ d ih =>
    intro l i a hi hl h0 h1 hd
    have hlt : i < l.length := by omega
    rw [rdI_drop hlt] at hd
    obtain ⟨hx, hr⟩ := List.cons.inj hd
    refine Ev.step (fun k => by rw [laws_heldItemS.l0]) (Ev.congr (fun k => (if_pos (by omega)).trans (if_pos (by omega))) ?_)
    have e1 : wrap64 (a + 1) = a + 1 := w64 (by omega) (by omega)
    have e2 : wrap64 (a + 1 + 1) = a + 2 := by rw [w64 (by omega) (by omega)]; omega
    have e3 : wrap64 (a + 2 + 1) = a + 3 := by rw [w64 (by omega) (by omega)]; omega
    rw [e1, e2, e3, up1 hlt (by omega), hx]
    have := ih l (i + 1) (a + 3) (by omega) hl (by omega) (by omega) hr
    have e4 : a + 3 + 3 * (d : Int) = a + 3 * ((d + 1 : Nat) : Int) := by omega
    rw [e4] at this
    exact Ev.congr (fun k => (if_pos rfl).trans ((if_pos rfl).trans (if_pos rfl))) this
theorem heldI_ev (n : Nat) (hn : n ≤ 1048576) : Ev (fun k => laws_heldItemS.f k (numsI 1 n) 1) (1 + 3 * (n : Int)) := by
  unfold laws_heldItemS.f
  have := heldI_loop n (numsI 1 n) 0 1 (by rw [numsI_len]; omega) (by rw [numsI_len]; omega) (by omega) (by omega) (by simp)
  simpa using this

theorem markI_at (l : List It) (hl : l.length ≤ 1048576) (a : Int) (h0 : 0 ≤ a) (h1 : a ≤ 10000000) : Ev (fun k => laws_markItemS.f k l a) (a + 3 * (l.length : Int), numsI a l.length) := by
  unfold laws_markItemS.f
  simpa using markI_loop l.length l 0 a (by omega) hl h0 (by omega)

/-! rows: put into order, equal ones summed -/
def W64 : Int := 18446744073709551616
/-- key, value and time -/
def rkey (r : Rw) : Int × Int × Int × Int := (r.f0, r.f1, r.f2.f0, r.f2.f1)
def klt (a b : Int × Int × Int × Int) : Prop := a.1 < b.1 ∨ a.1 = b.1 ∧ (a.2.1 < b.2.1 ∨ a.2.1 = b.2.1 ∧ (a.2.2.1 < b.2.2.1 ∨ a.2.2.1 = b.2.2.1 ∧ a.2.2.2 < b.2.2.2))
instance (a b : Int × Int × Int × Int) : Decidable (klt a b) := by unfold klt; infer_instance
theorem klt_trans {a b c : Int × Int × Int × Int} (h : klt a b) (k : klt b c) : klt a c := by unfold klt at *; omega
theorem klt_irrefl (a : Int × Int × Int × Int) : ¬ klt a a := by unfold klt; omega
theorem klt_tri (a b : Int × Int × Int × Int) : klt a b ∨ a = b ∨ klt b a := by
  obtain ⟨a1, a2, a3, a4⟩ := a
  obtain ⟨b1, b2, b3, b4⟩ := b
  simp only [klt, Prod.mk.injEq]
  omega

def putR : List Rw → Rw → List Rw
  | [], r => [r]
  | x :: l, r => if klt (rkey r) (rkey x) then r :: x :: l else if rkey x = rkey r then { r with f3 := wrap64 (r.f3 + x.f3) } :: l else x :: putR l r
def csum (l : List Rw) : List Rw := l.foldl putR []
def consol (l : List Rw) : List Rw := (csum l).filter fun r => r.f3 != 0

/-! the reference's sums of rows -/
def cmpK (a b : Int × Int × Int × Int) : Int := if klt a b then -1 else if klt b a then 1 else 0
theorem comp_step {X Y : List Int} {c : Int} (i : Nat) (hX : X.length = 4) (hY : Y.length = 4) (hi : i < 4) (h1 : rd X (i : Int) < rd Y (i : Int) → c = -1) (h2 : rd Y (i : Int) < rd X (i : Int) → c = 1)
    (h3 : rd X (i : Int) = rd Y (i : Int) → Ev (fun k => spec_l2Comp.l0 k X Y ((i + 1 : Nat) : Int)) c) : Ev (fun k => spec_l2Comp.l0 k X Y (i : Int)) c := by
  refine Ev.step (fun k => by rw [spec_l2Comp.l0]) (Ev.congr (fun k => (if_pos (by omega)).trans ((if_pos (by omega)).trans (if_pos (by omega)))) ?_)
  by_cases c1 : rd X (i : Int) < rd Y (i : Int)
  · rw [h1 c1]
    exact Ev.congr (fun k => if_pos c1) (Ev.now _)
  · refine Ev.congr (fun k => if_neg c1) ?_
    by_cases c2 : rd X (i : Int) > rd Y (i : Int)
    · rw [h2 c2]
      exact Ev.congr (fun k => if_pos c2) (Ev.now _)
    · refine Ev.congr (fun k => if_neg c2) ?_
      rw [w64 (by omega) (by omega)]
      exact h3 (by omega)
theorem s_comp (x y : Rw) : Ev (fun k => spec_l2Comp.f k x.f0 x.f1 x.f2.f0 x.f2.f1 x.f3 y.f0 y.f1 y.f2.f0 y.f2.f1 y.f3) (cmpK (rkey x) (rkey y)) := by
  unfold spec_l2Comp.f
  obtain ⟨a0, a1, ⟨a2, a3⟩, a4⟩ := x
  obtain ⟨b0, b1, ⟨b2, b3⟩, b4⟩ := y
  simp only [rkey]
  have r0 : rd [a0, a1, a2, a3] ((0 : Nat) : Int) = a0 := rfl
  have r1 : rd [a0, a1, a2, a3] ((1 : Nat) : Int) = a1 := rfl
  have r2 : rd [a0, a1, a2, a3] ((2 : Nat) : Int) = a2 := rfl
  have r3 : rd [a0, a1, a2, a3] ((3 : Nat) : Int) = a3 := rfl
  have s0 : rd [b0, b1, b2, b3] ((0 : Nat) : Int) = b0 := rfl
  have s1 : rd [b0, b1, b2, b3] ((1 : Nat) : Int) = b1 := rfl
  have s2 : rd [b0, b1, b2, b3] ((2 : Nat) : Int) = b2 := rfl
  have s3 : rd [b0, b1, b2, b3] ((3 : Nat) : Int) = b3 := rfl
  have lo : ∀ {p q : Int × Int × Int × Int}, klt p q → cmpK p q = -1 := fun h => if_pos h
  have hi : ∀ {p q : Int × Int × Int × Int}, klt q p → cmpK p q = 1 := fun {p q} h => by
    unfold cmpK
    rw [if_neg (fun k => klt_irrefl p (klt_trans k h)), if_pos h]
  refine comp_step 0 rfl rfl (by omega) (fun h => lo (by unfold klt; simp only; omega)) (fun h => hi (by unfold klt; simp only; omega)) fun e0 => ?_
  refine comp_step 1 rfl rfl (by omega) (fun h => lo (by unfold klt; simp only; omega)) (fun h => hi (by unfold klt; simp only; omega)) fun e1 => ?_
  refine comp_step 2 rfl rfl (by omega) (fun h => lo (by unfold klt; simp only; omega)) (fun h => hi (by unfold klt; simp only; omega)) fun e2 => ?_
  refine comp_step 3 rfl rfl (by omega) (fun h => lo (by unfold klt; simp only; omega)) (fun h => hi (by unfold klt; simp only; omega)) fun e3 => ?_
  refine Ev.step (fun k => by rw [spec_l2Comp.l0]) (Ev.congr (fun k => if_neg (by simp)) ?_)
  have : cmpK (a0, a1, a2, a3) (b0, b1, b2, b3) = 0 := by
    unfold cmpK
    rw [if_neg (by unfold klt; simp only; omega), if_neg (by unfold klt; simp only; omega)]
  rw [this]
  exact Ev.now _

theorem putR_len (l : List Rw) (r : Rw) : (putR l r).length ≤ l.length + 1 := by
  induction l with
  | nil => simp [putR]
  | cons x l ih =>
    unfold putR
    split
    · simp
    · split <;> simp <;> omega
theorem csum_len (l : List Rw) : (csum l).length ≤ l.length := by
  have : ∀ (l a : List Rw), (l.foldl putR a).length ≤ a.length + l.length := by
    intro l
    induction l with
    | nil => intro a; simp
    | cons x l ih =>
      intro a
      have := ih (putR a x)
      have := putR_len a x
      simp only [List.foldl_cons, List.length_cons]
      omega
  have h := this l []
  simpa [csum] using h
theorem consol_len (l : List Rw) : (consol l).length ≤ l.length := Nat.le_trans (List.length_filter_le _ _) (csum_len l)
theorem put_done (l : List Rw) (hl : l.length ≤ 1048576) (d : Nat) : ∀ (i : Nat) (out : List Rw) (r : Rw), i + d = l.length → out.length ≤ i + 1 →
    Ev (fun k => spec_l2Put.l0 k l out true (i : Int) r.f0 r.f1 r.f2.f0 r.f2.f1 r.f3) (out ++ l.drop i) := by
  induction d with
  | zero =>
    intro i out r hi ho
    rw [List.drop_eq_nil_of_le (by omega), List.append_nil]
    refine Ev.step (fun k => by rw [spec_l2Put.l0]) (Ev.congr (fun k => (if_neg (by omega)).trans (if_pos rfl)) ?_)
    exact Ev.now out
  | succ d ih =>
    intro i out r hi ho
    refine Ev.step (fun k => by rw [spec_l2Put.l0]) (Ev.congr (fun k => (if_pos (by omega)).trans (if_pos (by omega))) ?_)
    refine Ev.bind (s_comp (rd_T90 l (i : Int)) r) (Ev.congr (fun k => if_pos rfl) ?_)
    refine Ev.step (fun k => by rw [spec_l2Put.j1]) (Ev.congr (fun k => (if_neg (by simp)).trans ((if_pos rfl).trans ((if_pos (by omega)).trans ((if_pos (by omega)).trans (if_pos (by omega)))))) ?_)
    rw [up1 (by omega : i < l.length) (by omega), rdR_drop (by omega : i < l.length)]
    have := ih (i + 1) (out ++ [rd_T90 l (i : Int)]) r (by omega) (by simp; omega)
    simpa using this
theorem put_loop (l : List Rw) (hl : l.length ≤ 1048576) (r : Rw) (d : Nat) : ∀ (i : Nat) (out : List Rw), i + d = l.length → out.length ≤ i →
    Ev (fun k => spec_l2Put.l0 k l out false (i : Int) r.f0 r.f1 r.f2.f0 r.f2.f1 r.f3) (out ++ putR (l.drop i) r) := by
  induction d with
  | zero =>
    intro i out hi ho
    rw [List.drop_eq_nil_of_le (by omega)]
    refine Ev.step (fun k => by rw [spec_l2Put.l0]) (Ev.congr (fun k => (if_neg (by omega)).trans ((if_neg (by simp)).trans (if_pos (by omega)))) ?_)
    exact Ev.now _
  | succ d ih =>
    intro i out hi ho
    refine Ev.step (fun k => by rw [spec_l2Put.l0]) (Ev.congr (fun k => (if_pos (by omega)).trans (if_pos (by omega))) ?_)
    refine Ev.bind (s_comp (rd_T90 l (i : Int)) r) (Ev.congr (fun k => if_neg (by simp)) ?_)
    have e := rdR_drop (by omega : i < l.length)
    have fin := fun (o : List Rw) (r' : Rw) (h : o.length ≤ i + 2) => put_done l hl d (i + 1) o r' (by omega) h
    rw [e]
    refine Ev.step (fun k => by rw [spec_l2Put.j1]) ?_
    rw [up1 (by omega : i < l.length) (by omega)]
    by_cases c1 : klt (rkey r) (rkey (rd_T90 l (i : Int)))
    · have ec : cmpK (rkey (rd_T90 l (i : Int))) (rkey r) = 1 := by
        unfold cmpK
        rw [if_neg (fun k => klt_irrefl _ (klt_trans k c1)), if_pos c1]
      rw [ec, show putR (rd_T90 l (i : Int) :: l.drop (i + 1)) r = r :: rd_T90 l (i : Int) :: l.drop (i + 1) by simp [putR, c1]]
      refine Ev.congr (fun k => (if_pos rfl).trans (if_pos (by omega))) (Ev.bind (Ev.now _) (Ev.congr (fun k => (if_pos (by omega)).trans ((if_pos (by omega)).trans (if_pos (by simp; omega)))) ?_))
      have := fin (out ++ [r] ++ [rd_T90 l (i : Int)]) r (by simp; omega)
      simpa using this
    · by_cases c2 : rkey (rd_T90 l (i : Int)) = rkey r
      · have ec : cmpK (rkey (rd_T90 l (i : Int))) (rkey r) = 0 := by
          unfold cmpK
          rw [c2, if_neg (klt_irrefl _), if_neg (klt_irrefl _)]
        rw [ec, show putR (rd_T90 l (i : Int) :: l.drop (i + 1)) r = { r with f3 := wrap64 (r.f3 + (rd_T90 l (i : Int)).f3) } :: l.drop (i + 1) by simp only [putR]; rw [if_neg c1, if_pos c2]]
        refine Ev.congr (fun k => (if_neg (by simp)).trans ((if_neg (by simp)).trans ((if_pos rfl).trans ((if_pos (by omega)).trans ((if_pos (by omega)).trans (if_pos (by omega))))))) ?_
        have := fin (out ++ [{ r with f3 := wrap64 (r.f3 + (rd_T90 l (i : Int)).f3) }]) { r with f3 := wrap64 (r.f3 + (rd_T90 l (i : Int)).f3) } (by simp; omega)
        simpa using this
      · have c3 : klt (rkey (rd_T90 l (i : Int))) (rkey r) := by
          rcases klt_tri (rkey (rd_T90 l (i : Int))) (rkey r) with t | t | t
          · exact t
          · exact absurd t c2
          · exact absurd t c1
        have ec : cmpK (rkey (rd_T90 l (i : Int))) (rkey r) = -1 := if_pos c3
        rw [ec, show putR (rd_T90 l (i : Int) :: l.drop (i + 1)) r = rd_T90 l (i : Int) :: putR (l.drop (i + 1)) r by simp only [putR]; rw [if_neg c1, if_neg c2]]
        refine Ev.congr (fun k => (if_neg (by simp)).trans ((if_neg (by simp)).trans ((if_neg (by simp)).trans ((if_pos (by omega)).trans ((if_pos (by omega)).trans (if_pos (by omega))))))) ?_
        have := ih (i + 1) (out ++ [rd_T90 l (i : Int)]) (by omega) (by simp; omega)
        simpa using this
theorem s_put (l : List Rw) (hl : l.length ≤ 1048576) (r : Rw) : Ev (fun k => spec_l2Put.f k l r.f0 r.f1 r.f2.f0 r.f2.f1 r.f3) (putR l r) := by
  unfold spec_l2Put.f
  simpa using put_loop l hl r l.length 0 [] (by omega) (by simp)
theorem sum_l1 (l : List Rw) (hl : l.length ≤ 1048576) (d : Nat) : ∀ (i : Nat) (out : List Rw), i + d = l.length → out.length ≤ i →
    Ev (fun k => spec_l2Sum.l1 k l out (i : Int)) (out ++ (l.drop i).filter fun r => r.f3 != 0) := by
  induction d with
  | zero =>
    intro i out hi ho
    rw [List.drop_eq_nil_of_le (by omega)]
    refine Ev.step (fun k => by rw [spec_l2Sum.l1]) (Ev.congr (fun k => if_neg (by omega)) ?_)
    simpa using Ev.now out
  | succ d ih =>
    intro i out hi ho
    refine Ev.step (fun k => by rw [spec_l2Sum.l1]) (Ev.congr (fun k => (if_pos (by omega)).trans (if_pos (by omega))) ?_)
    rw [up1 (by omega : i < l.length) (by omega), rdR_drop (by omega : i < l.length)]
    by_cases h : (rd_T90 l (i : Int)).f3 = 0
    · rw [List.filter_cons_of_neg (by simp [h])]
      exact Ev.congr (fun k => if_pos h) (ih (i + 1) out (by omega) (by omega))
    · rw [List.filter_cons_of_pos (by simp [h])]
      have := ih (i + 1) (out ++ [rd_T90 l (i : Int)]) (by omega) (by simp; omega)
      exact Ev.congr (fun k => (if_neg h).trans (if_pos (by omega))) (by simpa using this)
theorem sum_l0 (l : List Rw) (hl : l.length ≤ 1048576) (d : Nat) : ∀ (i : Nat) (s : List Rw), i + d = l.length → s.length ≤ i →
    Ev (fun k => spec_l2Sum.l0 k l s (i : Int)) (((l.drop i).foldl putR s).filter fun r => r.f3 != 0) := by
  induction d with
  | zero =>
    intro i s hi hs
    rw [List.drop_eq_nil_of_le (by omega)]
    refine Ev.step (fun k => by rw [spec_l2Sum.l0]) (Ev.congr (fun k => if_neg (by omega)) ?_)
    simpa using sum_l1 s (by omega) s.length 0 [] (by omega) (by simp)
  | succ d ih =>
    intro i s hi hs
    refine Ev.step (fun k => by rw [spec_l2Sum.l0]) (Ev.congr (fun k => (if_pos (by omega)).trans (if_pos (by omega))) ?_)
    refine Ev.bind (s_put s (by omega) (rd_T90 l (i : Int))) ?_
    rw [up1 (by omega : i < l.length) (by omega), rdR_drop (by omega : i < l.length), List.foldl_cons]
    have := putR_len s (rd_T90 l (i : Int))
    exact ih (i + 1) _ (by omega) (by omega)
theorem s_sum (l : List Rw) (hl : l.length ≤ 1048576) : Ev (fun k => spec_l2Sum.f k l) (consol l) := by
  unfold spec_l2Sum.f
  simpa [consol, csum] using sum_l0 l hl l.length 0 [] (by omega) (by simp)

/-! items as rows of one time -/
def rwI (x : It) : Rw := ⟨x.f0, x.f1, ⟨0, 0⟩, x.f2⟩
def itR (r : Rw) : It := ⟨r.f0, r.f1, r.f3⟩
def itemsOf (l : List It) : List It := (consol (l.map rwI)).map itR
theorem itemsOf_len (l : List It) : (itemsOf l).length ≤ l.length := by
  unfold itemsOf
  have := consol_len (l.map rwI)
  simpa using this
theorem items_l1 (l : List Rw) (hl : l.length ≤ 1048576) (d : Nat) : ∀ (i : Nat) (out : List It), i + d = l.length → out.length ≤ i →
    Ev (fun k => spec_l2Items.l1 k l out (i : Int)) (out ++ (l.drop i).map itR) := by
  induction d with
  | zero =>
    intro i out hi ho
    rw [List.drop_eq_nil_of_le (by omega)]
    refine Ev.step (fun k => by rw [spec_l2Items.l1]) (Ev.congr (fun k => if_neg (by omega)) ?_)
    simpa using Ev.now out
  | succ d ih =>
    intro i out hi ho
    refine Ev.step (fun k => by rw [spec_l2Items.l1]) (Ev.congr (fun k => (if_pos (by omega)).trans ((if_pos (by omega)).trans (if_pos (by omega)))) ?_)
    rw [up1 (by omega : i < l.length) (by omega), rdR_drop (by omega : i < l.length)]
    have := ih (i + 1) (out ++ [itR (rd_T90 l (i : Int))]) (by omega) (by simp; omega)
    simpa [itR] using this
theorem items_l0 (l : List It) (hl : l.length ≤ 1048576) (d : Nat) : ∀ (i : Nat) (out : List Rw), i + d = l.length → out.length ≤ i →
    Ev (fun k => spec_l2Items.l0 k l out (i : Int)) ((consol (out ++ (l.drop i).map rwI)).map itR) := by
  induction d with
  | zero =>
    intro i out hi ho
    rw [List.drop_eq_nil_of_le (by omega)]
    have hc := consol_len out
    refine Ev.step (fun k => by rw [spec_l2Items.l0]) (Ev.congr (fun k => if_neg (by omega)) ?_)
    refine Ev.bind (s_sum out (by omega)) ?_
    simpa using items_l1 (consol out) (by omega) (consol out).length 0 [] (by omega) (by simp)
  | succ d ih =>
    intro i out hi ho
    refine Ev.step (fun k => by rw [spec_l2Items.l0]) (Ev.congr (fun k => (if_pos (by omega)).trans ((if_pos (by omega)).trans (if_pos (by omega)))) ?_)
    rw [up1 (by omega : i < l.length) (by omega), rdI_drop (by omega : i < l.length)]
    have := ih (i + 1) (out ++ [rwI (rd_T80 l (i : Int))]) (by omega) (by simp; omega)
    simpa [rwI] using this
theorem s_items (l : List It) (hl : l.length ≤ 1048576) : Ev (fun k => spec_l2Items.f k l) (itemsOf l) := by
  unfold spec_l2Items.f itemsOf
  simpa using items_l0 l hl l.length 0 [] (by omega) (by simp)

/-! a collection is in order -/
theorem sOk1_facts {p : It} {l : List It} (h : sOk1 p l = true) : (∀ x ∈ l, itOk x = true) ∧ (p :: l).Pairwise (fun x y => ilt x y = true) := by
  induction l generalizing p with
  | nil => exact ⟨fun x hx => by simp at hx, List.pairwise_singleton _ _⟩
  | cons y r ih =>
    simp only [sOk1, Bool.and_eq_true] at h
    obtain ⟨⟨h1, h2⟩, h3⟩ := h
    obtain ⟨g1, g2⟩ := ih h3
    refine ⟨fun x hx => ?_, List.pairwise_cons.2 ⟨fun x hx => ?_, g2⟩⟩
    · rcases List.mem_cons.1 hx with rfl | hx
      · exact h1
      · exact g1 x hx
    · rcases List.mem_cons.1 hx with rfl | hx
      · exact h2
      · have h4 := (List.pairwise_cons.1 g2).1 x hx
        simp only [ilt, decide_eq_true_eq] at h2 h4 ⊢
        omega
theorem setOk_facts {l : List It} (h : setOk l = true) : l.length ≤ 400 ∧ (∀ x ∈ l, itOk x = true) ∧ l.Pairwise (fun x y => ilt x y = true) := by
  unfold setOk at h
  simp only [Bool.and_eq_true, decide_eq_true_eq] at h
  refine ⟨h.1, ?_⟩
  cases l with
  | nil => exact ⟨fun x hx => by simp at hx, List.Pairwise.nil⟩
  | cons x r =>
    have h2 := h.2
    simp only [sOk, Bool.and_eq_true] at h2
    obtain ⟨g1, g2⟩ := sOk1_facts h2.2
    refine ⟨fun y hy => ?_, g2⟩
    rcases List.mem_cons.1 hy with rfl | hy
    · exact h2.1
    · exact g1 y hy
theorem itOk_key {x : It} (h : itOk x = true) : 0 ≤ x.f0 ∧ x.f0 ≤ 3 := by
  simp only [itOk, Bool.and_eq_true, decide_eq_true_eq] at h
  exact h.1
/-- A list in order, cut by its keys, is the list. -/
theorem by_keys {l : List It} (hk : ∀ x ∈ l, 0 ≤ x.f0 ∧ x.f0 ≤ 3) (hs : l.Pairwise fun x y => x.f0 ≤ y.f0) :
    l.filter (fun x => x.f0 == 0) ++ (l.filter (fun x => x.f0 == 1) ++ (l.filter (fun x => x.f0 == 2) ++ l.filter (fun x => x.f0 == 3))) = l := by
  induction l with
  | nil => rfl
  | cons y r ih =>
    have ih' := ih (fun x hx => hk x (List.mem_cons_of_mem _ hx)) (List.pairwise_cons.1 hs).2
    have hge := (List.pairwise_cons.1 hs).1
    have low : ∀ k : Int, k < y.f0 → r.filter (fun x => x.f0 == k) = [] := fun k hk2 => by
      rw [List.filter_eq_nil_iff]
      intro x hx
      have := hge x hx
      simp only [beq_iff_eq]
      omega
    have hy := hk y List.mem_cons_self
    have c : y.f0 = 0 ∨ y.f0 = 1 ∨ y.f0 = 2 ∨ y.f0 = 3 := by omega
    rcases c with c | c | c | c
    · simp only [List.filter_cons, c]
      simpa using ih'
    · have l0 := low 0 (by omega)
      rw [l0] at ih'
      simp only [List.filter_cons, c, l0]
      simpa using ih'
    · have l0 := low 0 (by omega)
      have l1 := low 1 (by omega)
      rw [l0, l1] at ih'
      simp only [List.filter_cons, c, l0, l1]
      simpa using ih'
    · have l0 := low 0 (by omega)
      have l1 := low 1 (by omega)
      have l2 := low 2 (by omega)
      rw [l0, l1, l2] at ih'
      simp only [List.filter_cons, c, l0, l1, l2]
      simpa using ih'

/-! the program's gathered items are the reference's -/
theorem put_rwI (a : List It) (x : It) : putR (a.map rwI) (rwI x) = (putI a x).map rwI := by
  induction a with
  | nil => rfl
  | cons y a ih =>
    rw [List.map_cons, putR, putI]
    by_cases h1 : ltI x y = true
    · have h1' := ltI_iff.1 h1
      rw [if_pos h1, if_pos (by unfold klt rkey rwI; simp only; omega)]
      rfl
    · have h1' : ¬ (x.f0 < y.f0 ∨ x.f0 = y.f0 ∧ x.f1 < y.f1) := fun k => h1 (ltI_iff.2 k)
      rw [if_neg h1, if_neg (by unfold klt rkey rwI; simp only; omega)]
      by_cases h2 : y.f0 = x.f0 ∧ y.f1 = x.f1
      · rw [if_pos h2, if_pos (by simp only [rkey, rwI, h2.1, h2.2])]
        rfl
      · rw [if_neg h2, if_neg (fun k => h2 (by simp only [rkey, rwI, Prod.mk.injEq] at k; exact ⟨k.1, k.2.1⟩)), ih]
        rfl
theorem fold_rwI (l : List It) : ∀ a : List It, (l.map rwI).foldl putR (a.map rwI) = (l.foldl putI a).map rwI := by
  induction l with
  | nil => intro a; rfl
  | cons x l ih =>
    intro a
    rw [List.map_cons, List.foldl_cons, List.foldl_cons, put_rwI, ih]
theorem gath_items (l : List It) : gathI l = itemsOf l := by
  unfold gathI itemsOf consol csum
  have := fold_rwI l []
  rw [List.map_nil] at this
  rw [this, List.filter_map, List.map_map]
  have e : (fun r : Rw => r.f3 != 0) ∘ rwI = fun x : It => x.f2 != 0 := rfl
  rw [e]
  have e2 : itR ∘ rwI = id := rfl
  rw [e2, List.map_id]
theorem itOk_ok {x : It} (h : itOk x = true) : ok80 x = true := by
  simp only [itOk, Bool.and_eq_true, decide_eq_true_eq] at h
  simp only [ok80, Bool.and_eq_true, wf64_iff]
  omega
theorem i_gathered (l : List It) (hl : l.length ≤ 1000000) (hok : ∀ x ∈ l, ok80 x = true) : impl_gathered.f l = some (itemsOf l) := by
  unfold impl_gathered.f
  rw [if_pos ⟨hl, List.all_eq_true.2 hok⟩, gath_items]

/-! SetJoin -/
def jn1 (x : It) : List It → List It
  | [] => []
  | y :: r => (if x.f0 = y.f0 then [⟨x.f0, Int.tmod (wrap64 (wrap64 (x.f1 * 10) + y.f1)) 100, wrap64 (x.f2 * y.f2)⟩] else []) ++ jn1 x r
def jnL (b : List It) : List It → List It
  | [] => []
  | x :: r => jn1 x b ++ jnL b r
theorem jn1_len (x : It) (b : List It) : (jn1 x b).length ≤ b.length := by
  induction b with
  | nil => simp [jn1]
  | cons y r ih =>
    unfold jn1
    split <;> simp <;> omega
theorem jnL_len (b : List It) (hb : b.length ≤ 400) (a : List It) : (jnL b a).length ≤ a.length * 400 := by
  induction a with
  | nil => simp [jnL]
  | cons x r ih =>
    have := jn1_len x b
    simp only [jnL, List.length_append, List.length_cons]
    omega
def setJoin (a b : List It) : List It := if setOk a && setOk b then itemsOf (jnL b a) else []
theorem setJoin_len (a b : List It) : (setJoin a b).length ≤ 1048576 := by
  unfold setJoin
  split
  · rename_i h
    simp only [Bool.and_eq_true] at h
    have h1 := (setOk_facts h.1).1
    have h2 := (setOk_facts h.2).1
    have := itemsOf_len (jnL b a)
    have := jnL_len b h2 a
    omega
  · simp
theorem jn1_ok {x : It} (hx : itOk x = true) {b : List It} (hb : ∀ y ∈ b, itOk y = true) : ∀ z ∈ jn1 x b, ok80 z = true := by
  induction b with
  | nil => intro z hz; simp [jn1] at hz
  | cons y r ih =>
    intro z hz
    unfold jn1 at hz
    rcases List.mem_append.1 hz with hz | hz
    · split at hz
      · rw [List.mem_singleton.1 hz]
        have ox := itOk_ok hx
        simp only [ok80, Bool.and_eq_true] at ox ⊢
        refine ⟨ox.1, wf64_iff.2 ?_, wf_wrap64 _⟩
        have h1 := Int.tmod_lt_of_pos (wrap64 (wrap64 (x.f1 * 10) + y.f1)) (by omega : (0 : Int) < 100)
        have h2 := Int.lt_tmod_of_pos (wrap64 (wrap64 (x.f1 * 10) + y.f1)) (by omega : (0 : Int) < 100)
        omega
      · simp at hz
    · exact ih (fun w hw => hb w (List.mem_cons_of_mem _ hw)) z hz
theorem jnL_ok {a b : List It} (ha : ∀ x ∈ a, itOk x = true) (hb : ∀ y ∈ b, itOk y = true) : ∀ z ∈ jnL b a, ok80 z = true := by
  induction a with
  | nil => intro z hz; simp [jnL] at hz
  | cons x r ih =>
    intro z hz
    rcases List.mem_append.1 hz with hz | hz
    · exact jn1_ok (ha x List.mem_cons_self) hb z hz
    · exact ih (fun w hw => ha w (List.mem_cons_of_mem _ hw)) z hz
theorem s_join1 (a b : List It) (ha : a.length ≤ 400) (hb : b.length ≤ 400) (i : Nat) (hi : i < a.length) (R : List It) (d : Nat) : ∀ (j : Nat) (out : List It), j + d = b.length → out.length ≤ i * 400 + j →
    Ev (fun k => spec_SetJoin.l0 k a b (out ++ jn1 (rd_T80 a (i : Int)) (b.drop j)) ((i + 1 : Nat) : Int)) R → Ev (fun k => spec_SetJoin.l1 k a b out (i : Int) (j : Int)) R := by
  induction d with
  | zero =>
    intro j out hj ho hk
    rw [List.drop_eq_nil_of_le (by omega)] at hk
    refine Ev.step (fun k => by rw [spec_SetJoin.l1]) (Ev.congr (fun k => if_neg (by omega)) ?_)
    rw [up1 hi (by omega)]
    simpa [jn1] using hk
  | succ d ih =>
    intro j out hj ho hk
    refine Ev.step (fun k => by rw [spec_SetJoin.l1]) (Ev.congr (fun k => (if_pos (by omega)).trans ((if_pos (by omega)).trans ((if_pos (by omega)).trans (if_pos (by omega))))) ?_)
    rw [rdI_drop (by omega : j < b.length), jn1] at hk
    rw [up1 (by omega : j < b.length) (by omega)]
    generalize rd_T80 a (i : Int) = x at *
    generalize rd_T80 b (j : Int) = y at *
    by_cases h : x.f0 = y.f0
    · rw [if_pos h] at hk
      refine Ev.congr (fun k => if_pos h) (Ev.bind (Ev.now _) (Ev.congr (fun k => if_pos (by omega)) (ih (j + 1) _ (by omega) (by simp; omega) (by simpa using hk))))
    · rw [if_neg h] at hk
      exact Ev.congr (fun k => if_neg h) (ih (j + 1) out (by omega) (by omega) (by simpa using hk))
theorem s_join0 (a b : List It) (ha : a.length ≤ 400) (hb : b.length ≤ 400) (d : Nat) : ∀ (i : Nat) (out : List It), i + d = a.length → out.length ≤ i * 400 →
    Ev (fun k => spec_SetJoin.l0 k a b out (i : Int)) (itemsOf (out ++ jnL b (a.drop i))) := by
  induction d with
  | zero =>
    intro i out hi ho
    rw [List.drop_eq_nil_of_le (by omega)]
    refine Ev.step (fun k => by rw [spec_SetJoin.l0]) (Ev.congr (fun k => if_neg (by omega)) (Ev.bind (s_items out (by omega)) ?_))
    simpa [jnL] using Ev.now _
  | succ d ih =>
    intro i out hi ho
    refine Ev.step (fun k => by rw [spec_SetJoin.l0]) (Ev.congr (fun k => if_pos (by omega)) ?_)
    rw [rdI_drop (by omega : i < a.length), jnL, ← List.append_assoc]
    have hl := jn1_len (rd_T80 a (i : Int)) b
    have key := s_join1 a b ha hb i (by omega) (itemsOf (out ++ jn1 (rd_T80 a (i : Int)) b ++ jnL b (a.drop (i + 1)))) b.length 0 out (Nat.zero_add _) (by rw [Nat.add_zero]; exact ho)
    rw [List.drop_zero] at key
    exact key (ih (i + 1) _ (by omega) (by rw [List.length_append]; omega))
theorem s_setjoin (a b : List It) (ha : a.length ≤ 1048576) (hb : b.length ≤ 1048576) : Ev (fun k => spec_SetJoin.f k a b) (setJoin a b) := by
  unfold spec_SetJoin.f setJoin
  refine Ev.bind (Ev.now _) (Ev.bind (s_set a ha) ?_)
  have out : Ev (fun k => spec_SetJoin.j0 k a b [] true) [] := by
    refine Ev.step (fun k => by rw [spec_SetJoin.j0]) ?_
    exact Ev.congr (fun k => if_pos rfl) (Ev.now _)
  cases hok : setOk a with
  | false => exact Ev.congr (fun k => if_neg (by simp)) out
  | true =>
    refine Ev.congr (fun k => if_pos rfl) (Ev.bind (s_set b hb) ?_)
    cases hok2 : setOk b with
    | false => exact out
    | true =>
      refine Ev.step (fun k => by rw [spec_SetJoin.j0]) (Ev.congr (fun k => if_neg (by simp)) ?_)
      simpa using s_join0 a b (setOk_facts hok).1 (setOk_facts hok2).1 a.length 0 [] (by omega) (by simp)
theorem i_join1 (a b : List It) (ha : a.length ≤ 400) (hb : b.length ≤ 400) (i : Nat) (hi : i < a.length) (R : List It) (x : It) (d : Nat) : ∀ (j : Nat) (out : List It), j + d = b.length → out.length ≤ i * 400 + j →
    Ev (fun k => impl_SetJoin.l0 k b (out ++ jn1 x (b.drop j)) a (a.length : Int) ((i + 1 : Nat) : Int)) R → Ev (fun k => impl_SetJoin.l1 k b out a (a.length : Int) (i : Int) b (b.length : Int) (j : Int) x.f0 x.f1 x.f2) R := by
  induction d with
  | zero =>
    intro j out hj ho hk
    rw [List.drop_eq_nil_of_le (by omega)] at hk
    refine Ev.step (fun k => by rw [impl_SetJoin.l1]) (Ev.congr (fun k => if_neg (by omega)) ?_)
    rw [up1 hi (by omega)]
    simpa [jn1] using hk
  | succ d ih =>
    intro j out hj ho hk
    refine Ev.step (fun k => by rw [impl_SetJoin.l1]) (Ev.congr (fun k => (if_pos (by omega)).trans ((if_pos (by omega)).trans (if_pos (by omega)))) ?_)
    rw [rdI_drop (by omega : j < b.length), jn1] at hk
    rw [up1 (by omega : j < b.length) (by omega)]
    generalize rd_T80 b (j : Int) = y at *
    by_cases h : x.f0 = y.f0
    · rw [if_pos h, Int.mul_comm x.f1 10] at hk
      refine Ev.congr (fun k => if_pos h) (Ev.bind (Ev.now _) (Ev.congr (fun k => if_pos (by omega)) (ih (j + 1) _ (by omega) (by simp; omega) (by simpa using hk))))
    · rw [if_neg h] at hk
      exact Ev.congr (fun k => if_neg h) (ih (j + 1) out (by omega) (by omega) (by simpa using hk))
theorem i_join0 (a b : List It) (ha : a.length ≤ 400) (hb : b.length ≤ 400) (d : Nat) : ∀ (i : Nat) (out : List It), i + d = a.length → out.length ≤ i * 400 → (∀ z ∈ out ++ jnL b (a.drop i), ok80 z = true) →
    Ev (fun k => impl_SetJoin.l0 k b out a (a.length : Int) (i : Int)) (itemsOf (out ++ jnL b (a.drop i))) := by
  induction d with
  | zero =>
    intro i out hi ho hz
    rw [List.drop_eq_nil_of_le (by omega)] at hz ⊢
    refine Ev.step (fun k => by rw [impl_SetJoin.l0]) (Ev.congr (fun k => if_neg (by omega)) ?_)
    refine Ev.bind (a := itemsOf out) ⟨0, fun k _ => i_gathered out (by omega) (by simpa [jnL] using hz)⟩ ?_
    simpa [jnL] using Ev.now _
  | succ d ih =>
    intro i out hi ho hz
    refine Ev.step (fun k => by rw [impl_SetJoin.l0]) (Ev.congr (fun k => (if_pos (by omega)).trans ((if_pos (by omega)).trans (if_pos (by omega)))) ?_)
    rw [rdI_drop (by omega : i < a.length), jnL, ← List.append_assoc] at hz ⊢
    have hl := jn1_len (rd_T80 a (i : Int)) b
    have key := i_join1 a b ha hb i (by omega) (itemsOf (out ++ jn1 (rd_T80 a (i : Int)) b ++ jnL b (a.drop (i + 1)))) (rd_T80 a (i : Int)) b.length 0 out (Nat.zero_add _) (by rw [Nat.add_zero]; exact ho)
    rw [List.drop_zero] at key
    exact key (ih (i + 1) _ (by omega) (by rw [List.length_append]; omega) hz)
theorem i_setjoin (a b : List It) (ha : a.length ≤ 1048576) (hb : b.length ≤ 1048576) : Ev (fun k => impl_SetJoin.f k a b) (setJoin a b) := by
  unfold impl_SetJoin.f setJoin
  have out : Ev (fun k => impl_SetJoin.j0 k a b true) [] := by
    refine Ev.step (fun k => by rw [impl_SetJoin.j0]) ?_
    exact Ev.congr (fun k => if_pos rfl) (Ev.now _)
  refine Ev.bind (i_set a ha) ?_
  cases hok : setOk a with
  | false => exact Ev.congr (fun k => if_neg (by simp)) out
  | true =>
    refine Ev.congr (fun k => if_pos rfl) (Ev.bind (i_set b hb) ?_)
    cases hok2 : setOk b with
    | false => exact out
    | true =>
      refine Ev.step (fun k => by rw [impl_SetJoin.j0]) (Ev.congr (fun k => if_neg (by simp)) ?_)
      simpa using i_join0 a b (setOk_facts hok).1 (setOk_facts hok2).1 a.length 0 [] (by omega) (by simp) (by simpa using jnL_ok (setOk_facts hok).2.1 (setOk_facts hok2).2.1)

theorem FnExactSetJoin (l : List ItA) (hm : l.length ≤ maxLen) {P : Prop} (_ : P) (m : List ItA) (hm2 : m.length ≤ maxLen) {Q : Prop} (_ : Q) : ∃ k, laws_FnExactSetJoin.f k l m = some true := by
  refine Ev.rounds ?_
  unfold laws_FnExactSetJoin.f
  by_cases h : 1048576 < l.length
  · exact Ev.bind ⟨0, fun k _ => szItemS_big l 1048576 hm (by omega) (by omega)⟩ (Ev.congr (fun k => if_pos (by omega)) (Ev.now _))
  have hl : l.length ≤ 1048576 := by omega
  refine Ev.bind ⟨0, fun k _ => szItemS_small l 1048576 (by omega) (by omega)⟩ (Ev.congr (fun k => if_neg (by omega)) ?_)
  by_cases h2 : 1048576 - (l.length : Int) < m.length
  · exact Ev.bind ⟨0, fun k _ => szItemS_big m _ hm2 (by omega) (by omega)⟩ (Ev.congr (fun k => if_pos (by omega)) (Ev.now _))
  have hml : m.length ≤ 1048576 := by omega
  refine Ev.bind ⟨0, fun k _ => szItemS_small m _ (by omega) (by omega)⟩ (Ev.congr (fun k => if_neg (by omega)) ?_)
  have hc : (l.map cvI).length ≤ 1048576 := by simpa using hl
  have hd : (m.map cvI).length ≤ 1048576 := by simpa using hml
  have hr := setJoin_len (l.map cvI) (m.map cvI)
  have es := s_setjoin (l.map cvI) (m.map cvI) hc hd
  have ei := i_setjoin (l.map cvI) (m.map cvI) hc hd
  generalize setJoin (l.map cvI) (m.map cvI) = r at *
  refine Ev.bind (toItemS_ev l hl) (Ev.bind (toItemS_ev m hml) (Ev.bind es (Ev.bind (toItemS_ev l hl) (Ev.bind (toItemS_ev m hml) (Ev.bind ei (Ev.bind (eqItemS_ev _ hr) (Ev.congr (fun k => if_pos rfl) ?_)))))))
  refine Ev.bind (toItemS_ev l hl) (Ev.bind (eqItemS_ev _ hc) (Ev.congr (fun k => if_pos rfl) (Ev.bind (toItemS_ev m hml) (Ev.bind (eqItemS_ev _ hd) (Ev.congr (fun k => if_pos rfl) ?_)))))
  refine Ev.bind (markI_ev _ hc) (Ev.bind (markI_at _ hd _ (by omega) (by omega)) (Ev.congr (fun k => if_neg (by simp only; omega)) (Ev.bind (eqItemS_ev _ hr) ?_)))
  refine Ev.step (fun k => by rw [laws_FnExactSetJoin.j0]) (Ev.congr (fun k => if_neg (by simp)) ?_)
  refine Ev.bind (markI_ev _ hr) (Ev.bind (heldI_ev _ hr) (Ev.congr (fun k => (if_neg (by omega)).trans (if_pos rfl)) ?_))
  exact Ev.bind (toItemS_ev l hl) (Ev.bind (toItemS_ev m hml) (Ev.bind ei (Ev.bind (eqItemS_ev _ hr) (Ev.congr (fun k => if_pos rfl) (Ev.bind (heldI_ev _ hr) (Ev.congr (fun k => (if_neg (by omega)).trans (if_pos rfl)) (Ev.now _)))))))
end Go.Proofs.Ytpggfdjnebccnaa.Pure
