/- The pure part of FnSetLeast. -/
import Derived.Test.YtiegpijhkhopgaaVFnSetLeastx
namespace Go.Proofs.Ytiegpijhkhopgaa.Pure
open Go.RowKit Go.Proofs.Ytiegpijhkhopgaa.PFnSetLeast Go.Proofs.YtiegpijhkhopgaaW.PrintWords Go.Proofs.YtiegpijhkhopgaaW.PrintLast Go.Proofs.YtiegpijhkhopgaaW.PrintMore Go.Proofs.Ytiegpijhkhopgaa.EvP
/-! the reader -/
theorem pick_p (l : List Int) (hl : ∀ x ∈ l, 0 ≤ x ∧ x ≤ 255) (hn : l.length ≤ 2000) (p n : Int) (hp : 0 ≤ p) (hp2 : p ≤ 1000000000) (h1 : 1 ≤ n) :
    EvP (fun k => spec_l6Rd_pick.f k l p n) (fun r => 0 ≤ r.1 ∧ r.1 < n ∧ r.2 = p + 1) := by
  have e1 : wrap64 (p + 1) = p + 1 := w64 (by omega) (by omega)
  have e2 : wrap64 (p + 1 - 1) = p := by rw [Int.add_sub_cancel]; exact w64 (by omega) (by omega)
  have key : ∃ v, 0 ≤ v ∧ v < n ∧ spec_l6Rd_pick.f 1 l p n = some (v, p + 1) := by
    unfold spec_l6Rd_pick.f
    rw [if_neg (by omega)]
    simp only [spec_l6Rd_pick.j0, e1, e2]
    by_cases h0 : (l.length : Int) = 0
    · refine ⟨0, by omega, by omega, ?_⟩
      rw [if_pos (by simp [h0])]
    · rw [if_neg (by simpa using h0)]
      by_cases h3 : p < (l.length : Int)
      · have hb := rd_byte hl p
        rw [if_pos h3, if_pos hp, if_neg (by omega), w64 (by omega) (by omega)]
        exact ⟨_, Int.tmod_nonneg _ hb.1, Int.tmod_lt_of_pos _ (by omega), rfl⟩
      · rw [if_neg h3, if_neg h0, if_pos (Int.tmod_nonneg _ hp), if_pos (Int.tmod_lt_of_pos _ (by omega))]
        have e7 : wrap64 (p * 7) = p * 7 := w64 (by omega) (by omega)
        have e73 : wrap64 (p * 7 + 3) = p * 7 + 3 := w64 (by omega) (by omega)
        rw [e7, e73, if_pos (Int.tmod_nonneg _ (by omega)), if_pos (Int.tmod_lt_of_pos _ (by omega)), if_neg (by omega)]
        have b1 := rd_byte hl (Int.tmod p (l.length : Int))
        have b2 := rd_byte hl (Int.tmod (p * 7 + 3) (l.length : Int))
        have hd0 : 0 ≤ Int.tdiv p (l.length : Int) := Int.tdiv_nonneg hp (by omega)
        have hd1 : Int.tdiv p (l.length : Int) ≤ p := by
          rw [Int.tdiv_eq_ediv_of_nonneg hp]
          exact Int.ediv_le_self _ hp
        generalize rd l (Int.tmod p (l.length : Int)) = u at *
        generalize rd l (Int.tmod (p * 7 + 3) (l.length : Int)) = v at *
        generalize Int.tdiv p (l.length : Int) = q at *
        have x1 : wrap64 u = u := w64 (by omega) (by omega)
        have x2 : wrap64 v = v := w64 (by omega) (by omega)
        have x3 : wrap64 q = q := w64 (by omega) (by omega)
        have x4 : wrap64 (u * 131) = u * 131 := w64 (by omega) (by omega)
        have x5 : wrap64 (v * 1117) = v * 1117 := w64 (by omega) (by omega)
        have x6 : wrap64 (p * 29) = p * 29 := w64 (by omega) (by omega)
        have x7 : wrap64 (q * 53) = q * 53 := w64 (by omega) (by omega)
        have x8 : wrap64 (u * 131 + v * 1117) = u * 131 + v * 1117 := w64 (by omega) (by omega)
        have x9 : wrap64 (u * 131 + v * 1117 + p * 29) = u * 131 + v * 1117 + p * 29 := w64 (by omega) (by omega)
        have x10 : wrap64 (u * 131 + v * 1117 + p * 29 + q * 53) = u * 131 + v * 1117 + p * 29 + q * 53 := w64 (by omega) (by omega)
        rw [x1, x2, x3, x4, x5, x6, x7, x8, x9, x10]
        have hz0 : 0 ≤ u * 131 + v * 1117 + p * 29 + q * 53 := by omega
        have hz1 : u * 131 + v * 1117 + p * 29 + q * 53 < 1000000000000 := by omega
        generalize u * 131 + v * 1117 + p * 29 + q * 53 = z at *
        have y0 : 0 ≤ Int.tdiv z 64 := Int.tdiv_nonneg hz0 (by omega)
        have y1 : Int.tdiv z 64 ≤ z := by
          rw [Int.tdiv_eq_ediv_of_nonneg hz0]
          exact Int.ediv_le_self _ hz0
        have x11 : wrap64 (Int.tdiv z 64) = Int.tdiv z 64 := w64 (by omega) (by omega)
        rw [x11]
        exact ⟨_, Int.tmod_nonneg _ (xor_nonneg _ _ hz0 (by omega) y0 (by omega)), Int.tmod_lt_of_pos _ (by omega), rfl⟩
  obtain ⟨v, h0, hv, hk⟩ := key
  exact EvP.mono_of (spec_l6Rd_pick.mono l p n) hk ⟨h0, hv, rfl⟩

theorem open_p (l : List Int) (hl : ∀ x ∈ l, 0 ≤ x ∧ x ≤ 255) : ∃ l', spec_l6Open.f l = some (l', 0) ∧ (∀ x ∈ l', 0 ≤ x ∧ x ≤ 255) ∧ l'.length ≤ 2000 := by
  unfold spec_l6Open.f
  by_cases h : (l.length : Int) > 2000
  · rw [if_pos h, if_pos (by omega)]
    exact ⟨_, rfl, fun x hx => hl x (List.mem_of_mem_take hx), by rw [List.length_take]; omega⟩
  · rw [if_neg h]
    exact ⟨_, rfl, hl, by omega⟩

theorem time_p (l : List Int) (hl : ∀ x ∈ l, 0 ≤ x ∧ x ≤ 255) (hn : l.length ≤ 2000) (p : Int) (hp : 0 ≤ p) (hp2 : p ≤ 900000000) :
    EvP (fun k => spec_l71Time.f k l p) (fun r => 0 ≤ r.1 ∧ r.1 ≤ 7 ∧ 0 ≤ r.2.1 ∧ r.2.1 ≤ 7 ∧ p ≤ r.2.2 ∧ r.2.2 ≤ p + 3) := by
  unfold spec_l71Time.f
  refine EvP.bind (pick_p l hl hn p 10 hp (by omega) (by omega)) fun a ha => EvP.ite (fun _ => ?_) (fun _ => ?_)
  all_goals
    refine EvP.bind (pick_p l hl hn a.2 _ (by omega) (by omega) (by omega)) fun b hb => EvP.bind (pick_p l hl hn b.2 _ (by omega) (by omega) (by omega)) fun c hc => EvP.ret ?_
    simp only
    omega

/-! what the functions on times say -/
def okT (a b : Int) : Bool := decide (0 ≤ a ∧ a ≤ 7 ∧ 0 ≤ b ∧ b ≤ 7)
def leT (a b c d : Int) : Bool := okT a b && okT c d && decide (a ≤ c ∧ b ≤ d)
theorem okT_true {a b : Int} (h : okT a b = true) : 0 ≤ a ∧ a ≤ 7 ∧ 0 ≤ b ∧ b ≤ 7 := of_decide_eq_true h
theorem leT_true {a b c d : Int} (h : leT a b c d = true) : (0 ≤ a ∧ a ≤ 7 ∧ 0 ≤ b ∧ b ≤ 7) ∧ (0 ≤ c ∧ c ≤ 7 ∧ 0 ≤ d ∧ d ≤ 7) ∧ a ≤ c ∧ b ≤ d := by simpa [leT, okT, and_assoc] using h
theorem leT_mk {a b c d : Int} (h : (0 ≤ a ∧ a ≤ 7 ∧ 0 ≤ b ∧ b ≤ 7) ∧ (0 ≤ c ∧ c ≤ 7 ∧ 0 ≤ d ∧ d ≤ 7) ∧ a ≤ c ∧ b ≤ d) : leT a b c d = true := by simpa [leT, okT, and_assoc] using h

theorem s_ok (a b : Int) : spec_TimeOk.f a b = some (okT a b) := by
  unfold spec_TimeOk.f spec_l6In.f okT
  by_cases h0 : 0 ≤ a <;> by_cases h1 : a ≤ 7 <;> by_cases h2 : 0 ≤ b <;> by_cases h3 : b ≤ 7 <;> simp [h0, h1, h2, h3]

theorem s_less (a b c d : Int) : spec_TimeLess.f a b c d = some (leT a b c d) := by
  unfold spec_TimeLess.f leT
  rw [s_ok, s_ok]
  cases okT a b <;> cases okT c d <;> by_cases h0 : a ≤ c <;> by_cases h1 : b ≤ d <;> simp [h0, h1]

theorem up1 {i n : Nat} (h : i < n) (hn : n ≤ 4611686018427387904) : wrap64 ((i : Int) + 1) = ((i + 1 : Nat) : Int) := by
  rw [w64 (by omega) (by omega)]; rfl

/-! lists of items -/
abbrev It := S60
theorem rdI_drop {xs : List It} {i : Nat} (h : i < xs.length) : xs.drop i = rd_T60 xs (i : Int) :: xs.drop (i + 1) := by
  unfold rd_T60
  rw [List.drop_eq_getElem_cons h, List.getD_eq_getElem?_getD, Int.toNat_natCast, List.getElem?_eq_getElem h]
  rfl

/-! lists of rows -/
abbrev Rw := S67
theorem rdR_drop {xs : List Rw} {i : Nat} (h : i < xs.length) : xs.drop i = rd_T67 xs (i : Int) :: xs.drop (i + 1) := by
  unfold rd_T67
  rw [List.drop_eq_getElem_cons h, List.getD_eq_getElem?_getD, Int.toNat_natCast, List.getElem?_eq_getElem h]
  rfl

/-! rows: put into order, equal ones summed -/
def W64 : Int := 18446744073709551616
/-- key, value and time -/
def rkey (r : Rw) : Int × Int × Int × Int := (r.f0, r.f1, r.f2.f0, r.f2.f1)
def klt (a b : Int × Int × Int × Int) : Prop := a.1 < b.1 ∨ a.1 = b.1 ∧ (a.2.1 < b.2.1 ∨ a.2.1 = b.2.1 ∧ (a.2.2.1 < b.2.2.1 ∨ a.2.2.1 = b.2.2.1 ∧ a.2.2.2 < b.2.2.2))
instance (a b : Int × Int × Int × Int) : Decidable (klt a b) := by unfold klt; infer_instance
theorem klt_trans {a b c : Int × Int × Int × Int} (h : klt a b) (k : klt b c) : klt a c := by unfold klt at *; omega
theorem klt_irrefl (a : Int × Int × Int × Int) : ¬ klt a a := by unfold klt; omega
theorem klt_tri (a b : Int × Int × Int × Int) : klt a b ∨ a = b ∨ klt b a := by
  obtain ⟨a1, a2, a3, a4⟩ := a
  obtain ⟨b1, b2, b3, b4⟩ := b
  simp only [klt, Prod.mk.injEq]
  omega

def putR : List Rw → Rw → List Rw
  | [], r => [r]
  | x :: l, r => if klt (rkey r) (rkey x) then r :: x :: l else if rkey x = rkey r then { r with f3 := wrap64 (r.f3 + x.f3) } :: l else x :: putR l r
def csum (l : List Rw) : List Rw := l.foldl putR []
def consol (l : List Rw) : List Rw := (csum l).filter fun r => r.f3 != 0

/-! the reference's sums of rows -/
def cmpK (a b : Int × Int × Int × Int) : Int := if klt a b then -1 else if klt b a then 1 else 0
theorem comp_step {X Y : List Int} {c : Int} (i : Nat) (hX : X.length = 4) (hY : Y.length = 4) (hi : i < 4) (h1 : rd X (i : Int) < rd Y (i : Int) → c = -1) (h2 : rd Y (i : Int) < rd X (i : Int) → c = 1)
    (h3 : rd X (i : Int) = rd Y (i : Int) → Ev (fun k => spec_l2Comp.l0 k X Y ((i + 1 : Nat) : Int)) c) : Ev (fun k => spec_l2Comp.l0 k X Y (i : Int)) c := by
  refine Ev.step (fun k => by rw [spec_l2Comp.l0]) (Ev.congr (fun k => (if_pos (by omega)).trans ((if_pos (by omega)).trans (if_pos (by omega)))) ?_)
  by_cases c1 : rd X (i : Int) < rd Y (i : Int)
  · rw [h1 c1]
    exact Ev.congr (fun k => if_pos c1) (Ev.now _)
  · refine Ev.congr (fun k => if_neg c1) ?_
    by_cases c2 : rd X (i : Int) > rd Y (i : Int)
    · rw [h2 c2]
      exact Ev.congr (fun k => if_pos c2) (Ev.now _)
    · refine Ev.congr (fun k => if_neg c2) ?_
      rw [w64 (by omega) (by omega)]
      exact h3 (by omega)
theorem s_comp (x y : Rw) : Ev (fun k => spec_l2Comp.f k x.f0 x.f1 x.f2.f0 x.f2.f1 x.f3 y.f0 y.f1 y.f2.f0 y.f2.f1 y.f3) (cmpK (rkey x) (rkey y)) := by
  unfold spec_l2Comp.f
  obtain ⟨a0, a1, ⟨a2, a3⟩, a4⟩ := x
  obtain ⟨b0, b1, ⟨b2, b3⟩, b4⟩ := y
  simp only [rkey]
  have r0 : rd [a0, a1, a2, a3] ((0 : Nat) : Int) = a0 := rfl
  have r1 : rd [a0, a1, a2, a3] ((1 : Nat) : Int) = a1 := rfl
  have r2 : rd [a0, a1, a2, a3] ((2 : Nat) : Int) = a2 := rfl
  have r3 : rd [a0, a1, a2, a3] ((3 : Nat) : Int) = a3 := rfl
  have s0 : rd [b0, b1, b2, b3] ((0 : Nat) : Int) = b0 := rfl
  have s1 : rd [b0, b1, b2, b3] ((1 : Nat) : Int) = b1 := rfl
  have s2 : rd [b0, b1, b2, b3] ((2 : Nat) : Int) = b2 := rfl
  have s3 : rd [b0, b1, b2, b3] ((3 : Nat) : Int) = b3 := rfl
  have lo : ∀ {p q : Int × Int × Int × Int}, klt p q → cmpK p q = -1 := fun h => if_pos h
  have hi : ∀ {p q : Int × Int × Int × Int}, klt q p → cmpK p q = 1 := fun {p q} h => by
    unfold cmpK
    rw [if_neg (fun k => klt_irrefl p (klt_trans k h)), if_pos h]
  refine comp_step 0 rfl rfl (by omega) (fun h => lo (by unfold klt; simp only; omega)) (fun h => hi (by unfold klt; simp only; omega)) fun e0 => ?_
  refine comp_step 1 rfl rfl (by omega) (fun h => lo (by unfold klt; simp only; omega)) (fun h => hi (by unfold klt; simp only; omega)) fun e1 => ?_
  refine comp_step 2 rfl rfl (by omega) (fun h => lo (by unfold klt; simp only; omega)) (fun h => hi (by unfold klt; simp only; omega)) fun e2 => ?_
  refine comp_step 3 rfl rfl (by omega) (fun h => lo (by unfold klt; simp only; omega)) (fun h => hi (by unfold klt; simp only; omega)) fun e3 => ?_
  refine Ev.step (fun k => by rw [spec_l2Comp.l0]) (Ev.congr (fun k => if_neg (by simp)) ?_)
  have : cmpK (a0, a1, a2, a3) (b0, b1, b2, b3) = 0 := by
    unfold cmpK
    rw [if_neg (by unfold klt; simp only; omega), if_neg (by unfold klt; simp only; omega)]
  rw [this]
  exact Ev.now _

theorem putR_len (l : List Rw) (r : Rw) : (putR l r).length ≤ l.length + 1 := by
  induction l with
  | nil => simp [putR]
  | cons x l ih =>
    unfold putR
    split
    · simp
    · split <;> simp <;> omega
theorem csum_len (l : List Rw) : (csum l).length ≤ l.length := by
  have : ∀ (l a : List Rw), (l.foldl putR a).length ≤ a.length + l.length := by
    intro l
    induction l with
    | nil => intro a; simp
    | cons x l ih =>
      intro a
      have := ih (putR a x)
      have := putR_len a x
      simp only [List.foldl_cons, List.length_cons]
      omega
  have h := this l []
  simpa [csum] using h
theorem consol_len (l : List Rw) : (consol l).length ≤ l.length := Nat.le_trans (List.length_filter_le _ _) (csum_len l)
theorem put_done (l : List Rw) (hl : l.length ≤ 1048576) (d : Nat) : ∀ (i : Nat) (out : List Rw) (r : Rw), i + d = l.length → out.length ≤ i + 1 →
    Ev (fun k => spec_l2Put.l0 k l out true (i : Int) r.f0 r.f1 r.f2.f0 r.f2.f1 r.f3) (out ++ l.drop i) := by
  induction d with
  | zero =>
    intro i out r hi ho
    rw [List.drop_eq_nil_of_le (by omega), List.append_nil]
    refine Ev.step (fun k => by rw [spec_l2Put.l0]) (Ev.congr (fun k => (if_neg (by omega)).trans (if_pos rfl)) ?_)
    exact Ev.now out
  | succ d ih =>
    intro i out r hi ho
    refine Ev.step (fun k => by rw [spec_l2Put.l0]) (Ev.congr (fun k => (if_pos (by omega)).trans (if_pos (by omega))) ?_)
    refine Ev.bind (s_comp (rd_T67 l (i : Int)) r) (Ev.congr (fun k => if_pos rfl) ?_)
    refine Ev.step (fun k => by rw [spec_l2Put.j1]) (Ev.congr (fun k => (if_neg (by simp)).trans ((if_pos rfl).trans ((if_pos (by omega)).trans ((if_pos (by omega)).trans (if_pos (by omega)))))) ?_)
    rw [up1 (by omega : i < l.length) (by omega), rdR_drop (by omega : i < l.length)]
    have := ih (i + 1) (out ++ [rd_T67 l (i : Int)]) r (by omega) (by simp; omega)
    simpa using this
theorem put_loop (l : List Rw) (hl : l.length ≤ 1048576) (r : Rw) (d : Nat) : ∀ (i : Nat) (out : List Rw), i + d = l.length → out.length ≤ i →
    Ev (fun k => spec_l2Put.l0 k l out false (i : Int) r.f0 r.f1 r.f2.f0 r.f2.f1 r.f3) (out ++ putR (l.drop i) r) := by
  induction d with
  | zero =>
    intro i out hi ho
    rw [List.drop_eq_nil_of_le (by omega)]
    refine Ev.step (fun k => by rw [spec_l2Put.l0]) (Ev.congr (fun k => (if_neg (by omega)).trans ((if_neg (by simp)).trans (if_pos (by omega)))) ?_)
    exact Ev.now _
  | succ d ih =>
    intro i out hi ho
    refine Ev.step (fun k => by rw [spec_l2Put.l0]) (Ev.congr (fun k => (if_pos (by omega)).trans (if_pos (by omega))) ?_)
    refine Ev.bind (s_comp (rd_T67 l (i : Int)) r) (Ev.congr (fun k => if_neg (by simp)) ?_)
    have e := rdR_drop (by omega : i < l.length)
    have fin := fun (o : List Rw) (r' : Rw) (h : o.length ≤ i + 2) => put_done l hl d (i + 1) o r' (by omega) h
    rw [e]
    refine Ev.step (fun k => by rw [spec_l2Put.j1]) ?_
    rw [up1 (by omega : i < l.length) (by omega)]
    by_cases c1 : klt (rkey r) (rkey (rd_T67 l (i : Int)))
    · have ec : cmpK (rkey (rd_T67 l (i : Int))) (rkey r) = 1 := by
        unfold cmpK
        rw [if_neg (fun k => klt_irrefl _ (klt_trans k c1)), if_pos c1]
      rw [ec, show putR (rd_T67 l (i : Int) :: l.drop (i + 1)) r = r :: rd_T67 l (i : Int) :: l.drop (i + 1) by simp [putR, c1]]
      refine Ev.congr (fun k => (if_pos rfl).trans (if_pos (by omega))) (Ev.bind (Ev.now _) (Ev.congr (fun k => (if_pos (by omega)).trans ((if_pos (by omega)).trans (if_pos (by simp; omega)))) ?_))
      have := fin (out ++ [r] ++ [rd_T67 l (i : Int)]) r (by simp; omega)
      simpa using this
    · by_cases c2 : rkey (rd_T67 l (i : Int)) = rkey r
      · have ec : cmpK (rkey (rd_T67 l (i : Int))) (rkey r) = 0 := by
          unfold cmpK
          rw [c2, if_neg (klt_irrefl _), if_neg (klt_irrefl _)]
        rw [ec, show putR (rd_T67 l (i : Int) :: l.drop (i + 1)) r = { r with f3 := wrap64 (r.f3 + (rd_T67 l (i : Int)).f3) } :: l.drop (i + 1) by simp only [putR]; rw [if_neg c1, if_pos c2]]
        refine Ev.congr (fun k => (if_neg (by simp)).trans ((if_neg (by simp)).trans ((if_pos rfl).trans ((if_pos (by omega)).trans ((if_pos (by omega)).trans (if_pos (by omega))))))) ?_
        have := fin (out ++ [{ r with f3 := wrap64 (r.f3 + (rd_T67 l (i : Int)).f3) }]) { r with f3 := wrap64 (r.f3 + (rd_T67 l (i : Int)).f3) } (by simp; omega)
        simpa using this
      · have c3 : klt (rkey (rd_T67 l (i : Int))) (rkey r) := by
          rcases klt_tri (rkey (rd_T67 l (i : Int))) (rkey r) with t | t | t
          · exact t
          · exact absurd t c2
          · exact absurd t c1
        have ec : cmpK (rkey (rd_T67 l (i : Int))) (rkey r) = -1 := if_pos c3
        rw [ec, show putR (rd_T67 l (i : Int) :: l.drop (i + 1)) r = rd_T67 l (i : Int) :: putR (l.drop (i + 1)) r by simp only [putR]; rw [if_neg c1, if_neg c2]]
        refine Ev.congr (fun k => (if_neg (by simp)).trans ((if_neg (by simp)).trans ((if_neg (by simp)).trans ((if_pos (by omega)).trans ((if_pos (by omega)).trans (if_pos (by omega))))))) ?_
        have := ih (i + 1) (out ++ [rd_T67 l (i : Int)]) (by omega) (by simp; omega)
        simpa using this
theorem s_put (l : List Rw) (hl : l.length ≤ 1048576) (r : Rw) : Ev (fun k => spec_l2Put.f k l r.f0 r.f1 r.f2.f0 r.f2.f1 r.f3) (putR l r) := by
  unfold spec_l2Put.f
  simpa using put_loop l hl r l.length 0 [] (by omega) (by simp)
theorem sum_l1 (l : List Rw) (hl : l.length ≤ 1048576) (d : Nat) : ∀ (i : Nat) (out : List Rw), i + d = l.length → out.length ≤ i →
    Ev (fun k => spec_l2Sum.l1 k l out (i : Int)) (out ++ (l.drop i).filter fun r => r.f3 != 0) := by
  induction d with
  | zero =>
    intro i out hi ho
    rw [List.drop_eq_nil_of_le (by omega)]
    refine Ev.step (fun k => by rw [spec_l2Sum.l1]) (Ev.congr (fun k => if_neg (by omega)) ?_)
    simpa using Ev.now out
  | succ d ih =>
    intro i out hi ho
    refine Ev.step (fun k => by rw [spec_l2Sum.l1]) (Ev.congr (fun k => (if_pos (by omega)).trans (if_pos (by omega))) ?_)
    rw [up1 (by omega : i < l.length) (by omega), rdR_drop (by omega : i < l.length)]
    by_cases h : (rd_T67 l (i : Int)).f3 = 0
    · rw [List.filter_cons_of_neg (by simp [h])]
      exact Ev.congr (fun k => if_pos h) (ih (i + 1) out (by omega) (by omega))
    · rw [List.filter_cons_of_pos (by simp [h])]
      have := ih (i + 1) (out ++ [rd_T67 l (i : Int)]) (by omega) (by simp; omega)
      exact Ev.congr (fun k => (if_neg h).trans (if_pos (by omega))) (by simpa using this)
theorem sum_l0 (l : List Rw) (hl : l.length ≤ 1048576) (d : Nat) : ∀ (i : Nat) (s : List Rw), i + d = l.length → s.length ≤ i →
    Ev (fun k => spec_l2Sum.l0 k l s (i : Int)) (((l.drop i).foldl putR s).filter fun r => r.f3 != 0) := by
  induction d with
  | zero =>
    intro i s hi hs
    rw [List.drop_eq_nil_of_le (by omega)]
    refine Ev.step (fun k => by rw [spec_l2Sum.l0]) (Ev.congr (fun k => if_neg (by omega)) ?_)
    simpa using sum_l1 s (by omega) s.length 0 [] (by omega) (by simp)
  | succ d ih =>
    intro i s hi hs
    refine Ev.step (fun k => by rw [spec_l2Sum.l0]) (Ev.congr (fun k => (if_pos (by omega)).trans (if_pos (by omega))) ?_)
    refine Ev.bind (s_put s (by omega) (rd_T67 l (i : Int))) ?_
    rw [up1 (by omega : i < l.length) (by omega), rdR_drop (by omega : i < l.length), List.foldl_cons]
    have := putR_len s (rd_T67 l (i : Int))
    exact ih (i + 1) _ (by omega) (by omega)
theorem s_sum (l : List Rw) (hl : l.length ≤ 1048576) : Ev (fun k => spec_l2Sum.f k l) (consol l) := by
  unfold spec_l2Sum.f
  simpa [consol, csum] using sum_l0 l hl l.length 0 [] (by omega) (by simp)

theorem s_in (a b c : Int) : spec_l6In.f a b c = some (decide (b ≤ a ∧ a ≤ c)) := by
  unfold spec_l6In.f
  by_cases h0 : b ≤ a <;> by_cases h1 : a ≤ c <;> simp [h0, h1]

def rowOk (r : Rw) : Bool := decide (0 ≤ r.f0 ∧ r.f0 ≤ 3) && (decide (0 ≤ r.f1 ∧ r.f1 ≤ 99) && (okT r.f2.f0 r.f2.f1 && decide (-99999 ≤ r.f3 ∧ r.f3 ≤ 99999)))
def rowsOk (l : List Rw) : Bool := decide (l.length ≤ 400) && l.all rowOk
theorem s_l2Row (r : Rw) : spec_l2Row.f r.f0 r.f1 r.f2.f0 r.f2.f1 r.f3 = some (rowOk r) := by
  unfold spec_l2Row.f rowOk
  simp only [s_in, s_ok, Option.bind_some]
  cases decide (0 ≤ r.f0 ∧ r.f0 ≤ 3) <;> cases decide (0 ≤ r.f1 ∧ r.f1 ≤ 99) <;> cases okT r.f2.f0 r.f2.f1 <;> rfl
theorem s_rows_loop (l : List Rw) (hl : l.length ≤ 1048576) (d : Nat) : ∀ i : Nat, i + d = l.length → Ev (fun k => spec_RowsOk.l0 k l (i : Int)) ((l.drop i).all rowOk) := by
  induction d with
  | zero =>
    intro i hi
    rw [List.drop_eq_nil_of_le (by omega)]
    refine Ev.step (fun k => by rw [spec_RowsOk.l0]) ?_
    exact Ev.congr (fun k => if_neg (by omega)) (Ev.now _)
  | succ d ih =>
    intro i hi
    refine Ev.step (fun k => by rw [spec_RowsOk.l0]) ?_
    refine Ev.congr (fun k => (if_pos (by omega)).trans (if_pos (by omega))) ?_
    refine Ev.bind ⟨0, fun k _ => s_l2Row _⟩ ?_
    rw [rdR_drop (by omega : i < l.length), List.all_cons]
    cases rowOk (rd_T67 l (i : Int)) with
    | false => exact Ev.now _
    | true =>
      refine Ev.congr (fun k => if_pos rfl) ?_
      rw [up1 (by omega : i < l.length) (by omega)]
      exact ih (i + 1) (by omega)
theorem s_rows (l : List Rw) (hl : l.length ≤ 1048576) : Ev (fun k => spec_RowsOk.f k l) (rowsOk l) := by
  unfold spec_RowsOk.f rowsOk
  by_cases h : l.length ≤ 400
  · rw [decide_eq_true h]
    exact Ev.congr (fun k => if_neg (by omega)) (by simpa using s_rows_loop l hl l.length 0 (by omega))
  · rw [decide_eq_false h]
    exact Ev.congr (fun k => if_pos (by omega)) (Ev.now _)

/-! items as rows of one time -/
def rwI (x : It) : Rw := ⟨x.f0, x.f1, ⟨0, 0⟩, x.f2⟩
def itR (r : Rw) : It := ⟨r.f0, r.f1, r.f3⟩
def itemsOf (l : List It) : List It := (consol (l.map rwI)).map itR
theorem itemsOf_len (l : List It) : (itemsOf l).length ≤ l.length := by
  unfold itemsOf
  have := consol_len (l.map rwI)
  simpa using this
theorem items_l1 (l : List Rw) (hl : l.length ≤ 1048576) (d : Nat) : ∀ (i : Nat) (out : List It), i + d = l.length → out.length ≤ i →
    Ev (fun k => spec_l2Items.l1 k l out (i : Int)) (out ++ (l.drop i).map itR) := by
  induction d with
  | zero =>
    intro i out hi ho
    rw [List.drop_eq_nil_of_le (by omega)]
    refine Ev.step (fun k => by rw [spec_l2Items.l1]) (Ev.congr (fun k => if_neg (by omega)) ?_)
    simpa using Ev.now out
  | succ d ih =>
    intro i out hi ho
    refine Ev.step (fun k => by rw [spec_l2Items.l1]) (Ev.congr (fun k => (if_pos (by omega)).trans ((if_pos (by omega)).trans (if_pos (by omega)))) ?_)
    rw [up1 (by omega : i < l.length) (by omega), rdR_drop (by omega : i < l.length)]
    have := ih (i + 1) (out ++ [itR (rd_T67 l (i : Int))]) (by omega) (by simp; omega)
    simpa [itR] using this
theorem items_l0 (l : List It) (hl : l.length ≤ 1048576) (d : Nat) : ∀ (i : Nat) (out : List Rw), i + d = l.length → out.length ≤ i →
    Ev (fun k => spec_l2Items.l0 k l out (i : Int)) ((consol (out ++ (l.drop i).map rwI)).map itR) := by
  induction d with
  | zero =>
    intro i out hi ho
    rw [List.drop_eq_nil_of_le (by omega)]
    have hc := consol_len out
    refine Ev.step (fun k => by rw [spec_l2Items.l0]) (Ev.congr (fun k => if_neg (by omega)) ?_)
    refine Ev.bind (s_sum out (by omega)) ?_
    simpa using items_l1 (consol out) (by omega) (consol out).length 0 [] (by omega) (by simp)
  | succ d ih =>
    intro i out hi ho
    refine Ev.step (fun k => by rw [spec_l2Items.l0]) (Ev.congr (fun k => (if_pos (by omega)).trans ((if_pos (by omega)).trans (if_pos (by omega)))) ?_)
    rw [up1 (by omega : i < l.length) (by omega), rdI_drop (by omega : i < l.length)]
    have := ih (i + 1) (out ++ [rwI (rd_T60 l (i : Int))]) (by omega) (by simp; omega)
    simpa [rwI] using this
theorem s_items (l : List It) (hl : l.length ≤ 1048576) : Ev (fun k => spec_l2Items.f k l) (itemsOf l) := by
  unfold spec_l2Items.f itemsOf
  simpa using items_l0 l hl l.length 0 [] (by omega) (by simp)

/-! BatchAt, of the reference -/
def rowsAt (l : List Rw) (a b : Int) : List It := (l.filter fun r => leT r.f2.f0 r.f2.f1 a b).map itR
def batchAt (l : List Rw) (a b : Int) : List It := if rowsOk l && okT a b then itemsOf (rowsAt l a b) else []
theorem rowsAt_len (l : List Rw) (a b : Int) : (rowsAt l a b).length ≤ l.length := by
  unfold rowsAt
  rw [List.length_map]
  exact List.length_filter_le _ _
theorem batchAt_len (l : List Rw) (a b : Int) : (batchAt l a b).length ≤ l.length := by
  unfold batchAt
  split
  · exact Nat.le_trans (itemsOf_len _) (rowsAt_len _ _ _)
  · simp
theorem at_loop (l : List Rw) (a b : Int) (hl : l.length ≤ 1048576) (d : Nat) : ∀ (i : Nat) (out : List It), i + d = l.length → out.length ≤ i →
    Ev (fun k => spec_BatchAt.l0 k l out (i : Int) a b) (itemsOf (out ++ rowsAt (l.drop i) a b)) := by
  induction d with
  | zero =>
    intro i out hi ho
    rw [List.drop_eq_nil_of_le (by omega)]
    refine Ev.step (fun k => by rw [spec_BatchAt.l0]) (Ev.congr (fun k => if_neg (by omega)) ?_)
    refine Ev.bind (s_items out (by omega)) ?_
    simpa [rowsAt] using Ev.now _
  | succ d ih =>
    intro i out hi ho
    refine Ev.step (fun k => by rw [spec_BatchAt.l0]) (Ev.congr (fun k => (if_pos (by omega)).trans (if_pos (by omega))) ?_)
    refine Ev.bind ⟨0, fun k _ => s_less _ _ _ _⟩ ?_
    rw [up1 (by omega : i < l.length) (by omega), rdR_drop (by omega : i < l.length)]
    cases h : leT (rd_T67 l (i : Int)).f2.f0 (rd_T67 l (i : Int)).f2.f1 a b with
    | true =>
      rw [show rowsAt (rd_T67 l (i : Int) :: l.drop (i + 1)) a b = itR (rd_T67 l (i : Int)) :: rowsAt (l.drop (i + 1)) a b by simp [rowsAt, h]]
      have := ih (i + 1) (out ++ [itR (rd_T67 l (i : Int))]) (by omega) (by simp; omega)
      exact Ev.congr (fun k => (if_pos rfl).trans (if_pos (by omega))) (by simpa [itR] using this)
    | false =>
      rw [show rowsAt (rd_T67 l (i : Int) :: l.drop (i + 1)) a b = rowsAt (l.drop (i + 1)) a b by simp [rowsAt, h]]
      exact Ev.congr (fun k => if_neg (by simp)) (ih (i + 1) out (by omega) (by omega))
theorem s_batchAt (l : List Rw) (a b : Int) (hl : l.length ≤ 1048576) : Ev (fun k => spec_BatchAt.f k l a b) (batchAt l a b) := by
  unfold spec_BatchAt.f batchAt
  refine Ev.bind (Ev.now _) (Ev.bind (s_rows l hl) ?_)
  have out : Ev (fun k => spec_BatchAt.j0 k l [] true a b) [] := by
    refine Ev.step (fun k => by rw [spec_BatchAt.j0]) ?_
    exact Ev.congr (fun k => if_pos rfl) (Ev.now _)
  cases rowsOk l with
  | false => exact Ev.congr (fun k => if_neg (by simp)) out
  | true =>
    refine Ev.congr (fun k => if_pos rfl) (Ev.bind ⟨0, fun k _ => s_ok _ _⟩ ?_)
    cases okT a b with
    | false => exact out
    | true =>
      refine Ev.step (fun k => by rw [spec_BatchAt.j0]) (Ev.congr (fun k => if_neg (by simp)) ?_)
      simpa using at_loop l a b hl l.length 0 [] (by omega) (by simp)

/-! collections -/
def itOk (x : It) : Bool := decide (0 ≤ x.f0 ∧ x.f0 ≤ 3) && (decide (0 ≤ x.f1 ∧ x.f1 ≤ 99) && ((x.f2 != 0) && decide (-1099511627776 ≤ x.f2 ∧ x.f2 ≤ 1099511627776)))
def ilt (x y : It) : Bool := decide (x.f0 < y.f0 ∨ x.f0 = y.f0 ∧ x.f1 < y.f1)
def sOk1 (p : It) : List It → Bool
  | [] => true
  | y :: r => itOk y && ilt p y && sOk1 y r
def sOk : List It → Bool
  | [] => true
  | x :: r => itOk x && sOk1 x r
def setOk (l : List It) : Bool := decide (l.length ≤ 400) && sOk l

theorem s_l3Item (x : It) : spec_l3Item.f x.f0 x.f1 x.f2 = some (decide (0 ≤ x.f0 ∧ x.f0 ≤ 3) && (decide (0 ≤ x.f1 ∧ x.f1 ≤ 99) && (x.f2 != 0))) := by
  unfold spec_l3Item.f
  simp only [s_in, Option.bind_some]
  cases decide (0 ≤ x.f0 ∧ x.f0 ≤ 3) <;> cases decide (0 ≤ x.f1 ∧ x.f1 ≤ 99) <;> rfl
theorem s_set_loop (l : List It) (hl : l.length ≤ 1048576) (d : Nat) : ∀ i : Nat, i + 1 + d = l.length → Ev (fun k => spec_SetOk.l0 k l ((i + 1 : Nat) : Int)) (sOk1 (rd_T60 l (i : Int)) (l.drop (i + 1))) := by
  induction d with
  | zero =>
    intro i hi
    refine Ev.step (fun k => by rw [spec_SetOk.l0]) (Ev.congr (fun k => if_neg (by omega)) ?_)
    rw [List.drop_eq_nil_of_le (by omega)]
    exact Ev.now _
  | succ d ih =>
    intro i hi
    rw [rdI_drop (by omega : i + 1 < l.length)]
    unfold sOk1
    have e : wrap64 (((i + 1 : Nat) : Int) - 1) = (i : Int) := by rw [w64 (by omega) (by omega)]; omega
    have e2 : wrap64 (-1099511627776) = -1099511627776 := w64 (by omega) (by omega)
    refine Ev.step (fun k => by rw [spec_SetOk.l0]) (Ev.congr (fun k => (if_pos (by omega)).trans (if_pos (by omega))) ?_)
    refine Ev.bind ⟨0, fun k _ => s_l3Item _⟩ ?_
    rw [e, up1 (by omega : i + 1 < l.length) (by omega)]
    have ih' := ih (i + 1) (by omega)
    generalize rd_T60 l ((i + 1 : Nat) : Int) = y at *
    generalize rd_T60 l (i : Int) = p at *
    have no : itOk y = false → Ev (fun _ : Nat => some false) (itOk y && ilt p y && sOk1 y (l.drop (i + 1 + 1))) := fun h => by rw [h]; exact Ev.now _
    cases c1 : (decide (0 ≤ y.f0 ∧ y.f0 ≤ 3) && (decide (0 ≤ y.f1 ∧ y.f1 ≤ 99) && (y.f2 != 0))) with
    | false => exact Ev.congr (fun k => if_neg (by simp)) (no (by
        unfold itOk
        rw [← Bool.and_assoc, ← Bool.and_assoc, Bool.and_assoc (decide _) (decide _), c1, Bool.false_and]))
    | true =>
      refine Ev.congr (fun k => if_pos rfl) (Ev.bind (Ev.now _) (Ev.bind (Ev.now _) (Ev.bind ⟨0, fun k _ => s_in _ _ _⟩ ?_)))
      rw [e2]
      have ei : itOk y = decide (-1099511627776 ≤ y.f2 ∧ y.f2 ≤ 1099511627776) := by
        unfold itOk
        rw [← Bool.and_assoc, ← Bool.and_assoc, Bool.and_assoc (decide _) (decide _), c1, Bool.true_and]
      cases c2 : decide (-1099511627776 ≤ y.f2 ∧ y.f2 ≤ 1099511627776) with
      | false => exact Ev.congr (fun k => if_neg (by simp)) (no (by rw [ei, c2]))
      | true =>
        rw [ei, c2, Bool.true_and]
        refine Ev.congr (fun k => (if_pos rfl).trans ((if_pos (by omega)).trans ((if_pos (by omega)).trans (if_pos (by omega))))) ?_
        by_cases h1 : p.f0 > y.f0
        · refine Ev.congr (fun k => if_pos h1) ?_
          rw [show ilt p y = false from decide_eq_false (by omega)]
          exact Ev.now _
        · refine Ev.congr (fun k => if_neg h1) ?_
          by_cases h2 : p.f0 = y.f0
          · refine Ev.congr (fun k => if_pos h2) ?_
            by_cases h3 : p.f1 ≥ y.f1
            · refine Ev.congr (fun k => if_pos h3) ?_
              rw [show ilt p y = false from decide_eq_false (by omega)]
              exact Ev.now _
            · refine Ev.congr (fun k => if_neg h3) ?_
              rw [show ilt p y = true from decide_eq_true (by omega)]
              exact ih'
          · refine Ev.congr (fun k => if_neg h2) ?_
            rw [show ilt p y = true from decide_eq_true (by omega)]
            exact ih'
theorem s_set (l : List It) (hl : l.length ≤ 1048576) : Ev (fun k => spec_SetOk.f k l) (setOk l) := by
  unfold spec_SetOk.f setOk
  by_cases h : (l.length : Int) > 400
  · rw [decide_eq_false (by omega)]
    exact Ev.congr (fun k => if_pos h) (Ev.now _)
  rw [decide_eq_true (by omega), Bool.true_and]
  refine Ev.congr (fun k => if_neg h) ?_
  cases l with
  | nil =>
    refine Ev.step (fun k => by rw [spec_SetOk.l0]) ?_
    exact (Ev.congr (fun k => if_neg (by simp)) (Ev.now _))
  | cons x r =>
    refine Ev.step (fun k => by rw [spec_SetOk.l0]) (Ev.congr (fun k => (if_pos (by simp)).trans (if_pos (by omega))) ?_)
    have e2 : wrap64 (-1099511627776) = -1099511627776 := w64 (by omega) (by omega)
    refine Ev.bind ⟨0, fun k _ => s_l3Item _⟩ ?_
    have hx : rd_T60 (x :: r) 0 = x := rfl
    rw [hx]
    rw [show sOk (x :: r) = (itOk x && sOk1 x r) from rfl]
    cases c1 : (decide (0 ≤ x.f0 ∧ x.f0 ≤ 3) && (decide (0 ≤ x.f1 ∧ x.f1 ≤ 99) && (x.f2 != 0))) with
    | false =>
      rw [show itOk x = false from by
        unfold itOk
        rw [← Bool.and_assoc, ← Bool.and_assoc, Bool.and_assoc (decide _) (decide _), c1, Bool.false_and]]
      exact Ev.now _
    | true =>
      refine Ev.congr (fun k => if_pos rfl) (Ev.bind (Ev.now _) (Ev.bind (Ev.now _) (Ev.bind ⟨0, fun k _ => s_in _ _ _⟩ ?_)))
      rw [e2]
      have ei : itOk x = decide (-1099511627776 ≤ x.f2 ∧ x.f2 ≤ 1099511627776) := by
        unfold itOk
        rw [← Bool.and_assoc, ← Bool.and_assoc, Bool.and_assoc (decide _) (decide _), c1, Bool.true_and]
      rw [ei]
      cases c2 : decide (-1099511627776 ≤ x.f2 ∧ x.f2 ≤ 1099511627776) with
      | false => exact Ev.now _
      | true =>
        refine Ev.congr (fun k => (if_pos rfl).trans (if_neg (by omega))) ?_
        have := s_set_loop (x :: r) hl r.length 0 (by simp; omega)
        simpa [w64, hx] using this

theorem i_set_tests {g : Nat → Bool → Option Bool} {y : It} {r : Bool} (cont : ∀ b : Bool, (b = true ↔ itOk y = false) → Ev (fun k => g k b) r) :
    Ev (fun k => if y.f0 < 0 then g k true else if y.f0 ≥ 4 then g k true else if y.f1 < 0 then g k true else if y.f1 ≥ 100 then g k true else if y.f2 = 0 then g k true else if y.f2 < (-1099511627776) then g k true else g k (decide (y.f2 > 1099511627776))) r := by
  have no : itOk y = false → Ev (fun k => g k true) r := fun h => cont true ⟨fun _ => h, fun _ => rfl⟩
  by_cases c0 : y.f0 < 0
  · exact Ev.congr (fun k => if_pos c0) (no (by simp [itOk]; omega))
  refine Ev.congr (fun k => if_neg c0) ?_
  by_cases c1 : y.f0 ≥ 4
  · exact Ev.congr (fun k => if_pos c1) (no (by simp [itOk]; omega))
  refine Ev.congr (fun k => if_neg c1) ?_
  by_cases c2 : y.f1 < 0
  · exact Ev.congr (fun k => if_pos c2) (no (by simp [itOk]; omega))
  refine Ev.congr (fun k => if_neg c2) ?_
  by_cases c3 : y.f1 ≥ 100
  · exact Ev.congr (fun k => if_pos c3) (no (by simp [itOk]; omega))
  refine Ev.congr (fun k => if_neg c3) ?_
  by_cases c4 : y.f2 = 0
  · exact Ev.congr (fun k => if_pos c4) (no (by simp [itOk, c4]))
  refine Ev.congr (fun k => if_neg c4) ?_
  by_cases c5 : y.f2 < (-1099511627776)
  · exact Ev.congr (fun k => if_pos c5) (no (by simp [itOk]; omega))
  refine Ev.congr (fun k => if_neg c5) (cont _ ?_)
  rw [decide_eq_true_eq]
  simp [itOk]
  omega

theorem i_set_loop (l : List It) (hl : l.length ≤ 1048576) (d : Nat) : ∀ i : Nat, i + 1 + d = l.length → Ev (fun k => impl_SetOk.l0 k l l (l.length : Int) ((i + 1 : Nat) : Int)) (sOk1 (rd_T60 l (i : Int)) (l.drop (i + 1)) && decide (l.length ≤ 400)) := by
  induction d with
  | zero =>
    intro i hi
    refine Ev.step (fun k => by rw [impl_SetOk.l0]) (Ev.congr (fun k => if_neg (by omega)) ?_)
    rw [List.drop_eq_nil_of_le (by omega)]
    have : decide ((l.length : Int) ≤ 400) = decide (l.length ≤ 400) := by rw [decide_eq_decide]; omega
    rw [this]
    exact Ev.now _
  | succ d ih =>
    intro i hi
    rw [rdI_drop (by omega : i + 1 < l.length)]
    unfold sOk1
    have e : wrap64 (((i + 1 : Nat) : Int) - 1) = (i : Int) := by rw [w64 (by omega) (by omega)]; omega
    refine Ev.step (fun k => by rw [impl_SetOk.l0]) (Ev.congr (fun k => (if_pos (by omega)).trans ((if_pos (by omega)).trans (if_pos (by omega)))) ?_)
    have ih' := ih (i + 1) (by omega)
    have cont : ∀ b : Bool, (b = true ↔ itOk (rd_T60 l ((i + 1 : Nat) : Int)) = false) →
        Ev (fun k => impl_SetOk.j1 k l ((i + 1 : Nat) : Int) l (l.length : Int) ((i + 1 : Nat) : Int) b (rd_T60 l ((i + 1 : Nat) : Int)).f0 (rd_T60 l ((i + 1 : Nat) : Int)).f1 (rd_T60 l ((i + 1 : Nat) : Int)).f2)
          (itOk (rd_T60 l ((i + 1 : Nat) : Int)) && ilt (rd_T60 l (i : Int)) (rd_T60 l ((i + 1 : Nat) : Int)) && sOk1 (rd_T60 l ((i + 1 : Nat) : Int)) (l.drop (i + 1 + 1)) && decide (l.length ≤ 400)) := by
      intro b hb
      refine Ev.step (fun k => by rw [impl_SetOk.j1]) ?_
      rw [e, up1 (by omega : i + 1 < l.length) (by omega)]
      generalize rd_T60 l ((i + 1 : Nat) : Int) = y at *
      generalize rd_T60 l (i : Int) = p at *
      cases b with
      | true =>
        rw [hb.1 rfl]
        exact Ev.now _
      | false =>
        have hy : itOk y = true := by
          cases h : itOk y with
          | true => rfl
          | false => exact absurd (hb.2 h) (by simp)
        rw [hy, Bool.true_and]
        refine Ev.congr (fun k => (if_neg (by simp)).trans ((if_pos (by omega)).trans ((if_pos (by omega)).trans (if_pos (by omega))))) ?_
        by_cases h1 : p.f0 > y.f0
        · refine Ev.congr (fun k => if_pos h1) ?_
          rw [show ilt p y = false from decide_eq_false (by omega)]
          exact Ev.now _
        · refine Ev.congr (fun k => if_neg h1) ?_
          by_cases h2 : p.f0 = y.f0
          · refine Ev.congr (fun k => if_pos h2) ?_
            by_cases h3 : p.f1 ≥ y.f1
            · refine Ev.congr (fun k => if_pos h3) ?_
              rw [show ilt p y = false from decide_eq_false (by omega)]
              exact Ev.now _
            · refine Ev.congr (fun k => if_neg h3) ?_
              rw [show ilt p y = true from decide_eq_true (by omega)]
              exact ih'
          · refine Ev.congr (fun k => if_neg h2) ?_
            rw [show ilt p y = true from decide_eq_true (by omega)]
            exact ih'
    exact i_set_tests (y := rd_T60 l ((i + 1 : Nat) : Int)) (g := fun k b => impl_SetOk.j1 k l ((i + 1 : Nat) : Int) l (l.length : Int) ((i + 1 : Nat) : Int) b (rd_T60 l ((i + 1 : Nat) : Int)).f0 (rd_T60 l ((i + 1 : Nat) : Int)).f1 (rd_T60 l ((i + 1 : Nat) : Int)).f2) cont
theorem i_set (l : List It) (hl : l.length ≤ 1048576) : Ev (fun k => impl_SetOk.f k l) (setOk l) := by
  unfold impl_SetOk.f setOk
  cases l with
  | nil =>
    refine Ev.step (fun k => by rw [impl_SetOk.l0]) ?_
    exact (Ev.congr (fun k => if_neg (by simp)) (Ev.now _))
  | cons x r =>
    refine Ev.step (fun k => by rw [impl_SetOk.l0]) (Ev.congr (fun k => (if_pos (by simp)).trans ((if_pos (by omega)).trans (if_pos (by simp)))) ?_)
    have hx : rd_T60 (x :: r) 0 = x := rfl
    rw [hx]
    refine i_set_tests (y := x) (g := fun k b => impl_SetOk.j1 k (x :: r) 0 (x :: r) ((x :: r).length : Int) 0 b x.f0 x.f1 x.f2) fun b hb => ?_
    refine Ev.step (fun k => by rw [impl_SetOk.j1]) ?_
    rw [show sOk (x :: r) = (itOk x && sOk1 x r) from rfl]
    cases b with
    | true =>
      rw [hb.1 rfl, Bool.false_and, Bool.and_false]
      exact Ev.now _
    | false =>
      have hy : itOk x = true := by
        cases h : itOk x with
        | true => rfl
        | false => exact absurd (hb.2 h) (by simp)
      rw [hy, Bool.true_and, Bool.and_comm]
      refine Ev.congr (fun k => (if_neg (by simp)).trans (if_neg (by omega))) ?_
      have := i_set_loop (x :: r) hl r.length 0 (by simp; omega)
      simpa [w64, hx] using this

/-! the sums of the reference, key by key -/
theorem l3Sum_ev (l : List It) (hl : l.length ≤ 1048576) (kind : Int) (g : Int → List It) (hg : ∀ key, Ev (fun k => spec_l3Key.f k l key kind) (g key)) (hlen : ∀ key, (g key).length ≤ 1048576) :
    Ev (fun k => spec_l3Sum.f k l kind) (if setOk l then g 0 ++ (g 1 ++ (g 2 ++ g 3)) else []) := by
  unfold spec_l3Sum.f
  have h0 := hlen 0; have h1 := hlen 1; have h2 := hlen 2; have h3 := hlen 3
  have e1 : wrap64 (0 + 1) = 1 := by unfold wrap64; omega
  have e2 : wrap64 (1 + 1) = 2 := by unfold wrap64; omega
  have e3 : wrap64 (2 + 1) = 3 := by unfold wrap64; omega
  have e4 : wrap64 (3 + 1) = 4 := by unfold wrap64; omega
  refine Ev.step (fun k => by rw [spec_l3Sum.l0]) (Ev.congr (fun k => if_pos (by omega)) (Ev.bind (s_set l hl) ?_))
  cases hok : setOk l with
  | false => exact Ev.now _
  | true =>
    refine Ev.congr (fun k => if_pos rfl) (Ev.bind (hg 0) (Ev.congr (fun k => if_pos (by simp; omega)) ?_))
    rw [e1]
    refine Ev.step (fun k => by rw [spec_l3Sum.l0]) (Ev.congr (fun k => if_pos (by omega)) (Ev.bind (s_set l hl) ?_))
    rw [hok]
    refine Ev.congr (fun k => if_pos rfl) (Ev.bind (hg 1) (Ev.congr (fun k => if_pos (by simp; omega)) ?_))
    rw [e2]
    refine Ev.step (fun k => by rw [spec_l3Sum.l0]) (Ev.congr (fun k => if_pos (by omega)) (Ev.bind (s_set l hl) ?_))
    rw [hok]
    refine Ev.congr (fun k => if_pos rfl) (Ev.bind (hg 2) (Ev.congr (fun k => if_pos (by simp; omega)) ?_))
    rw [e3]
    refine Ev.step (fun k => by rw [spec_l3Sum.l0]) (Ev.congr (fun k => if_pos (by omega)) (Ev.bind (s_set l hl) ?_))
    rw [hok]
    refine Ev.congr (fun k => if_pos rfl) (Ev.bind (hg 3) (Ev.congr (fun k => if_pos (by simp; omega)) ?_))
    rw [e4]
    refine Ev.step (fun k => by rw [spec_l3Sum.l0]) (Ev.congr (fun k => if_neg (by omega)) ?_)
    simpa [List.append_assoc] using Ev.now _

/-! a collection is in order -/
theorem sOk1_facts {p : It} {l : List It} (h : sOk1 p l = true) : (∀ x ∈ l, itOk x = true) ∧ (p :: l).Pairwise (fun x y => ilt x y = true) := by
  induction l generalizing p with
  | nil => exact ⟨fun x hx => by simp at hx, List.pairwise_singleton _ _⟩
  | cons y r ih =>
    simp only [sOk1, Bool.and_eq_true] at h
    obtain ⟨⟨h1, h2⟩, h3⟩ := h
    obtain ⟨g1, g2⟩ := ih h3
    refine ⟨fun x hx => ?_, List.pairwise_cons.2 ⟨fun x hx => ?_, g2⟩⟩
    · rcases List.mem_cons.1 hx with rfl | hx
      · exact h1
      · exact g1 x hx
    · rcases List.mem_cons.1 hx with rfl | hx
      · exact h2
      · have h4 := (List.pairwise_cons.1 g2).1 x hx
        simp only [ilt, decide_eq_true_eq] at h2 h4 ⊢
        omega
theorem setOk_facts {l : List It} (h : setOk l = true) : l.length ≤ 400 ∧ (∀ x ∈ l, itOk x = true) ∧ l.Pairwise (fun x y => ilt x y = true) := by
  unfold setOk at h
  simp only [Bool.and_eq_true, decide_eq_true_eq] at h
  refine ⟨h.1, ?_⟩
  cases l with
  | nil => exact ⟨fun x hx => by simp at hx, List.Pairwise.nil⟩
  | cons x r =>
    have h2 := h.2
    simp only [sOk, Bool.and_eq_true] at h2
    obtain ⟨g1, g2⟩ := sOk1_facts h2.2
    refine ⟨fun y hy => ?_, g2⟩
    rcases List.mem_cons.1 hy with rfl | hy
    · exact h2.1
    · exact g1 y hy
theorem itOk_key {x : It} (h : itOk x = true) : 0 ≤ x.f0 ∧ x.f0 ≤ 3 := by
  simp only [itOk, Bool.and_eq_true, decide_eq_true_eq] at h
  exact h.1
/-- A list in order, cut by its keys, is the list. -/
theorem by_keys {l : List It} (hk : ∀ x ∈ l, 0 ≤ x.f0 ∧ x.f0 ≤ 3) (hs : l.Pairwise fun x y => x.f0 ≤ y.f0) :
    l.filter (fun x => x.f0 == 0) ++ (l.filter (fun x => x.f0 == 1) ++ (l.filter (fun x => x.f0 == 2) ++ l.filter (fun x => x.f0 == 3))) = l := by
  induction l with
  | nil => rfl
  | cons y r ih =>
    have ih' := ih (fun x hx => hk x (List.mem_cons_of_mem _ hx)) (List.pairwise_cons.1 hs).2
    have hge := (List.pairwise_cons.1 hs).1
    have low : ∀ k : Int, k < y.f0 → r.filter (fun x => x.f0 == k) = [] := fun k hk2 => by
      rw [List.filter_eq_nil_iff]
      intro x hx
      have := hge x hx
      simp only [beq_iff_eq]
      omega
    have hy := hk y List.mem_cons_self
    have c : y.f0 = 0 ∨ y.f0 = 1 ∨ y.f0 = 2 ∨ y.f0 = 3 := by omega
    rcases c with c | c | c | c
    · simp only [List.filter_cons, c]
      simpa using ih'
    · have l0 := low 0 (by omega)
      rw [l0] at ih'
      simp only [List.filter_cons, c, l0]
      simpa using ih'
    · have l0 := low 0 (by omega)
      have l1 := low 1 (by omega)
      rw [l0, l1] at ih'
      simp only [List.filter_cons, c, l0, l1]
      simpa using ih'
    · have l0 := low 0 (by omega)
      have l1 := low 1 (by omega)
      have l2 := low 2 (by omega)
      rw [l0, l1, l2] at ih'
      simp only [List.filter_cons, c, l0, l1, l2]
      simpa using ih'

/-! SetOnce -/
def onI (x : It) : It := ⟨x.f0, x.f1, 1⟩
def onceL (l : List It) : List It := (l.filter fun x => decide (x.f2 > 0)).map onI
def setOnce (l : List It) : List It := if setOk l then onceL l else []
theorem i_once_loop (l : List It) (hl : l.length ≤ 1048576) (d : Nat) : ∀ (i : Nat) (out : List It), i + d = l.length → out.length ≤ i →
    Ev (fun k => impl_once.l0 k out l (l.length : Int) (i : Int)) (out ++ onceL (l.drop i)) := by
  induction d with
  | zero =>
    intro i out hi _
    rw [List.drop_eq_nil_of_le (by omega)]
    refine Ev.step (fun k => by rw [impl_once.l0]) (Ev.congr (fun k => if_neg (by omega)) ?_)
    simpa [onceL] using Ev.now out
  | succ d ih =>
    intro i out hi ho
    refine Ev.step (fun k => by rw [impl_once.l0]) (Ev.congr (fun k => (if_pos (by omega)).trans ((if_pos (by omega)).trans (if_pos (by omega)))) ?_)
    rw [up1 (by omega : i < l.length) (by omega), rdI_drop (by omega : i < l.length)]
    by_cases h : (rd_T60 l (i : Int)).f2 > 0
    · have := ih (i + 1) (out ++ [onI (rd_T60 l (i : Int))]) (by omega) (by simp; omega)
      rw [show onceL (rd_T60 l (i : Int) :: l.drop (i + 1)) = onI (rd_T60 l (i : Int)) :: onceL (l.drop (i + 1)) by simp [onceL, h]]
      exact Ev.congr (fun k => (if_pos h).trans (if_pos (by omega))) (by simpa [onI] using this)
    · rw [show onceL (rd_T60 l (i : Int) :: l.drop (i + 1)) = onceL (l.drop (i + 1)) by simp [onceL, h]]
      exact Ev.congr (fun k => if_neg h) (ih (i + 1) out (by omega) (by omega))
theorem i_once (l : List It) (hl : l.length ≤ 1048576) : Ev (fun k => impl_once.f k l) (onceL l) := by
  unfold impl_once.f
  simpa using i_once_loop l hl l.length 0 [] (by omega) (by simp)
theorem onceL_len (l : List It) : (onceL l).length ≤ l.length := by
  unfold onceL
  rw [List.length_map]
  exact List.length_filter_le _ _

theorem i_setonce (l : List It) (hl : l.length ≤ 1048576) : Ev (fun k => impl_SetOnce.f k l) (setOnce l) := by
  unfold impl_SetOnce.f setOnce
  refine Ev.bind (i_set l hl) ?_
  cases hok : setOk l with
  | false => exact Ev.now _
  | true => exact Ev.congr (fun k => if_pos rfl) (Ev.bind (i_once l hl) (Ev.now _))
theorem setOnce_len (l : List It) (hl : l.length ≤ 1048576) : (setOnce l).length ≤ 1048576 := by
  unfold setOnce
  split
  · exact Nat.le_trans (onceL_len _) hl
  · simp

theorem once_keys {l : List It} (h : setOk l = true) :
    onceL (l.filter fun x => x.f0 == 0) ++ (onceL (l.filter fun x => x.f0 == 1) ++ (onceL (l.filter fun x => x.f0 == 2) ++ onceL (l.filter fun x => x.f0 == 3))) = onceL l := by
  obtain ⟨_, h2, h3⟩ := setOk_facts h
  have app : ∀ a b : List It, onceL a ++ onceL b = onceL (a ++ b) := fun a b => by simp [onceL]
  rw [app, app, app, by_keys (fun x hx => itOk_key (h2 x hx)) (h3.imp fun hxy => by simp only [ilt, decide_eq_true_eq] at hxy; omega)]

/-! SetLeast -/
def lstI : Option Int → List It → List It
  | _, [] => []
  | p, x :: r => if p = some x.f0 then lstI p r else x :: lstI (some x.f0) r
def leastL (l : List It) : List It := lstI none (onceL l)
def setLeast (l : List It) : List It := if setOk l then leastL l else []
theorem lst_sub (l : List It) : ∀ p, (lstI p l).Sublist l := by
  induction l with
  | nil => intro p; exact List.Sublist.refl _
  | cons x r ih =>
    intro p
    unfold lstI
    split
    · exact (ih p).cons x
    · exact (ih _).cons_cons x
theorem leastL_len (l : List It) : (leastL l).length ≤ l.length := Nat.le_trans (lst_sub _ _).length_le (onceL_len l)
theorem setLeast_len (l : List It) (hl : l.length ≤ 1048576) : (setLeast l).length ≤ 1048576 := by
  unfold setLeast
  split
  · exact Nat.le_trans (leastL_len l) hl
  · simp
theorem rd_last (pre : List It) (y : It) (h : pre.length ≤ 1048576) : wrap64 (((pre ++ [y]).length : Int) - 1) = (pre.length : Int) ∧ rd_T60 (pre ++ [y]) (pre.length : Int) = y := by
  have e : (pre ++ [y]).length = pre.length + 1 := by simp
  refine ⟨by rw [w64 (by omega) (by omega)]; omega, ?_⟩
  have := rdI_drop (xs := pre ++ [y]) (i := pre.length) (by simp)
  rw [List.drop_left] at this
  exact (List.cons.inj this).1.symm
/-- the last key of what is there -/
def lastK (out : List It) (p : Option Int) : Prop := (out = [] ∧ p = none) ∨ ∃ pre y, out = pre ++ [y] ∧ p = some y.f0
theorem i_least_loop (t : List It) (hl : t.length ≤ 1048576) (d : Nat) : ∀ (i : Nat) (out : List It) (p : Option Int), i + d = t.length → out.length ≤ i → lastK out p →
    Ev (fun k => impl_leastOf.l0 k out t (t.length : Int) (i : Int)) (out ++ lstI p (t.drop i)) := by
  induction d with
  | zero =>
    intro i out p hi _ _
    rw [List.drop_eq_nil_of_le (by omega)]
    refine Ev.step (fun k => by rw [impl_leastOf.l0]) (Ev.congr (fun k => if_neg (by omega)) ?_)
    simpa [lstI] using Ev.now out
  | succ d ih =>
    intro i out p hi ho hp
    refine Ev.step (fun k => by rw [impl_leastOf.l0]) (Ev.congr (fun k => (if_pos (by omega)).trans ((if_pos (by omega)).trans (if_pos (by omega)))) ?_)
    rw [up1 (by omega : i < t.length) (by omega), rdI_drop (by omega : i < t.length)]
    generalize rd_T60 t (i : Int) = x
    have add : p ≠ some x.f0 → Ev (fun k => impl_leastOf.l0 k (out ++ [x]) t (t.length : Int) ((i + 1 : Nat) : Int)) (out ++ lstI p (x :: t.drop (i + 1))) := fun hne => by
      rw [show lstI p (x :: t.drop (i + 1)) = x :: lstI (some x.f0) (t.drop (i + 1)) from if_neg hne]
      have := ih (i + 1) (out ++ [x]) (some x.f0) (by omega) (by simp; omega) (.inr ⟨out, x, rfl, rfl⟩)
      simpa using this
    rcases hp with ⟨h1, h2⟩ | ⟨pre, y, h1, h2⟩
    · exact Ev.congr (fun k => (if_pos (by rw [h1]; rfl)).trans (if_pos (by omega))) (add (by rw [h2]; simp))
    · have hlen : out.length = pre.length + 1 := by rw [h1]; simp
      obtain ⟨e1, e2⟩ := rd_last pre y (by omega)
      rw [← h1] at e1 e2
      rw [e1, e2]
      refine Ev.congr (fun k => (if_neg (by omega)).trans ((if_pos (by omega)).trans (if_pos (by omega)))) ?_
      by_cases hk : y.f0 = x.f0
      · refine Ev.congr (fun k => if_pos hk) ?_
        rw [show lstI p (x :: t.drop (i + 1)) = lstI p (t.drop (i + 1)) by rw [lstI, if_pos (by rw [h2, hk])]]
        exact ih (i + 1) out p (by omega) (by omega) (.inr ⟨pre, y, h1, h2⟩)
      · exact Ev.congr (fun k => (if_neg hk).trans (if_pos (by omega))) (add (by rw [h2]; simpa using hk))
theorem i_leastof (l : List It) (hl : l.length ≤ 1048576) : Ev (fun k => impl_leastOf.f k l) (leastL l) := by
  unfold impl_leastOf.f leastL
  have := onceL_len l
  refine Ev.bind (i_once l hl) ?_
  simpa using i_least_loop (onceL l) (by omega) (onceL l).length 0 [] none (by omega) (by simp) (.inl ⟨rfl, rfl⟩)
theorem i_setleast (l : List It) (hl : l.length ≤ 1048576) : Ev (fun k => impl_SetLeast.f k l) (setLeast l) := by
  unfold impl_SetLeast.f setLeast
  refine Ev.bind (i_set l hl) ?_
  cases hok : setOk l with
  | false => exact Ev.now _
  | true => exact Ev.congr (fun k => if_pos rfl) (Ev.bind (i_leastof l hl) (Ev.now _))
theorem key3_done (l : List It) (hl : l.length ≤ 1048576) (key : Int) (d : Nat) : ∀ (i : Nat) (out : List It) (n : Int), i + d = l.length → out ≠ [] →
    Ev (fun k => spec_l3Key.l0 k l key 3 out n (i : Int)) out := by
  induction d with
  | zero =>
    intro i out n hi _
    refine Ev.step (fun k => by rw [spec_l3Key.l0]) ?_
    exact (Ev.congr (fun k => (if_neg (by omega)).trans (if_neg (by omega))) (Ev.now out))
  | succ d ih =>
    intro i out n hi ho
    refine Ev.step (fun k => by rw [spec_l3Key.l0]) (Ev.congr (fun k => (if_pos (by omega)).trans (if_pos (by omega))) ?_)
    rw [up1 (by omega : i < l.length) (by omega)]
    have hz : ¬ (out.length : Int) = 0 := fun h => ho (List.eq_nil_of_length_eq_zero (by omega))
    generalize rd_T60 l (i : Int) = x
    by_cases h1 : x.f0 = key
    · refine Ev.congr (fun k => if_pos h1) ?_
      by_cases h : x.f2 > 0
      · exact Ev.congr (fun k => (if_pos h).trans ((if_neg (by omega)).trans ((if_pos rfl).trans (if_neg hz)))) (ih (i + 1) out _ (by omega) ho)
      · exact Ev.congr (fun k => if_neg h) (ih (i + 1) out _ (by omega) ho)
    · exact Ev.congr (fun k => if_neg h1) (ih (i + 1) out _ (by omega) ho)
theorem key3_loop (l : List It) (hl : l.length ≤ 1048576) (key : Int) (d : Nat) : ∀ (i : Nat) (n : Int), i + d = l.length →
    Ev (fun k => spec_l3Key.l0 k l key 3 [] n (i : Int)) ((onceL ((l.drop i).filter fun x => x.f0 == key)).take 1) := by
  induction d with
  | zero =>
    intro i n hi
    rw [List.drop_eq_nil_of_le (by omega)]
    refine Ev.step (fun k => by rw [spec_l3Key.l0]) (Ev.congr (fun k => (if_neg (by omega)).trans (if_neg (by omega))) ?_)
    exact Ev.now _
  | succ d ih =>
    intro i n hi
    refine Ev.step (fun k => by rw [spec_l3Key.l0]) (Ev.congr (fun k => (if_pos (by omega)).trans (if_pos (by omega))) ?_)
    rw [up1 (by omega : i < l.length) (by omega), rdI_drop (by omega : i < l.length)]
    generalize hx : rd_T60 l (i : Int) = x
    by_cases h1 : x.f0 = key
    · rw [List.filter_cons_of_pos (by simpa using h1)]
      refine Ev.congr (fun k => if_pos h1) ?_
      by_cases h : x.f2 > 0
      · rw [show onceL (x :: (l.drop (i + 1)).filter fun x => x.f0 == key) = onI x :: onceL ((l.drop (i + 1)).filter fun x => x.f0 == key) by simp [onceL, h]]
        refine Ev.congr (fun k => (if_pos h).trans ((if_neg (by omega)).trans ((if_pos rfl).trans ((if_pos rfl).trans (if_pos (by simp)))))) ?_
        subst h1
        have := key3_done l hl x.f0 d (i + 1) [onI x] (wrap64 (n + x.f2)) (by omega) (by simp)
        simpa [onI] using this
      · rw [show onceL (x :: (l.drop (i + 1)).filter fun x => x.f0 == key) = onceL ((l.drop (i + 1)).filter fun x => x.f0 == key) by simp [onceL, h]]
        exact Ev.congr (fun k => if_neg h) (ih (i + 1) _ (by omega))
    · rw [List.filter_cons_of_neg (by simpa using h1)]
      exact Ev.congr (fun k => if_neg h1) (ih (i + 1) _ (by omega))
theorem lst_skip (c : Int) (A B : List It) (h : ∀ x ∈ A, x.f0 = c) : lstI (some c) (A ++ B) = lstI (some c) B := by
  induction A with
  | nil => rfl
  | cons x r ih =>
    rw [List.cons_append, lstI, if_pos (by rw [h x List.mem_cons_self])]
    exact ih fun y hy => h y (List.mem_cons_of_mem _ hy)
theorem lst_app (c : Int) (p : Option Int) (A B : List It) (h : ∀ x ∈ A, x.f0 = c) (hp : p ≠ some c) : ∃ q, (q = p ∨ q = some c) ∧ lstI p (A ++ B) = A.take 1 ++ lstI q B := by
  cases A with
  | nil => exact ⟨p, .inl rfl, rfl⟩
  | cons x r =>
    have hx := h x List.mem_cons_self
    refine ⟨some c, .inr rfl, ?_⟩
    rw [List.cons_append, lstI, if_neg (by rw [hx]; exact hp), hx, lst_skip c r B fun y hy => h y (List.mem_cons_of_mem _ hy)]
    rfl
theorem once_key (c : Int) (l : List It) : ∀ x ∈ onceL (l.filter fun x => x.f0 == c), x.f0 = c := by
  intro x hx
  simp only [onceL, List.mem_map, List.mem_filter, beq_iff_eq] at hx
  obtain ⟨y, ⟨⟨_, h⟩, _⟩, rfl⟩ := hx
  exact h
theorem least_keys {l : List It} (h : setOk l = true) :
    (onceL (l.filter fun x => x.f0 == 0)).take 1 ++ ((onceL (l.filter fun x => x.f0 == 1)).take 1 ++ ((onceL (l.filter fun x => x.f0 == 2)).take 1 ++ (onceL (l.filter fun x => x.f0 == 3)).take 1)) = leastL l := by
  unfold leastL
  rw [← once_keys h]
  have k0 := once_key 0 l; have k1 := once_key 1 l; have k2 := once_key 2 l; have k3 := once_key 3 l
  obtain ⟨q0, h0, e0⟩ := lst_app 0 none _ (onceL (l.filter fun x => x.f0 == 1) ++ (onceL (l.filter fun x => x.f0 == 2) ++ onceL (l.filter fun x => x.f0 == 3))) k0 (by simp)
  obtain ⟨q1, h1, e1⟩ := lst_app 1 q0 _ (onceL (l.filter fun x => x.f0 == 2) ++ onceL (l.filter fun x => x.f0 == 3)) k1 (by rcases h0 with rfl | rfl <;> simp)
  obtain ⟨q2, h2, e2⟩ := lst_app 2 q1 _ (onceL (l.filter fun x => x.f0 == 3)) k2 (by rcases h1 with rfl | rfl <;> first | (simp; done) | (rcases h0 with rfl | rfl <;> simp))
  obtain ⟨q3, h3, e3⟩ := lst_app 3 q2 _ [] k3 (by rcases h2 with rfl | rfl <;> first | (simp; done) | (rcases h1 with rfl | rfl <;> first | (simp; done) | (rcases h0 with rfl | rfl <;> simp)))
  rw [List.append_nil] at e3
  rw [e0, e1, e2, e3]
  simp [lstI]
theorem s_setleast (l : List It) (hl : l.length ≤ 1048576) : Ev (fun k => spec_SetLeast.f k l) (setLeast l) := by
  unfold spec_SetLeast.f setLeast
  have hlen : ∀ key : Int, ((onceL (l.filter fun x => x.f0 == key)).take 1).length ≤ 1048576 := fun key => by rw [List.length_take]; omega
  have := l3Sum_ev l hl 3 (fun key => (onceL (l.filter fun x => x.f0 == key)).take 1) (fun key => by
    unfold spec_l3Key.f
    simpa using key3_loop l hl key l.length 0 0 (by omega)) hlen
  refine Ev.bind this ?_
  cases hok : setOk l with
  | false => exact Ev.now _
  | true =>
    simp only [if_true, least_keys hok]
    exact Ev.now _

theorem sOk1_mk {p : It} {l : List It} (h : ∀ x ∈ l, itOk x = true) (hp : (p :: l).Pairwise (fun x y => ilt x y = true)) : sOk1 p l = true := by
  induction l generalizing p with
  | nil => rfl
  | cons y r ih =>
    obtain ⟨h1, h2⟩ := List.pairwise_cons.1 hp
    simp only [sOk1, Bool.and_eq_true]
    exact ⟨⟨h y List.mem_cons_self, h1 y List.mem_cons_self⟩, ih (fun x hx => h x (List.mem_cons_of_mem _ hx)) h2⟩
theorem setOk_mk {l : List It} (h0 : l.length ≤ 400) (h : ∀ x ∈ l, itOk x = true) (hp : l.Pairwise (fun x y => ilt x y = true)) : setOk l = true := by
  unfold setOk
  rw [decide_eq_true h0, Bool.true_and]
  cases l with
  | nil => rfl
  | cons x r =>
    simp only [sOk, Bool.and_eq_true]
    exact ⟨h x List.mem_cons_self, sOk1_mk (fun y hy => h y (List.mem_cons_of_mem _ hy)) hp⟩
theorem onceL_mem {l : List It} {y : It} : y ∈ onceL l ↔ ∃ x ∈ l, x.f2 > 0 ∧ onI x = y := by
  unfold onceL
  simp only [List.mem_map, List.mem_filter, decide_eq_true_eq, and_assoc]
theorem onceL_ok {l : List It} (h : setOk l = true) : setOk (onceL l) = true := by
  obtain ⟨h1, h2, h3⟩ := setOk_facts h
  refine setOk_mk (Nat.le_trans (onceL_len l) h1) (fun y hy => ?_) ?_
  · obtain ⟨x, hx, _, rfl⟩ := onceL_mem.1 hy
    have := h2 x hx
    simp only [itOk, Bool.and_eq_true, decide_eq_true_eq] at this
    unfold itOk
    rw [show (onI x).f0 = x.f0 from rfl, show (onI x).f1 = x.f1 from rfl, show (onI x).f2 = 1 from rfl, decide_eq_true this.1, decide_eq_true this.2.1]
    rfl
  · unfold onceL
    rw [List.pairwise_map]
    exact (h3.filter _).imp fun h => h
theorem onceL_once (l : List It) : onceL (onceL l) = onceL l := by
  unfold onceL
  rw [List.filter_map, List.map_map]
  have : List.filter ((fun x : It => decide (x.f2 > 0)) ∘ onI) (List.filter (fun x : It => decide (x.f2 > 0)) l) = List.filter (fun x : It => decide (x.f2 > 0)) l := by
    rw [List.filter_eq_self]
    intro a _
    simp [onI]
  rw [this]
  exact List.map_congr_left fun a _ => rfl
theorem lwHas_loop (l : List It) (hl : l.length ≤ 1048576) (y : It) (d : Nat) : ∀ i : Nat, i + d = l.length → y ∈ l.drop i → Ev (fun k => laws_lwHas.l0 k l (i : Int) y.f0 y.f1 y.f2) true := by
  induction d with
  | zero =>
    intro i hi hy
    rw [List.drop_eq_nil_of_le (by omega)] at hy
    simp at hy
  | succ d ih =>
    intro i hi hy
    refine Ev.step (fun k => by rw [laws_lwHas.l0]) (Ev.congr (fun k => (if_pos (by omega)).trans (if_pos (by omega))) ?_)
    rw [rdI_drop (by omega : i < l.length)] at hy
    rw [up1 (by omega : i < l.length) (by omega)]
    generalize rd_T60 l (i : Int) = x at *
    by_cases h : (x.f0 == y.f0 && (x.f1 == y.f1 && x.f2 == y.f2)) = true
    · exact Ev.congr (fun k => if_pos h) (Ev.now _)
    · refine Ev.congr (fun k => if_neg h) (ih (i + 1) (by omega) ?_)
      rcases List.mem_cons.1 hy with rfl | hy
      · simp at h
      · exact hy
theorem lwHas_ev (l : List It) (hl : l.length ≤ 1048576) (y : It) (hy : y ∈ l) : Ev (fun k => laws_lwHas.f k l y.f0 y.f1 y.f2) true := by
  unfold laws_lwHas.f
  exact lwHas_loop l hl y l.length 0 (by omega) hy
theorem rdI_mem {xs : List It} {i : Nat} (h : i < xs.length) : rd_T60 xs (i : Int) ∈ xs := by
  have := rdI_drop h
  exact List.mem_of_mem_drop (this ▸ List.mem_cons_self)

/-! what the least say -/
theorem lst_least {l : List It} (hs : l.Pairwise (fun x y => ilt x y = true)) : ∀ p : Option Int, ∀ o ∈ l, p ≠ some o.f0 → ∃ x ∈ lstI p l, x.f0 = o.f0 ∧ x.f1 ≤ o.f1 := by
  induction l with
  | nil => intro p o ho; simp at ho
  | cons y r ih =>
    intro p o ho hp
    obtain ⟨h1, h2⟩ := List.pairwise_cons.1 hs
    unfold lstI
    by_cases hy : p = some y.f0
    · rw [if_pos hy]
      rcases List.mem_cons.1 ho with rfl | ho
      · exact absurd hy hp
      · exact ih h2 p o ho hp
    · rw [if_neg hy]
      by_cases hk : o.f0 = y.f0
      · refine ⟨y, List.mem_cons_self, hk.symm, ?_⟩
        rcases List.mem_cons.1 ho with rfl | ho
        · exact Int.le_refl _
        · have := h1 o ho
          simp only [ilt, decide_eq_true_eq] at this
          omega
      · rcases List.mem_cons.1 ho with rfl | ho
        · exact absurd rfl hk
        · obtain ⟨x, hx, g⟩ := ih h2 (some y.f0) o ho (fun h => hk (Option.some.inj h).symm)
          exact ⟨x, List.mem_cons_of_mem _ hx, g⟩
theorem lst_gt {l : List It} (hs : l.Pairwise (fun x y => x.f0 ≤ y.f0)) : ∀ c : Int, (∀ x ∈ l, c ≤ x.f0) → ∀ y ∈ lstI (some c) l, c < y.f0 := by
  induction l with
  | nil => intro c _ y hy; simp [lstI] at hy
  | cons z r ih =>
    intro c hc y hy
    obtain ⟨h1, h2⟩ := List.pairwise_cons.1 hs
    have hz := hc z List.mem_cons_self
    unfold lstI at hy
    by_cases h : some c = some z.f0
    · rw [if_pos h] at hy
      exact ih h2 c (fun x hx => hc x (List.mem_cons_of_mem _ hx)) y hy
    · rw [if_neg h] at hy
      have hlt : c < z.f0 := by
        have : c ≠ z.f0 := fun e => h (by rw [e])
        omega
      rcases List.mem_cons.1 hy with rfl | hy
      · exact hlt
      · have := ih h2 z.f0 h1 y hy
        omega
theorem lst_asc {l : List It} (hs : l.Pairwise (fun x y => x.f0 ≤ y.f0)) : ∀ p, (lstI p l).Pairwise (fun x y => x.f0 < y.f0) := by
  induction l with
  | nil => intro p; exact List.Pairwise.nil
  | cons z r ih =>
    intro p
    obtain ⟨h1, h2⟩ := List.pairwise_cons.1 hs
    unfold lstI
    split
    · exact ih h2 p
    · exact List.pairwise_cons.2 ⟨lst_gt h2 z.f0 h1, ih h2 _⟩
theorem lst_id {l : List It} (hs : l.Pairwise (fun x y => x.f0 < y.f0)) : ∀ p, (∀ x ∈ l, p ≠ some x.f0) → lstI p l = l := by
  induction l with
  | nil => intro p _; rfl
  | cons z r ih =>
    intro p hp
    obtain ⟨h1, h2⟩ := List.pairwise_cons.1 hs
    unfold lstI
    rw [if_neg (hp z List.mem_cons_self), ih h2 (some z.f0) fun x hx e => by have := h1 x hx; have := Option.some.inj e; omega]
theorem once_id {l : List It} (h : ∀ x ∈ l, x.f2 = 1) : onceL l = l := by
  unfold onceL
  rw [List.filter_eq_self.2 fun x hx => by rw [h x hx]; rfl]
  rw [show l.map onI = l.map id from List.map_congr_left fun x hx => by
    have := h x hx
    obtain ⟨a, b, c⟩ := x
    simp only at this
    subst this
    rfl]
  exact List.map_id l
theorem least_facts {s : List It} (h : setOk s = true) : setOk (onceL s) = true ∧ (∀ x ∈ leastL s, x ∈ onceL s) ∧ (leastL s).Pairwise (fun x y => x.f0 < y.f0) ∧ leastL (onceL s) = leastL s ∧ setOk (leastL s) = true ∧ leastL (leastL s) = leastL s ∧ (∀ o ∈ onceL s, ∃ x ∈ leastL s, x.f0 = o.f0 ∧ x.f1 ≤ o.f1) := by
  have h1 := onceL_ok h
  obtain ⟨f1, f2, f3⟩ := setOk_facts h1
  have hsub : (leastL s).Sublist (onceL s) := lst_sub _ _
  have hasc : (leastL s).Pairwise (fun x y => x.f0 < y.f0) := lst_asc (f3.imp fun hxy => by simp only [ilt, decide_eq_true_eq] at hxy; omega) none
  have h2 : onceL (leastL s) = leastL s := once_id fun x hx => by
    obtain ⟨y, _, _, rfl⟩ := onceL_mem.1 (hsub.subset hx)
    rfl
  refine ⟨h1, fun x hx => hsub.subset hx, hasc, by unfold leastL; rw [onceL_once], setOk_mk (Nat.le_trans hsub.length_le f1) (fun x hx => f2 x (hsub.subset hx)) (f3.sublist hsub), ?_, fun o ho => lst_least f3 none o ho (by simp)⟩
  rw [show leastL (leastL s) = lstI none (onceL (leastL s)) from rfl, h2]
  exact lst_id hasc none fun x _ => by simp

/-! drawn rows -/
def smallRow (r : Rw) : Prop := rowOk r = true ∧ -3 ≤ r.f3 ∧ r.f3 ≤ 3
theorem rd_val (i : Int) (h0 : 0 ≤ i) (h1 : i < 9) : 0 ≤ rd [0, 1, 2, 3, 4, 9, 10, 57, 99] i ∧ rd [0, 1, 2, 3, 4, 9, 10, 57, 99] i ≤ 99 := by
  have c : i = 0 ∨ i = 1 ∨ i = 2 ∨ i = 3 ∨ i = 4 ∨ i = 5 ∨ i = 6 ∨ i = 7 ∨ i = 8 := by omega
  rcases c with rfl | rfl | rfl | rfl | rfl | rfl | rfl | rfl | rfl <;> decide
theorem rd_diff (i : Int) (h0 : 0 ≤ i) (h1 : i < 8) : -3 ≤ rd [1, 1, 1, 2, -1, -1, 3, 0] i ∧ rd [1, 1, 1, 2, -1, -1, 3, 0] i ≤ 3 := by
  have c : i = 0 ∨ i = 1 ∨ i = 2 ∨ i = 3 ∨ i = 4 ∨ i = 5 ∨ i = 6 ∨ i = 7 := by omega
  rcases c with rfl | rfl | rfl | rfl | rfl | rfl | rfl | rfl <;> decide
theorem row_p (l : List Int) (hl : ∀ x ∈ l, 0 ≤ x ∧ x ≤ 255) (hn : l.length ≤ 2000) (p : Int) (hp : 0 ≤ p) (hp2 : p ≤ 700000000) :
    EvP (fun k => spec_l71Row.f k l p) (fun r => smallRow ⟨r.1, r.2.1, ⟨r.2.2.1, r.2.2.2.1⟩, r.2.2.2.2.1⟩ ∧ p ≤ r.2.2.2.2.2 ∧ r.2.2.2.2.2 ≤ p + 6) := by
  unfold spec_l71Row.f
  refine EvP.bind (pick_p l hl hn p 4 hp (by omega) (by omega)) fun a ha => EvP.let_ rfl (EvP.bind (pick_p l hl hn a.2 9 (by omega) (by omega) (by omega)) fun b hb => EvP.pos hb.1 (EvP.pos (by simpa using hb.2.1) ?_))
  refine EvP.bind (time_p l hl hn b.2 (by omega) (by omega)) fun c hc => EvP.let_ rfl (EvP.bind (pick_p l hl hn c.2.2 8 (by omega) (by omega) (by omega)) fun e he => EvP.pos he.1 (EvP.pos (by simpa using he.2.1) (EvP.ret ?_)))
  have h1 := rd_val b.1 hb.1 hb.2.1
  have h2 := rd_diff e.1 he.1 he.2.1
  refine ⟨⟨?_, h2⟩, by simp only; omega, by simp only; omega⟩
  simp only [rowOk, okT, Bool.and_eq_true, decide_eq_true_eq]
  omega
theorem rdR_mem {l : List Rw} {i : Int} (h0 : 0 ≤ i) (h : i < (l.length : Int)) : rd_T67 l i ∈ l := by
  obtain ⟨n, rfl⟩ := Int.eq_ofNat_of_zero_le h0
  have := rdR_drop (xs := l) (i := n) (by omega)
  exact List.mem_of_mem_drop (this ▸ List.mem_cons_self)
theorem rows_loop (l : List Int) (hl : ∀ x ∈ l, 0 ≤ x ∧ x ≤ 255) (hn : l.length ≤ 2000) (d : Nat) : ∀ (out : List Rw) (p : Int), d ≤ 1000 → 0 ≤ p → p + 9 * d ≤ 600000000 → (∀ x ∈ out, smallRow x) → out.length + d ≤ 1000 →
    EvP (fun k => spec_l71Rows.l0 k out (d : Int) l p) (fun r => r.1.length = out.length + d ∧ (∀ x ∈ r.1, smallRow x) ∧ p ≤ r.2 ∧ r.2 ≤ p + 9 * d) := by
  induction d with
  | zero =>
    intro out p _ _ _ ho _
    refine EvP.step (fun k => by rw [spec_l71Rows.l0]) ?_
    exact (EvP.neg (by omega) (EvP.ret ⟨by simp, ho, by omega, by omega⟩))
  | succ d ih =>
    intro out p hd hp hp2 ho hlen
    have e : wrap64 (((d + 1 : Nat) : Int) - 1) = (d : Int) := by rw [w64 (by omega) (by omega)]; omega
    have add : ∀ (x : Rw) (q : Int), smallRow x → p ≤ q → q ≤ p + 9 → EvP (fun k => spec_l71Rows.l0 k (out ++ [x]) (d : Int) l q) (fun r => r.1.length = out.length + (d + 1) ∧ (∀ x ∈ r.1, smallRow x) ∧ p ≤ r.2 ∧ r.2 ≤ p + 9 * ((d + 1 : Nat) : Int)) := fun x q hx h1 h2 => by
      refine (ih (out ++ [x]) q (by omega) (by omega) (by omega) (fun y hy => ?_) (by simp; omega)).mono fun r hr => ?_
      · rcases List.mem_append.1 hy with hy | hy
        · exact ho y hy
        · rw [List.mem_singleton.1 hy]
          exact hx
      · obtain ⟨g1, g2, g3, g4⟩ := hr
        exact ⟨by rw [g1]; simp; omega, g2, by omega, by omega⟩
    refine EvP.step (fun k => by rw [spec_l71Rows.l0]) (EvP.pos (by omega) (EvP.bind (row_p l hl hn p hp (by omega)) fun a ha => ?_))
    obtain ⟨x0, x1, x2, x3, x4, q⟩ := a
    obtain ⟨hx, hq1, hq2⟩ := ha
    simp only at hx hq1 hq2 ⊢
    have join : ∀ (b : Bool) (q2 : Int), (b = true → 0 < out.length) → q ≤ q2 → q2 ≤ q + 1 → EvP (fun k => spec_l71Rows.j1 k out ((d + 1 : Nat) : Int) b l q2 x0 x1 x2 x3 x4) (fun r => r.1.length = out.length + (d + 1) ∧ (∀ x ∈ r.1, smallRow x) ∧ p ≤ r.2 ∧ r.2 ≤ p + 9 * ((d + 1 : Nat) : Int)) := fun b q2 hb h1 h2 => by
      refine EvP.step (fun k => by rw [spec_l71Rows.j1]) ?_
      rw [e]
      cases b with
      | false => exact EvP.neg (by simp) (EvP.pos (by omega) (add _ q2 hx (by omega) (by omega)))
      | true =>
        have hpos := hb rfl
        refine EvP.pos rfl (EvP.bind (pick_p l hl hn q2 (out.length : Int) (by omega) (by omega) (by omega)) fun c hc => EvP.pos hc.1 (EvP.pos hc.2.1 ?_))
        have hy := ho _ (rdR_mem hc.1 hc.2.1)
        generalize rd_T67 out c.1 = y at *
        have hy1 := hy.1
        have hx1 := hx.1
        simp only [rowOk, Bool.and_eq_true, decide_eq_true_eq] at hy1 hx1
        have b1 := hy.2
        have b2 := hx.2
        simp only at b2
        refine EvP.bind (pick_p l hl hn c.2 2 (by omega) (by omega) (by omega)) fun f hf => EvP.ite (fun _ => EvP.pos (by omega) (add _ f.2 ?_ (by omega) (by omega))) (fun _ => EvP.pos (by omega) (add _ f.2 ?_ (by omega) (by omega)))
        · have ew : wrap64 (-y.f3) = -y.f3 := w64 (by omega) (by omega)
          rw [ew]
          refine ⟨?_, by simp only; omega, by simp only; omega⟩
          simp only [rowOk, Bool.and_eq_true, decide_eq_true_eq]
          exact ⟨hy1.1, hy1.2.1, hx1.2.2.1, by omega⟩
        · refine ⟨?_, by simp only; omega, by simp only; omega⟩
          simp only [rowOk, Bool.and_eq_true, decide_eq_true_eq]
          exact ⟨hy1.1, hy1.2.1, hx1.2.2.1, by omega⟩
    refine EvP.ite (fun h => EvP.bind (pick_p l hl hn q 3 (by omega) (by omega) (by omega)) fun c hc => join _ c.2 (fun _ => by omega) (by omega) (by omega)) (fun _ => join false q (fun h => by simp at h) (by omega) (by omega))
theorem rows_p (l : List Int) (hl : ∀ x ∈ l, 0 ≤ x ∧ x ≤ 255) (hn : l.length ≤ 2000) (p most : Int) (hp : 0 ≤ p) (hp2 : p ≤ 500000000) (hm : 0 ≤ most) (hm2 : most ≤ 100) :
    EvP (fun k => spec_l71Rows.f k l p most) (fun r => (r.1.length : Int) ≤ most ∧ (∀ x ∈ r.1, smallRow x) ∧ p ≤ r.2 ∧ r.2 ≤ p + 1 + 9 * most) := by
  unfold spec_l71Rows.f
  rw [w64 (by omega) (by omega)]
  refine EvP.bind (pick_p l hl hn p (most + 1) hp (by omega) (by omega)) fun a ha => ?_
  obtain ⟨v, q⟩ := a
  obtain ⟨n, rfl⟩ := Int.eq_ofNat_of_zero_le ha.1
  simp only at ha
  refine (rows_loop l hl hn n [] q (by omega) (by omega) (by omega) (fun x hx => by simp at hx) (by simp; omega)).mono fun r hr => ?_
  obtain ⟨h1, h2, h3, h4⟩ := hr
  exact ⟨by rw [h1]; simp; omega, h2, by omega, by omega⟩

theorem set_p (l : List Int) (hl : ∀ x ∈ l, 0 ≤ x ∧ x ≤ 255) (hn : l.length ≤ 2000) (p : Int) (hp : 0 ≤ p) (hp2 : p ≤ 400000000) :
    EvP (fun k => spec_l71Set.f k l p) (fun r => r.1.length ≤ 9 ∧ p ≤ r.2 ∧ r.2 ≤ p + 100) := by
  unfold spec_l71Set.f
  refine EvP.bind (rows_p l hl hn p 8 hp (by omega) (by omega) (by omega)) fun a ha => EvP.bind (EvP.of_ev (s_batchAt a.1 7 7 (by omega)) rfl) fun s hs => ?_
  have hlen := batchAt_len a.1 7 7
  rw [hs] at hlen
  clear hs
  refine EvP.bind (pick_p l hl hn a.2 24 (by omega) (by omega) (by omega)) fun b hb => EvP.ite (fun _ => ?_) (fun _ => EvP.ite (fun _ => EvP.ite (fun hpos => ?_) (fun _ => EvP.ret ⟨by simp only; omega, by simp only; omega, by simp only; omega⟩)) (fun _ => EvP.ret ⟨by simp only; omega, by simp only; omega, by simp only; omega⟩))
  · refine EvP.bind (pick_p l hl hn b.2 6 (by omega) (by omega) (by omega)) fun c hc => EvP.bind (pick_p l hl hn c.2 120 (by omega) (by omega) (by omega)) fun d hd => EvP.bind (pick_p l hl hn d.2 3 (by omega) (by omega) (by omega)) fun e he => EvP.pos (by omega) (EvP.ret ⟨by simp; omega, by simp only; omega, by simp only; omega⟩)
  · refine EvP.bind (pick_p l hl hn b.2 (s.length : Int) (by omega) (by omega) (by omega)) fun c hc => EvP.pos hc.1 (EvP.pos hc.2.1 (EvP.ret ⟨by simp; omega, by simp only; omega, by simp only; omega⟩))

theorem lwItems_loop (l : List It) (hl : l.length ≤ 1048576) (d : Nat) : ∀ i : Nat, i + d = l.length → Ev (fun k => laws_lwItems.l0 k l l (i : Int)) true := by
  induction d with
  | zero =>
    intro i hi
    refine Ev.step (fun k => by rw [laws_lwItems.l0]) ?_
    exact (Ev.congr (fun k => if_neg (by omega)) (Ev.now _))
  | succ d ih =>
    intro i hi
    refine Ev.step (fun k => by rw [laws_lwItems.l0]) (Ev.congr (fun k => (if_pos (by omega)).trans ((if_pos (by omega)).trans ((if_pos (by omega)).trans (if_neg (by simp))))) ?_)
    rw [up1 (by omega : i < l.length) (by omega)]
    exact ih (i + 1) (by omega)
theorem lwItems_ev (l : List It) (hl : l.length ≤ 1048576) : Ev (fun k => laws_lwItems.f k l l) true := by
  unfold laws_lwItems.f
  exact Ev.congr (fun k => if_pos rfl) (lwItems_loop l hl l.length 0 (by omega))

theorem drawcount_p (l : List Int) (hl : ∀ x ∈ l, 0 ≤ x ∧ x ≤ 255) : EvP (fun k => spec_DrawSetLeast.f k l) (fun r => r.length ≤ 9) := by
  obtain ⟨l', ho, hl', hn⟩ := open_p l hl
  unfold spec_DrawSetLeast.f
  exact EvP.let_ ho (EvP.bind (set_p l' hl' hn 0 (by omega) (by omega)) fun b hb => EvP.ret hb.1)

theorem sl_l1 (x o : List It) (hx : x.length ≤ 1048576) (i : Nat) (hi : i < o.length) (R : Bool) (hk : Ev (fun k => laws_FnSetLeast.l0 k x o (wrap64 ((i : Int) + 1))) R) (d : Nat) : ∀ (j : Nat) (b : Bool), j + d = x.length → (b = true ∨ ∃ y ∈ x.drop j, y.f0 = (rd_T60 o (i : Int)).f0 ∧ y.f1 ≤ (rd_T60 o (i : Int)).f1) →
    Ev (fun k => laws_FnSetLeast.l1 k x o (i : Int) b (j : Int)) R := by
  induction d with
  | zero =>
    intro j b hj hb
    have hb' : b = true := by
      rcases hb with hb | ⟨y, hy, _⟩
      · exact hb
      · rw [List.drop_eq_nil_of_le (by omega)] at hy
        simp at hy
    subst hb'
    refine Ev.step (fun k => by rw [laws_FnSetLeast.l1]) ?_
    exact Ev.congr (fun k => (if_neg (by omega)).trans (if_pos rfl)) hk
  | succ d ih =>
    intro j b hj hb
    refine Ev.step (fun k => by rw [laws_FnSetLeast.l1]) (Ev.congr (fun k => if_pos (by omega)) ?_)
    rw [up1 (by omega : j < x.length) (by omega)]
    cases b with
    | true => exact Ev.congr (fun k => if_pos rfl) (ih (j + 1) true (by omega) (.inl rfl))
    | false =>
      obtain ⟨y, hy, h1, h2⟩ := hb.resolve_left (by simp)
      clear hb
      rw [rdI_drop (by omega : j < x.length)] at hy
      refine Ev.congr (fun k => (if_neg (by simp)).trans ((if_pos (by omega)).trans ((if_pos (by omega)).trans (if_pos (by omega))))) ?_
      generalize rd_T60 o (i : Int) = t at *
      generalize rd_T60 x (j : Int) = z at *
      by_cases hk2 : z.f0 = t.f0
      · refine Ev.congr (fun k => if_pos hk2) (ih (j + 1) _ (by omega) ?_)
        rcases List.mem_cons.1 hy with rfl | hy
        · exact .inl (decide_eq_true h2)
        · exact .inr ⟨y, hy, h1, h2⟩
      · refine Ev.congr (fun k => if_neg hk2) (ih (j + 1) _ (by omega) ?_)
        rcases List.mem_cons.1 hy with rfl | hy
        · exact absurd h1 hk2
        · exact .inr ⟨y, hy, h1, h2⟩
theorem sl_l0 (x o : List It) (hx : x.length ≤ 1048576) (ho : o.length ≤ 1048576) (hm : ∀ t ∈ o, ∃ y ∈ x, y.f0 = t.f0 ∧ y.f1 ≤ t.f1) (R : Bool) (hk : Ev (fun k => laws_FnSetLeast.l2 k x o 0) R) (d : Nat) : ∀ i : Nat, i + d = o.length →
    Ev (fun k => laws_FnSetLeast.l0 k x o (i : Int)) R := by
  induction d with
  | zero =>
    intro i hi
    refine Ev.step (fun k => by rw [laws_FnSetLeast.l0]) ?_
    exact Ev.congr (fun k => if_neg (by omega)) hk
  | succ d ih =>
    intro i hi
    refine Ev.step (fun k => by rw [laws_FnSetLeast.l0]) (Ev.congr (fun k => if_pos (by omega)) ?_)
    refine sl_l1 x o hx i (by omega) R ?_ x.length 0 false (by omega) (.inr ?_)
    · rw [up1 (by omega : i < o.length) (by omega)]
      exact ih (i + 1) (by omega)
    · exact hm _ (rdI_mem (by omega : i < o.length))
theorem sl_l2 (x o : List It) (hx : x.length ≤ 1048576) (ho : o.length ≤ 1048576) (hm : ∀ y ∈ x, y ∈ o) (hp : x.Pairwise fun a b => a.f0 < b.f0) (h1 : setLeast o = x) (h2 : setLeast x = x) (d : Nat) : ∀ i : Nat, i + d = x.length →
    Ev (fun k => laws_FnSetLeast.l2 k x o (i : Int)) true := by
  induction d with
  | zero =>
    intro i hi
    refine Ev.step (fun k => by rw [laws_FnSetLeast.l2]) (Ev.congr (fun k => if_neg (by omega)) (Ev.bind (i_setleast o ho) ?_))
    rw [h1]
    refine Ev.bind (lwItems_ev x hx) (Ev.congr (fun k => if_pos rfl) (Ev.bind (i_setleast x hx) ?_))
    rw [h2]
    exact Ev.bind (lwItems_ev x hx) (Ev.now _)
  | succ d ih =>
    intro i hi
    refine Ev.step (fun k => by rw [laws_FnSetLeast.l2]) (Ev.congr (fun k => (if_pos (by omega)).trans (if_pos (by omega))) ?_)
    refine Ev.bind (lwHas_ev o ho _ (hm _ (rdI_mem (by omega : i < x.length)))) (Ev.congr (fun k => if_pos rfl) ?_)
    rw [up1 (by omega : i < x.length) (by omega)]
    have ih' := ih (i + 1) (by omega)
    by_cases h0 : (i : Int) > 0
    · obtain ⟨m, rfl⟩ : ∃ m, i = m + 1 := ⟨i - 1, by omega⟩
      have e : wrap64 (((m + 1 : Nat) : Int) - 1) = (m : Int) := by rw [w64 (by omega) (by omega)]; omega
      rw [e]
      have hq := hp.drop (i := m)
      rw [rdI_drop (by omega : m < x.length), rdI_drop (by omega : m + 1 < x.length)] at hq
      have hlt := (List.pairwise_cons.1 hq).1 _ List.mem_cons_self
      exact Ev.congr (fun k => (if_pos h0).trans ((if_pos (by omega)).trans ((if_pos (by omega)).trans (if_neg (by omega))))) ih'
    · exact Ev.congr (fun k => if_neg h0) ih'
theorem FnSetLeast : laws_FnSetLeast.Pure := by
  intro l0 _ _ h0
  have b0 : ∀ x ∈ l0, 0 ≤ x ∧ x ≤ 255 := fun x hx => byte_wf (h0 x hx)
  refine EvP.rounds ?_
  unfold laws_FnSetLeast.f
  refine EvP.ite (fun _ => EvP.ret rfl) (fun _ => EvP.bind (drawcount_p l0 b0) fun s hs => ?_)
  refine EvP.bind (EvP.of_ev (i_setleast s (by omega)) rfl) fun a ha => EvP.bind (EvP.of_ev (s_setleast s (by omega)) rfl) fun b hb => ?_
  subst ha hb
  have hlen := setLeast_len s (by omega)
  refine EvP.bind (EvP.of_ev (lwItems_ev _ hlen) rfl) fun c hc => ?_
  subst hc
  refine EvP.pos rfl (EvP.bind (EvP.of_ev (s_set s (by omega)) rfl) fun b hb => ?_)
  subst hb
  cases hok : setOk s with
  | false =>
    refine EvP.step (fun k => by rw [laws_FnSetLeast.j0]) (EvP.pos (by simp) (EvP.bind (EvP.of_ev (s_setleast s (by omega)) rfl) fun b hb => ?_))
    subst hb
    exact EvP.bind (EvP.of_ev (lwItems_ev _ hlen) rfl) fun c hc => EvP.ret hc.symm
  | true =>
    refine EvP.step (fun k => by rw [laws_FnSetLeast.j0]) (EvP.neg (by simp) (EvP.of_ev (Ev.bind (i_setonce s (by omega)) ?_) rfl))
    obtain ⟨g1, g2, g3, g4, g5, g6, g7⟩ := least_facts hok
    have l1 := onceL_len s
    have l2 := leastL_len s
    rw [show setLeast s = leastL s by unfold setLeast; rw [hok]; rfl, show setOnce s = onceL s by unfold setOnce; rw [hok]; rfl]
    refine sl_l0 (leastL s) (onceL s) (by omega) (by omega) g7 true ?_ (onceL s).length 0 (by omega)
    exact sl_l2 (leastL s) (onceL s) (by omega) (by omega) g2 g3 (by unfold setLeast; rw [g1]; exact g4) (by unfold setLeast; rw [g5]; exact g6) (leastL s).length 0 (by omega)
end Go.Proofs.Ytiegpijhkhopgaa.Pure
