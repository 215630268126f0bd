/- The pure part of FnSetBoth. -/
import Derived.Test.YtpggfdjnebccnaaVFnSetBothx
namespace Go.Proofs.Ytpggfdjnebccnaa.Pure
open Go.RowKit Go.Proofs.Ytpggfdjnebccnaa.PFnSetBoth Go.Proofs.YtpggfdjnebccnaaW.PrintWords Go.Proofs.YtpggfdjnebccnaaW.PrintLast Go.Proofs.YtpggfdjnebccnaaW.PrintMore Go.Proofs.Ytpggfdjnebccnaa.EvP
/-! the reader -/
theorem pick_p (l : List Int) (hl : ∀ x ∈ l, 0 ≤ x ∧ x ≤ 255) (hn : l.length ≤ 2000) (p n : Int) (hp : 0 ≤ p) (hp2 : p ≤ 1000000000) (h1 : 1 ≤ n) :
    EvP (fun k => spec_l6Rd_pick.f k l p n) (fun r => 0 ≤ r.1 ∧ r.1 < n ∧ r.2 = p + 1) := by
  have e1 : wrap64 (p + 1) = p + 1 := w64 (by omega) (by omega)
  have e2 : wrap64 (p + 1 - 1) = p := by rw [Int.add_sub_cancel]; exact w64 (by omega) (by omega)
  have key : ∃ v, 0 ≤ v ∧ v < n ∧ spec_l6Rd_pick.f 1 l p n = some (v, p + 1) := by
    unfold spec_l6Rd_pick.f
    rw [if_neg (by omega)]
    simp only [spec_l6Rd_pick.j0, e1, e2]
    by_cases h0 : (l.length : Int) = 0
    · refine ⟨0, by omega, by omega, ?_⟩
      rw [if_pos (by simp [h0])]
    · rw [if_neg (by simpa using h0)]
      by_cases h3 : p < (l.length : Int)
      · have hb := rd_byte hl p
        rw [if_pos h3, if_pos hp, if_neg (by omega), w64 (by omega) (by omega)]
        exact ⟨_, Int.tmod_nonneg _ hb.1, Int.tmod_lt_of_pos _ (by omega), rfl⟩
      · rw [if_neg h3, if_neg h0, if_pos (Int.tmod_nonneg _ hp), if_pos (Int.tmod_lt_of_pos _ (by omega))]
        have e7 : wrap64 (p * 7) = p * 7 := w64 (by omega) (by omega)
        have e73 : wrap64 (p * 7 + 3) = p * 7 + 3 := w64 (by omega) (by omega)
        rw [e7, e73, if_pos (Int.tmod_nonneg _ (by omega)), if_pos (Int.tmod_lt_of_pos _ (by omega)), if_neg (by omega)]
        have b1 := rd_byte hl (Int.tmod p (l.length : Int))
        have b2 := rd_byte hl (Int.tmod (p * 7 + 3) (l.length : Int))
        have hd0 : 0 ≤ Int.tdiv p (l.length : Int) := Int.tdiv_nonneg hp (by omega)
        have hd1 : Int.tdiv p (l.length : Int) ≤ p := by
          rw [Int.tdiv_eq_ediv_of_nonneg hp]
          exact Int.ediv_le_self _ hp
        generalize rd l (Int.tmod p (l.length : Int)) = u at *
        generalize rd l (Int.tmod (p * 7 + 3) (l.length : Int)) = v at *
        generalize Int.tdiv p (l.length : Int) = q at *
        have x1 : wrap64 u = u := w64 (by omega) (by omega)
        have x2 : wrap64 v = v := w64 (by omega) (by omega)
        have x3 : wrap64 q = q := w64 (by omega) (by omega)
        have x4 : wrap64 (u * 131) = u * 131 := w64 (by omega) (by omega)
        have x5 : wrap64 (v * 1117) = v * 1117 := w64 (by omega) (by omega)
        have x6 : wrap64 (p * 29) = p * 29 := w64 (by omega) (by omega)
        have x7 : wrap64 (q * 53) = q * 53 := w64 (by omega) (by omega)
        have x8 : wrap64 (u * 131 + v * 1117) = u * 131 + v * 1117 := w64 (by omega) (by omega)
        have x9 : wrap64 (u * 131 + v * 1117 + p * 29) = u * 131 + v * 1117 + p * 29 := w64 (by omega) (by omega)
        have x10 : wrap64 (u * 131 + v * 1117 + p * 29 + q * 53) = u * 131 + v * 1117 + p * 29 + q * 53 := w64 (by omega) (by omega)
        rw [x1, x2, x3, x4, x5, x6, x7, x8, x9, x10]
        have hz0 : 0 ≤ u * 131 + v * 1117 + p * 29 + q * 53 := by omega
        have hz1 : u * 131 + v * 1117 + p * 29 + q * 53 < 1000000000000 := by omega
        generalize u * 131 + v * 1117 + p * 29 + q * 53 = z at *
        have y0 : 0 ≤ Int.tdiv z 64 := Int.tdiv_nonneg hz0 (by omega)
        have y1 : Int.tdiv z 64 ≤ z := by
          rw [Int.tdiv_eq_ediv_of_nonneg hz0]
          exact Int.ediv_le_self _ hz0
        have x11 : wrap64 (Int.tdiv z 64) = Int.tdiv z 64 := w64 (by omega) (by omega)
        rw [x11]
        exact ⟨_, Int.tmod_nonneg _ (xor_nonneg _ _ hz0 (by omega) y0 (by omega)), Int.tmod_lt_of_pos _ (by omega), rfl⟩
  obtain ⟨v, h0, hv, hk⟩ := key
  exact EvP.mono_of (spec_l6Rd_pick.mono l p n) hk ⟨h0, hv, rfl⟩

theorem open_p (l : List Int) (hl : ∀ x ∈ l, 0 ≤ x ∧ x ≤ 255) : ∃ l', spec_l6Open.f l = some (l', 0) ∧ (∀ x ∈ l', 0 ≤ x ∧ x ≤ 255) ∧ l'.length ≤ 2000 := by
  unfold spec_l6Open.f
  by_cases h : (l.length : Int) > 2000
  · rw [if_pos h, if_pos (by omega)]
    exact ⟨_, rfl, fun x hx => hl x (List.mem_of_mem_take hx), by rw [List.length_take]; omega⟩
  · rw [if_neg h]
    exact ⟨_, rfl, hl, by omega⟩

theorem time_p (l : List Int) (hl : ∀ x ∈ l, 0 ≤ x ∧ x ≤ 255) (hn : l.length ≤ 2000) (p : Int) (hp : 0 ≤ p) (hp2 : p ≤ 900000000) :
    EvP (fun k => spec_l71Time.f k l p) (fun r => 0 ≤ r.1 ∧ r.1 ≤ 7 ∧ 0 ≤ r.2.1 ∧ r.2.1 ≤ 7 ∧ p ≤ r.2.2 ∧ r.2.2 ≤ p + 3) := by
  unfold spec_l71Time.f
  refine EvP.bind (pick_p l hl hn p 10 hp (by omega) (by omega)) fun a ha => EvP.ite (fun _ => ?_) (fun _ => ?_)
  all_goals
    refine EvP.bind (pick_p l hl hn a.2 _ (by omega) (by omega) (by omega)) fun b hb => EvP.bind (pick_p l hl hn b.2 _ (by omega) (by omega) (by omega)) fun c hc => EvP.ret ?_
    simp only
    omega

/-! what the functions on times say -/
def okT (a b : Int) : Bool := decide (0 ≤ a ∧ a ≤ 7 ∧ 0 ≤ b ∧ b ≤ 7)
def leT (a b c d : Int) : Bool := okT a b && okT c d && decide (a ≤ c ∧ b ≤ d)
theorem okT_true {a b : Int} (h : okT a b = true) : 0 ≤ a ∧ a ≤ 7 ∧ 0 ≤ b ∧ b ≤ 7 := of_decide_eq_true h
theorem leT_true {a b c d : Int} (h : leT a b c d = true) : (0 ≤ a ∧ a ≤ 7 ∧ 0 ≤ b ∧ b ≤ 7) ∧ (0 ≤ c ∧ c ≤ 7 ∧ 0 ≤ d ∧ d ≤ 7) ∧ a ≤ c ∧ b ≤ d := by simpa [leT, okT, and_assoc] using h
theorem leT_mk {a b c d : Int} (h : (0 ≤ a ∧ a ≤ 7 ∧ 0 ≤ b ∧ b ≤ 7) ∧ (0 ≤ c ∧ c ≤ 7 ∧ 0 ≤ d ∧ d ≤ 7) ∧ a ≤ c ∧ b ≤ d) : leT a b c d = true := by simpa [leT, okT, and_assoc] using h

theorem s_ok (a b : Int) : spec_TimeOk.f a b = some (okT a b) := by
  unfold spec_TimeOk.f spec_l6In.f okT
  by_cases h0 : 0 ≤ a <;> by_cases h1 : a ≤ 7 <;> by_cases h2 : 0 ≤ b <;> by_cases h3 : b ≤ 7 <;> simp [h0, h1, h2, h3]

theorem s_less (a b c d : Int) : spec_TimeLess.f a b c d = some (leT a b c d) := by
  unfold spec_TimeLess.f leT
  rw [s_ok, s_ok]
  cases okT a b <;> cases okT c d <;> by_cases h0 : a ≤ c <;> by_cases h1 : b ≤ d <;> simp [h0, h1]

theorem up1 {i n : Nat} (h : i < n) (hn : n ≤ 4611686018427387904) : wrap64 ((i : Int) + 1) = ((i + 1 : Nat) : Int) := by
  rw [w64 (by omega) (by omega)]; rfl

/-! lists of items -/
abbrev It := S80
theorem rdI_drop {xs : List It} {i : Nat} (h : i < xs.length) : xs.drop i = rd_T80 xs (i : Int) :: xs.drop (i + 1) := by
  unfold rd_T80
  rw [List.drop_eq_getElem_cons h, List.getD_eq_getElem?_getD, Int.toNat_natCast, List.getElem?_eq_getElem h]
  rfl

/-! lists of rows -/
abbrev Rw := S90
theorem rdR_drop {xs : List Rw} {i : Nat} (h : i < xs.length) : xs.drop i = rd_T90 xs (i : Int) :: xs.drop (i + 1) := by
  unfold rd_T90
  rw [List.drop_eq_getElem_cons h, List.getD_eq_getElem?_getD, Int.toNat_natCast, List.getElem?_eq_getElem h]
  rfl

/-! rows: put into order, equal ones summed -/
def W64 : Int := 18446744073709551616
/-- key, value and time -/
def rkey (r : Rw) : Int × Int × Int × Int := (r.f0, r.f1, r.f2.f0, r.f2.f1)
def klt (a b : Int × Int × Int × Int) : Prop := a.1 < b.1 ∨ a.1 = b.1 ∧ (a.2.1 < b.2.1 ∨ a.2.1 = b.2.1 ∧ (a.2.2.1 < b.2.2.1 ∨ a.2.2.1 = b.2.2.1 ∧ a.2.2.2 < b.2.2.2))
instance (a b : Int × Int × Int × Int) : Decidable (klt a b) := by unfold klt; infer_instance
theorem klt_trans {a b c : Int × Int × Int × Int} (h : klt a b) (k : klt b c) : klt a c := by unfold klt at *; omega
theorem klt_irrefl (a : Int × Int × Int × Int) : ¬ klt a a := by unfold klt; omega
theorem klt_tri (a b : Int × Int × Int × Int) : klt a b ∨ a = b ∨ klt b a := by
  obtain ⟨a1, a2, a3, a4⟩ := a
  obtain ⟨b1, b2, b3, b4⟩ := b
  simp only [klt, Prod.mk.injEq]
  omega

def putR : List Rw → Rw → List Rw
  | [], r => [r]
  | x :: l, r => if klt (rkey r) (rkey x) then r :: x :: l else if rkey x = rkey r then { r with f3 := wrap64 (r.f3 + x.f3) } :: l else x :: putR l r
def csum (l : List Rw) : List Rw := l.foldl putR []
def consol (l : List Rw) : List Rw := (csum l).filter fun r => r.f3 != 0

/-! the reference's sums of rows -/
def cmpK (a b : Int × Int × Int × Int) : Int := if klt a b then -1 else if klt b a then 1 else 0
theorem comp_step {X Y : List Int} {c : Int} (i : Nat) (hX : X.length = 4) (hY : Y.length = 4) (hi : i < 4) (h1 : rd X (i : Int) < rd Y (i : Int) → c = -1) (h2 : rd Y (i : Int) < rd X (i : Int) → c = 1)
    (h3 : rd X (i : Int) = rd Y (i : Int) → Ev (fun k => spec_l2Comp.l0 k X Y ((i + 1 : Nat) : Int)) c) : Ev (fun k => spec_l2Comp.l0 k X Y (i : Int)) c := by
  refine Ev.step (fun k => by rw [spec_l2Comp.l0]) (Ev.congr (fun k => (if_pos (by omega)).trans ((if_pos (by omega)).trans (if_pos (by omega)))) ?_)
  by_cases c1 : rd X (i : Int) < rd Y (i : Int)
  · rw [h1 c1]
    exact Ev.congr (fun k => if_pos c1) (Ev.now _)
  · refine Ev.congr (fun k => if_neg c1) ?_
    by_cases c2 : rd X (i : Int) > rd Y (i : Int)
    · rw [h2 c2]
      exact Ev.congr (fun k => if_pos c2) (Ev.now _)
    · refine Ev.congr (fun k => if_neg c2) ?_
      rw [w64 (by omega) (by omega)]
      exact h3 (by omega)
theorem s_comp (x y : Rw) : Ev (fun k => spec_l2Comp.f k x.f0 x.f1 x.f2.f0 x.f2.f1 x.f3 y.f0 y.f1 y.f2.f0 y.f2.f1 y.f3) (cmpK (rkey x) (rkey y)) := by
  unfold spec_l2Comp.f
  obtain ⟨a0, a1, ⟨a2, a3⟩, a4⟩ := x
  obtain ⟨b0, b1, ⟨b2, b3⟩, b4⟩ := y
  simp only [rkey]
  have r0 : rd [a0, a1, a2, a3] ((0 : Nat) : Int) = a0 := rfl
  have r1 : rd [a0, a1, a2, a3] ((1 : Nat) : Int) = a1 := rfl
  have r2 : rd [a0, a1, a2, a3] ((2 : Nat) : Int) = a2 := rfl
  have r3 : rd [a0, a1, a2, a3] ((3 : Nat) : Int) = a3 := rfl
  have s0 : rd [b0, b1, b2, b3] ((0 : Nat) : Int) = b0 := rfl
  have s1 : rd [b0, b1, b2, b3] ((1 : Nat) : Int) = b1 := rfl
  have s2 : rd [b0, b1, b2, b3] ((2 : Nat) : Int) = b2 := rfl
  have s3 : rd [b0, b1, b2, b3] ((3 : Nat) : Int) = b3 := rfl
  have lo : ∀ {p q : Int × Int × Int × Int}, klt p q → cmpK p q = -1 := fun h => if_pos h
  have hi : ∀ {p q : Int × Int × Int × Int}, klt q p → cmpK p q = 1 := fun {p q} h => by
    unfold cmpK
    rw [if_neg (fun k => klt_irrefl p (klt_trans k h)), if_pos h]
  refine comp_step 0 rfl rfl (by omega) (fun h => lo (by unfold klt; simp only; omega)) (fun h => hi (by unfold klt; simp only; omega)) fun e0 => ?_
  refine comp_step 1 rfl rfl (by omega) (fun h => lo (by unfold klt; simp only; omega)) (fun h => hi (by unfold klt; simp only; omega)) fun e1 => ?_
  refine comp_step 2 rfl rfl (by omega) (fun h => lo (by unfold klt; simp only; omega)) (fun h => hi (by unfold klt; simp only; omega)) fun e2 => ?_
  refine comp_step 3 rfl rfl (by omega) (fun h => lo (by unfold klt; simp only; omega)) (fun h => hi (by unfold klt; simp only; omega)) fun e3 => ?_
  refine Ev.step (fun k => by rw [spec_l2Comp.l0]) (Ev.congr (fun k => if_neg (by simp)) ?_)
  have : cmpK (a0, a1, a2, a3) (b0, b1, b2, b3) = 0 := by
    unfold cmpK
    rw [if_neg (by unfold klt; simp only; omega), if_neg (by unfold klt; simp only; omega)]
  rw [this]
  exact Ev.now _

theorem putR_len (l : List Rw) (r : Rw) : (putR l r).length ≤ l.length + 1 := by
  induction l with
  | nil => simp [putR]
  | cons x l ih =>
    unfold putR
    split
    · simp
    · split <;> simp <;> omega
theorem csum_len (l : List Rw) : (csum l).length ≤ l.length := by
  have : ∀ (l a : List Rw), (l.foldl putR a).length ≤ a.length + l.length := by
    intro l
    induction l with
    | nil => intro a; simp
    | cons x l ih =>
      intro a
      have := ih (putR a x)
      have := putR_len a x
      simp only [List.foldl_cons, List.length_cons]
      omega
  have h := this l []
  simpa [csum] using h
theorem consol_len (l : List Rw) : (consol l).length ≤ l.length := Nat.le_trans (List.length_filter_le _ _) (csum_len l)
theorem put_done (l : List Rw) (hl : l.length ≤ 1048576) (d : Nat) : ∀ (i : Nat) (out : List Rw) (r : Rw), i + d = l.length → out.length ≤ i + 1 →
    Ev (fun k => spec_l2Put.l0 k l out true (i : Int) r.f0 r.f1 r.f2.f0 r.f2.f1 r.f3) (out ++ l.drop i) := by
  induction d with
  | zero =>
    intro i out r hi ho
    rw [List.drop_eq_nil_of_le (by omega), List.append_nil]
    refine Ev.step (fun k => by rw [spec_l2Put.l0]) (Ev.congr (fun k => (if_neg (by omega)).trans (if_pos rfl)) ?_)
    exact Ev.now out
  | succ d ih =>
    intro i out r hi ho
    refine Ev.step (fun k => by rw [spec_l2Put.l0]) (Ev.congr (fun k => (if_pos (by omega)).trans (if_pos (by omega))) ?_)
    refine Ev.bind (s_comp (rd_T90 l (i : Int)) r) (Ev.congr (fun k => if_pos rfl) ?_)
    refine Ev.step (fun k => by rw [spec_l2Put.j1]) (Ev.congr (fun k => (if_neg (by simp)).trans ((if_pos rfl).trans ((if_pos (by omega)).trans ((if_pos (by omega)).trans (if_pos (by omega)))))) ?_)
    rw [up1 (by omega : i < l.length) (by omega), rdR_drop (by omega : i < l.length)]
    have := ih (i + 1) (out ++ [rd_T90 l (i : Int)]) r (by omega) (by simp; omega)
    simpa using this
theorem put_loop (l : List Rw) (hl : l.length ≤ 1048576) (r : Rw) (d : Nat) : ∀ (i : Nat) (out : List Rw), i + d = l.length → out.length ≤ i →
    Ev (fun k => spec_l2Put.l0 k l out false (i : Int) r.f0 r.f1 r.f2.f0 r.f2.f1 r.f3) (out ++ putR (l.drop i) r) := by
  induction d with
  | zero =>
    intro i out hi ho
    rw [List.drop_eq_nil_of_le (by omega)]
    refine Ev.step (fun k => by rw [spec_l2Put.l0]) (Ev.congr (fun k => (if_neg (by omega)).trans ((if_neg (by simp)).trans (if_pos (by omega)))) ?_)
    exact Ev.now _
  | succ d ih =>
    intro i out hi ho
    refine Ev.step (fun k => by rw [spec_l2Put.l0]) (Ev.congr (fun k => (if_pos (by omega)).trans (if_pos (by omega))) ?_)
    refine Ev.bind (s_comp (rd_T90 l (i : Int)) r) (Ev.congr (fun k => if_neg (by simp)) ?_)
    have e := rdR_drop (by omega : i < l.length)
    have fin := fun (o : List Rw) (r' : Rw) (h : o.length ≤ i + 2) => put_done l hl d (i + 1) o r' (by omega) h
    rw [e]
    refine Ev.step (fun k => by rw [spec_l2Put.j1]) ?_
    rw [up1 (by omega : i < l.length) (by omega)]
    by_cases c1 : klt (rkey r) (rkey (rd_T90 l (i : Int)))
    · have ec : cmpK (rkey (rd_T90 l (i : Int))) (rkey r) = 1 := by
        unfold cmpK
        rw [if_neg (fun k => klt_irrefl _ (klt_trans k c1)), if_pos c1]
      rw [ec, show putR (rd_T90 l (i : Int) :: l.drop (i + 1)) r = r :: rd_T90 l (i : Int) :: l.drop (i + 1) by simp [putR, c1]]
      refine Ev.congr (fun k => (if_pos rfl).trans (if_pos (by omega))) (Ev.bind (Ev.now _) (Ev.congr (fun k => (if_pos (by omega)).trans ((if_pos (by omega)).trans (if_pos (by simp; omega)))) ?_))
      have := fin (out ++ [r] ++ [rd_T90 l (i : Int)]) r (by simp; omega)
      simpa using this
    · by_cases c2 : rkey (rd_T90 l (i : Int)) = rkey r
      · have ec : cmpK (rkey (rd_T90 l (i : Int))) (rkey r) = 0 := by
          unfold cmpK
          rw [c2, if_neg (klt_irrefl _), if_neg (klt_irrefl _)]
        rw [ec, show putR (rd_T90 l (i : Int) :: l.drop (i + 1)) r = { r with f3 := wrap64 (r.f3 + (rd_T90 l (i : Int)).f3) } :: l.drop (i + 1) by simp only [putR]; rw [if_neg c1, if_pos c2]]
        refine Ev.congr (fun k => (if_neg (by simp)).trans ((if_neg (by simp)).trans ((if_pos rfl).trans ((if_pos (by omega)).trans ((if_pos (by omega)).trans (if_pos (by omega))))))) ?_
        have := fin (out ++ [{ r with f3 := wrap64 (r.f3 + (rd_T90 l (i : Int)).f3) }]) { r with f3 := wrap64 (r.f3 + (rd_T90 l (i : Int)).f3) } (by simp; omega)
        simpa using this
      · have c3 : klt (rkey (rd_T90 l (i : Int))) (rkey r) := by
          rcases klt_tri (rkey (rd_T90 l (i : Int))) (rkey r) with t | t | t
          · exact t
          · exact absurd t c2
          · exact absurd t c1
        have ec : cmpK (rkey (rd_T90 l (i : Int))) (rkey r) = -1 := if_pos c3
        rw [ec, show putR (rd_T90 l (i : Int) :: l.drop (i + 1)) r = rd_T90 l (i : Int) :: putR (l.drop (i + 1)) r by simp only [putR]; rw [if_neg c1, if_neg c2]]
        refine Ev.congr (fun k => (if_neg (by simp)).trans ((if_neg (by simp)).trans ((if_neg (by simp)).trans ((if_pos (by omega)).trans ((if_pos (by omega)).trans (if_pos (by omega))))))) ?_
        have := ih (i + 1) (out ++ [rd_T90 l (i : Int)]) (by omega) (by simp; omega)
        simpa using this
theorem s_put (l : List Rw) (hl : l.length ≤ 1048576) (r : Rw) : Ev (fun k => spec_l2Put.f k l r.f0 r.f1 r.f2.f0 r.f2.f1 r.f3) (putR l r) := by
  unfold spec_l2Put.f
  simpa using put_loop l hl r l.length 0 [] (by omega) (by simp)
theorem sum_l1 (l : List Rw) (hl : l.length ≤ 1048576) (d : Nat) : ∀ (i : Nat) (out : List Rw), i + d = l.length → out.length ≤ i →
    Ev (fun k => spec_l2Sum.l1 k l out (i : Int)) (out ++ (l.drop i).filter fun r => r.f3 != 0) := by
  induction d with
  | zero =>
    intro i out hi ho
    rw [List.drop_eq_nil_of_le (by omega)]
    refine Ev.step (fun k => by rw [spec_l2Sum.l1]) (Ev.congr (fun k => if_neg (by omega)) ?_)
    simpa using Ev.now out
  | succ d ih =>
    intro i out hi ho
    refine Ev.step (fun k => by rw [spec_l2Sum.l1]) (Ev.congr (fun k => (if_pos (by omega)).trans (if_pos (by omega))) ?_)
    rw [up1 (by omega : i < l.length) (by omega), rdR_drop (by omega : i < l.length)]
    by_cases h : (rd_T90 l (i : Int)).f3 = 0
    · rw [List.filter_cons_of_neg (by simp [h])]
      exact Ev.congr (fun k => if_pos h) (ih (i + 1) out (by omega) (by omega))
    · rw [List.filter_cons_of_pos (by simp [h])]
      have := ih (i + 1) (out ++ [rd_T90 l (i : Int)]) (by omega) (by simp; omega)
      exact Ev.congr (fun k => (if_neg h).trans (if_pos (by omega))) (by simpa using this)
theorem sum_l0 (l : List Rw) (hl : l.length ≤ 1048576) (d : Nat) : ∀ (i : Nat) (s : List Rw), i + d = l.length → s.length ≤ i →
    Ev (fun k => spec_l2Sum.l0 k l s (i : Int)) (((l.drop i).foldl putR s).filter fun r => r.f3 != 0) := by
  induction d with
  | zero =>
    intro i s hi hs
    rw [List.drop_eq_nil_of_le (by omega)]
    refine Ev.step (fun k => by rw [spec_l2Sum.l0]) (Ev.congr (fun k => if_neg (by omega)) ?_)
    simpa using sum_l1 s (by omega) s.length 0 [] (by omega) (by simp)
  | succ d ih =>
    intro i s hi hs
    refine Ev.step (fun k => by rw [spec_l2Sum.l0]) (Ev.congr (fun k => (if_pos (by omega)).trans (if_pos (by omega))) ?_)
    refine Ev.bind (s_put s (by omega) (rd_T90 l (i : Int))) ?_
    rw [up1 (by omega : i < l.length) (by omega), rdR_drop (by omega : i < l.length), List.foldl_cons]
    have := putR_len s (rd_T90 l (i : Int))
    exact ih (i + 1) _ (by omega) (by omega)
theorem s_sum (l : List Rw) (hl : l.length ≤ 1048576) : Ev (fun k => spec_l2Sum.f k l) (consol l) := by
  unfold spec_l2Sum.f
  simpa [consol, csum] using sum_l0 l hl l.length 0 [] (by omega) (by simp)

theorem s_in (a b c : Int) : spec_l6In.f a b c = some (decide (b ≤ a ∧ a ≤ c)) := by
  unfold spec_l6In.f
  by_cases h0 : b ≤ a <;> by_cases h1 : a ≤ c <;> simp [h0, h1]

def rowOk (r : Rw) : Bool := decide (0 ≤ r.f0 ∧ r.f0 ≤ 3) && (decide (0 ≤ r.f1 ∧ r.f1 ≤ 99) && (okT r.f2.f0 r.f2.f1 && decide (-99999 ≤ r.f3 ∧ r.f3 ≤ 99999)))
def rowsOk (l : List Rw) : Bool := decide (l.length ≤ 400) && l.all rowOk
theorem s_l2Row (r : Rw) : spec_l2Row.f r.f0 r.f1 r.f2.f0 r.f2.f1 r.f3 = some (rowOk r) := by
  unfold spec_l2Row.f rowOk
  simp only [s_in, s_ok, Option.bind_some]
  cases decide (0 ≤ r.f0 ∧ r.f0 ≤ 3) <;> cases decide (0 ≤ r.f1 ∧ r.f1 ≤ 99) <;> cases okT r.f2.f0 r.f2.f1 <;> rfl
theorem s_rows_loop (l : List Rw) (hl : l.length ≤ 1048576) (d : Nat) : ∀ i : Nat, i + d = l.length → Ev (fun k => spec_RowsOk.l0 k l (i : Int)) ((l.drop i).all rowOk) := by
  induction d with
  | zero =>
    intro i hi
    rw [List.drop_eq_nil_of_le (by omega)]
    refine Ev.step (fun k => by rw [spec_RowsOk.l0]) ?_
    exact Ev.congr (fun k => if_neg (by omega)) (Ev.now _)
  | succ d ih =>
    intro i hi
    refine Ev.step (fun k => by rw [spec_RowsOk.l0]) ?_
    refine Ev.congr (fun k => (if_pos (by omega)).trans (if_pos (by omega))) ?_
    refine Ev.bind ⟨0, fun k _ => s_l2Row _⟩ ?_
    rw [rdR_drop (by omega : i < l.length), List.all_cons]
    cases rowOk (rd_T90 l (i : Int)) with
    | false => exact Ev.now _
    | true =>
      refine Ev.congr (fun k => if_pos rfl) ?_
      rw [up1 (by omega : i < l.length) (by omega)]
      exact ih (i + 1) (by omega)
theorem s_rows (l : List Rw) (hl : l.length ≤ 1048576) : Ev (fun k => spec_RowsOk.f k l) (rowsOk l) := by
  unfold spec_RowsOk.f rowsOk
  by_cases h : l.length ≤ 400
  · rw [decide_eq_true h]
    exact Ev.congr (fun k => if_neg (by omega)) (by simpa using s_rows_loop l hl l.length 0 (by omega))
  · rw [decide_eq_false h]
    exact Ev.congr (fun k => if_pos (by omega)) (Ev.now _)

/-! items as rows of one time -/
def rwI (x : It) : Rw := ⟨x.f0, x.f1, ⟨0, 0⟩, x.f2⟩
def itR (r : Rw) : It := ⟨r.f0, r.f1, r.f3⟩
def itemsOf (l : List It) : List It := (consol (l.map rwI)).map itR
theorem itemsOf_len (l : List It) : (itemsOf l).length ≤ l.length := by
  unfold itemsOf
  have := consol_len (l.map rwI)
  simpa using this
theorem items_l1 (l : List Rw) (hl : l.length ≤ 1048576) (d : Nat) : ∀ (i : Nat) (out : List It), i + d = l.length → out.length ≤ i →
    Ev (fun k => spec_l2Items.l1 k l out (i : Int)) (out ++ (l.drop i).map itR) := by
  induction d with
  | zero =>
    intro i out hi ho
    rw [List.drop_eq_nil_of_le (by omega)]
    refine Ev.step (fun k => by rw [spec_l2Items.l1]) (Ev.congr (fun k => if_neg (by omega)) ?_)
    simpa using Ev.now out
  | succ d ih =>
    intro i out hi ho
    refine Ev.step (fun k => by rw [spec_l2Items.l1]) (Ev.congr (fun k => (if_pos (by omega)).trans ((if_pos (by omega)).trans (if_pos (by omega)))) ?_)
    rw [up1 (by omega : i < l.length) (by omega), rdR_drop (by omega : i < l.length)]
    have := ih (i + 1) (out ++ [itR (rd_T90 l (i : Int))]) (by omega) (by simp; omega)
    simpa [itR] using this
theorem items_l0 (l : List It) (hl : l.length ≤ 1048576) (d : Nat) : ∀ (i : Nat) (out : List Rw), i + d = l.length → out.length ≤ i →
    Ev (fun k => spec_l2Items.l0 k l out (i : Int)) ((consol (out ++ (l.drop i).map rwI)).map itR) := by
  induction d with
  | zero =>
    intro i out hi ho
    rw [List.drop_eq_nil_of_le (by omega)]
    have hc := consol_len out
    refine Ev.step (fun k => by rw [spec_l2Items.l0]) (Ev.congr (fun k => if_neg (by omega)) ?_)
    refine Ev.bind (s_sum out (by omega)) ?_
    simpa using items_l1 (consol out) (by omega) (consol out).length 0 [] (by omega) (by simp)
  | succ d ih =>
    intro i out hi ho
    refine Ev.step (fun k => by rw [spec_l2Items.l0]) (Ev.congr (fun k => (if_pos (by omega)).trans ((if_pos (by omega)).trans (if_pos (by omega)))) ?_)
    rw [up1 (by omega : i < l.length) (by omega), rdI_drop (by omega : i < l.length)]
    have := ih (i + 1) (out ++ [rwI (rd_T80 l (i : Int))]) (by omega) (by simp; omega)
    simpa [rwI] using this
theorem s_items (l : List It) (hl : l.length ≤ 1048576) : Ev (fun k => spec_l2Items.f k l) (itemsOf l) := by
  unfold spec_l2Items.f itemsOf
  simpa using items_l0 l hl l.length 0 [] (by omega) (by simp)

/-! BatchAt, of the reference -/
def rowsAt (l : List Rw) (a b : Int) : List It := (l.filter fun r => leT r.f2.f0 r.f2.f1 a b).map itR
def batchAt (l : List Rw) (a b : Int) : List It := if rowsOk l && okT a b then itemsOf (rowsAt l a b) else []
theorem rowsAt_len (l : List Rw) (a b : Int) : (rowsAt l a b).length ≤ l.length := by
  unfold rowsAt
  rw [List.length_map]
  exact List.length_filter_le _ _
theorem batchAt_len (l : List Rw) (a b : Int) : (batchAt l a b).length ≤ l.length := by
  unfold batchAt
  split
  · exact Nat.le_trans (itemsOf_len _) (rowsAt_len _ _ _)
  · simp
theorem at_loop (l : List Rw) (a b : Int) (hl : l.length ≤ 1048576) (d : Nat) : ∀ (i : Nat) (out : List It), i + d = l.length → out.length ≤ i →
    Ev (fun k => spec_BatchAt.l0 k l out (i : Int) a b) (itemsOf (out ++ rowsAt (l.drop i) a b)) := by
  induction d with
  | zero =>
    intro i out hi ho
    rw [List.drop_eq_nil_of_le (by omega)]
    refine Ev.step (fun k => by rw [spec_BatchAt.l0]) (Ev.congr (fun k => if_neg (by omega)) ?_)
    refine Ev.bind (s_items out (by omega)) ?_
    simpa [rowsAt] using Ev.now _
  | succ d ih =>
    intro i out hi ho
    refine Ev.step (fun k => by rw [spec_BatchAt.l0]) (Ev.congr (fun k => (if_pos (by omega)).trans (if_pos (by omega))) ?_)
    refine Ev.bind ⟨0, fun k _ => s_less _ _ _ _⟩ ?_
    rw [up1 (by omega : i < l.length) (by omega), rdR_drop (by omega : i < l.length)]
    cases h : leT (rd_T90 l (i : Int)).f2.f0 (rd_T90 l (i : Int)).f2.f1 a b with
    | true =>
      rw [show rowsAt (rd_T90 l (i : Int) :: l.drop (i + 1)) a b = itR (rd_T90 l (i : Int)) :: rowsAt (l.drop (i + 1)) a b by simp [rowsAt, h]]
      have := ih (i + 1) (out ++ [itR (rd_T90 l (i : Int))]) (by omega) (by simp; omega)
      exact Ev.congr (fun k => (if_pos rfl).trans (if_pos (by omega))) (by simpa [itR] using this)
    | false =>
      rw [show rowsAt (rd_T90 l (i : Int) :: l.drop (i + 1)) a b = rowsAt (l.drop (i + 1)) a b by simp [rowsAt, h]]
      exact Ev.congr (fun k => if_neg (by simp)) (ih (i + 1) out (by omega) (by omega))
theorem s_batchAt (l : List Rw) (a b : Int) (hl : l.length ≤ 1048576) : Ev (fun k => spec_BatchAt.f k l a b) (batchAt l a b) := by
  unfold spec_BatchAt.f batchAt
  refine Ev.bind (Ev.now _) (Ev.bind (s_rows l hl) ?_)
  have out : Ev (fun k => spec_BatchAt.j0 k l [] true a b) [] := by
    refine Ev.step (fun k => by rw [spec_BatchAt.j0]) ?_
    exact Ev.congr (fun k => if_pos rfl) (Ev.now _)
  cases rowsOk l with
  | false => exact Ev.congr (fun k => if_neg (by simp)) out
  | true =>
    refine Ev.congr (fun k => if_pos rfl) (Ev.bind ⟨0, fun k _ => s_ok _ _⟩ ?_)
    cases okT a b with
    | false => exact out
    | true =>
      refine Ev.step (fun k => by rw [spec_BatchAt.j0]) (Ev.congr (fun k => if_neg (by simp)) ?_)
      simpa using at_loop l a b hl l.length 0 [] (by omega) (by simp)

/-! collections -/
def itOk (x : It) : Bool := decide (0 ≤ x.f0 ∧ x.f0 ≤ 3) && (decide (0 ≤ x.f1 ∧ x.f1 ≤ 99) && ((x.f2 != 0) && decide (-1099511627776 ≤ x.f2 ∧ x.f2 ≤ 1099511627776)))
def ilt (x y : It) : Bool := decide (x.f0 < y.f0 ∨ x.f0 = y.f0 ∧ x.f1 < y.f1)
def sOk1 (p : It) : List It → Bool
  | [] => true
  | y :: r => itOk y && ilt p y && sOk1 y r
def sOk : List It → Bool
  | [] => true
  | x :: r => itOk x && sOk1 x r
def setOk (l : List It) : Bool := decide (l.length ≤ 400) && sOk l

theorem s_l3Item (x : It) : spec_l3Item.f x.f0 x.f1 x.f2 = some (decide (0 ≤ x.f0 ∧ x.f0 ≤ 3) && (decide (0 ≤ x.f1 ∧ x.f1 ≤ 99) && (x.f2 != 0))) := by
  unfold spec_l3Item.f
  simp only [s_in, Option.bind_some]
  cases decide (0 ≤ x.f0 ∧ x.f0 ≤ 3) <;> cases decide (0 ≤ x.f1 ∧ x.f1 ≤ 99) <;> rfl
theorem s_set_loop (l : List It) (hl : l.length ≤ 1048576) (d : Nat) : ∀ i : Nat, i + 1 + d = l.length → Ev (fun k => spec_SetOk.l0 k l ((i + 1 : Nat) : Int)) (sOk1 (rd_T80 l (i : Int)) (l.drop (i + 1))) := by
  induction d with
  | zero =>
    intro i hi
    refine Ev.step (fun k => by rw [spec_SetOk.l0]) (Ev.congr (fun k => if_neg (by omega)) ?_)
    rw [List.drop_eq_nil_of_le (by omega)]
    exact Ev.now _
  | succ d ih =>
    intro i hi
    rw [rdI_drop (by omega : i + 1 < l.length)]
    unfold sOk1
    have e : wrap64 (((i + 1 : Nat) : Int) - 1) = (i : Int) := by rw [w64 (by omega) (by omega)]; omega
    have e2 : wrap64 (-1099511627776) = -1099511627776 := w64 (by omega) (by omega)
    refine Ev.step (fun k => by rw [spec_SetOk.l0]) (Ev.congr (fun k => (if_pos (by omega)).trans (if_pos (by omega))) ?_)
    refine Ev.bind ⟨0, fun k _ => s_l3Item _⟩ ?_
    rw [e, up1 (by omega : i + 1 < l.length) (by omega)]
    have ih' := ih (i + 1) (by omega)
    generalize rd_T80 l ((i + 1 : Nat) : Int) = y at *
    generalize rd_T80 l (i : Int) = p at *
    have no : itOk y = false → Ev (fun _ : Nat => some false) (itOk y && ilt p y && sOk1 y (l.drop (i + 1 + 1))) := fun h => by rw [h]; exact Ev.now _
    cases c1 : (decide (0 ≤ y.f0 ∧ y.f0 ≤ 3) && (decide (0 ≤ y.f1 ∧ y.f1 ≤ 99) && (y.f2 != 0))) with
    | false => exact Ev.congr (fun k => if_neg (by simp)) (no (by
        unfold itOk
        rw [← Bool.and_assoc, ← Bool.and_assoc, Bool.and_assoc (decide _) (decide _), c1, Bool.false_and]))
    | true =>
      refine Ev.congr (fun k => if_pos rfl) (Ev.bind (Ev.now _) (Ev.bind (Ev.now _) (Ev.bind ⟨0, fun k _ => s_in _ _ _⟩ ?_)))
      rw [e2]
      have ei : itOk y = decide (-1099511627776 ≤ y.f2 ∧ y.f2 ≤ 1099511627776) := by
        unfold itOk
        rw [← Bool.and_assoc, ← Bool.and_assoc, Bool.and_assoc (decide _) (decide _), c1, Bool.true_and]
      cases c2 : decide (-1099511627776 ≤ y.f2 ∧ y.f2 ≤ 1099511627776) with
      | false => exact Ev.congr (fun k => if_neg (by simp)) (no (by rw [ei, c2]))
      | true =>
        rw [ei, c2, Bool.true_and]
        refine Ev.congr (fun k => (if_pos rfl).trans ((if_pos (by omega)).trans ((if_pos (by omega)).trans (if_pos (by omega))))) ?_
        by_cases h1 : p.f0 > y.f0
        · refine Ev.congr (fun k => if_pos h1) ?_
          rw [show ilt p y = false from decide_eq_false (by omega)]
          exact Ev.now _
        · refine Ev.congr (fun k => if_neg h1) ?_
          by_cases h2 : p.f0 = y.f0
          · refine Ev.congr (fun k => if_pos h2) ?_
            by_cases h3 : p.f1 ≥ y.f1
            · refine Ev.congr (fun k => if_pos h3) ?_
              rw [show ilt p y = false from decide_eq_false (by omega)]
              exact Ev.now _
            · refine Ev.congr (fun k => if_neg h3) ?_
              rw [show ilt p y = true from decide_eq_true (by omega)]
              exact ih'
          · refine Ev.congr (fun k => if_neg h2) ?_
            rw [show ilt p y = true from decide_eq_true (by omega)]
            exact ih'
theorem s_set (l : List It) (hl : l.length ≤ 1048576) : Ev (fun k => spec_SetOk.f k l) (setOk l) := by
  unfold spec_SetOk.f setOk
  by_cases h : (l.length : Int) > 400
  · rw [decide_eq_false (by omega)]
    exact Ev.congr (fun k => if_pos h) (Ev.now _)
  rw [decide_eq_true (by omega), Bool.true_and]
  refine Ev.congr (fun k => if_neg h) ?_
  cases l with
  | nil =>
    refine Ev.step (fun k => by rw [spec_SetOk.l0]) ?_
    exact (Ev.congr (fun k => if_neg (by simp)) (Ev.now _))
  | cons x r =>
    refine Ev.step (fun k => by rw [spec_SetOk.l0]) (Ev.congr (fun k => (if_pos (by simp)).trans (if_pos (by omega))) ?_)
    have e2 : wrap64 (-1099511627776) = -1099511627776 := w64 (by omega) (by omega)
    refine Ev.bind ⟨0, fun k _ => s_l3Item _⟩ ?_
    have hx : rd_T80 (x :: r) 0 = x := rfl
    rw [hx]
    rw [show sOk (x :: r) = (itOk x && sOk1 x r) from rfl]
    cases c1 : (decide (0 ≤ x.f0 ∧ x.f0 ≤ 3) && (decide (0 ≤ x.f1 ∧ x.f1 ≤ 99) && (x.f2 != 0))) with
    | false =>
      rw [show itOk x = false from by
        unfold itOk
        rw [← Bool.and_assoc, ← Bool.and_assoc, Bool.and_assoc (decide _) (decide _), c1, Bool.false_and]]
      exact Ev.now _
    | true =>
      refine Ev.congr (fun k => if_pos rfl) (Ev.bind (Ev.now _) (Ev.bind (Ev.now _) (Ev.bind ⟨0, fun k _ => s_in _ _ _⟩ ?_)))
      rw [e2]
      have ei : itOk x = decide (-1099511627776 ≤ x.f2 ∧ x.f2 ≤ 1099511627776) := by
        unfold itOk
        rw [← Bool.and_assoc, ← Bool.and_assoc, Bool.and_assoc (decide _) (decide _), c1, Bool.true_and]
      rw [ei]
      cases c2 : decide (-1099511627776 ≤ x.f2 ∧ x.f2 ≤ 1099511627776) with
      | false => exact Ev.now _
      | true =>
        refine Ev.congr (fun k => (if_pos rfl).trans (if_neg (by omega))) ?_
        have := s_set_loop (x :: r) hl r.length 0 (by simp; omega)
        simpa [w64, hx] using this

theorem i_set_tests {g : Nat → Bool → Option Bool} {y : It} {r : Bool} (cont : ∀ b : Bool, (b = true ↔ itOk y = false) → Ev (fun k => g k b) r) :
    Ev (fun k => if y.f0 < 0 then g k true else if y.f0 ≥ 4 then g k true else if y.f1 < 0 then g k true else if y.f1 ≥ 100 then g k true else if y.f2 = 0 then g k true else if y.f2 < (-1099511627776) then g k true else g k (decide (y.f2 > 1099511627776))) r := by
  have no : itOk y = false → Ev (fun k => g k true) r := fun h => cont true ⟨fun _ => h, fun _ => rfl⟩
  by_cases c0 : y.f0 < 0
  · exact Ev.congr (fun k => if_pos c0) (no (by simp [itOk]; omega))
  refine Ev.congr (fun k => if_neg c0) ?_
  by_cases c1 : y.f0 ≥ 4
  · exact Ev.congr (fun k => if_pos c1) (no (by simp [itOk]; omega))
  refine Ev.congr (fun k => if_neg c1) ?_
  by_cases c2 : y.f1 < 0
  · exact Ev.congr (fun k => if_pos c2) (no (by simp [itOk]; omega))
  refine Ev.congr (fun k => if_neg c2) ?_
  by_cases c3 : y.f1 ≥ 100
  · exact Ev.congr (fun k => if_pos c3) (no (by simp [itOk]; omega))
  refine Ev.congr (fun k => if_neg c3) ?_
  by_cases c4 : y.f2 = 0
  · exact Ev.congr (fun k => if_pos c4) (no (by simp [itOk, c4]))
  refine Ev.congr (fun k => if_neg c4) ?_
  by_cases c5 : y.f2 < (-1099511627776)
  · exact Ev.congr (fun k => if_pos c5) (no (by simp [itOk]; omega))
  refine Ev.congr (fun k => if_neg c5) (cont _ ?_)
  rw [decide_eq_true_eq]
  simp [itOk]
  omega

theorem i_set_loop (l : List It) (hl : l.length ≤ 1048576) (d : Nat) : ∀ i : Nat, i + 1 + d = l.length → Ev (fun k => impl_SetOk.l0 k l l (l.length : Int) ((i + 1 : Nat) : Int)) (sOk1 (rd_T80 l (i : Int)) (l.drop (i + 1)) && decide (l.length ≤ 400)) := by
  induction d with
  | zero =>
    intro i hi
    refine Ev.step (fun k => by rw [impl_SetOk.l0]) (Ev.congr (fun k => if_neg (by omega)) ?_)
    rw [List.drop_eq_nil_of_le (by omega)]
    have : decide ((l.length : Int) ≤ 400) = decide (l.length ≤ 400) := by rw [decide_eq_decide]; omega
    rw [this]
    exact Ev.now _
  | succ d ih =>
    intro i hi
    rw [rdI_drop (by omega : i + 1 < l.length)]
    unfold sOk1
    have e : wrap64 (((i + 1 : Nat) : Int) - 1) = (i : Int) := by rw [w64 (by omega) (by omega)]; omega
    refine Ev.step (fun k => by rw [impl_SetOk.l0]) (Ev.congr (fun k => (if_pos (by omega)).trans ((if_pos (by omega)).trans (if_pos (by omega)))) ?_)
    have ih' := ih (i + 1) (by omega)
    have cont : ∀ b : Bool, (b = true ↔ itOk (rd_T80 l ((i + 1 : Nat) : Int)) = false) →
        Ev (fun k => impl_SetOk.j1 k l ((i + 1 : Nat) : Int) l (l.length : Int) ((i + 1 : Nat) : Int) b (rd_T80 l ((i + 1 : Nat) : Int)).f0 (rd_T80 l ((i + 1 : Nat) : Int)).f1 (rd_T80 l ((i + 1 : Nat) : Int)).f2)
          (itOk (rd_T80 l ((i + 1 : Nat) : Int)) && ilt (rd_T80 l (i : Int)) (rd_T80 l ((i + 1 : Nat) : Int)) && sOk1 (rd_T80 l ((i + 1 : Nat) : Int)) (l.drop (i + 1 + 1)) && decide (l.length ≤ 400)) := by
      intro b hb
      refine Ev.step (fun k => by rw [impl_SetOk.j1]) ?_
      rw [e, up1 (by omega : i + 1 < l.length) (by omega)]
      generalize rd_T80 l ((i + 1 : Nat) : Int) = y at *
      generalize rd_T80 l (i : Int) = p at *
      cases b with
      | true =>
        rw [hb.1 rfl]
        exact Ev.now _
      | false =>
        have hy : itOk y = true := by
          cases h : itOk y with
          | true => rfl
          | false => exact absurd (hb.2 h) (by simp)
        rw [hy, Bool.true_and]
        refine Ev.congr (fun k => (if_neg (by simp)).trans ((if_pos (by omega)).trans ((if_pos (by omega)).trans (if_pos (by omega))))) ?_
        by_cases h1 : p.f0 > y.f0
        · refine Ev.congr (fun k => if_pos h1) ?_
          rw [show ilt p y = false from decide_eq_false (by omega)]
          exact Ev.now _
        · refine Ev.congr (fun k => if_neg h1) ?_
          by_cases h2 : p.f0 = y.f0
          · refine Ev.congr (fun k => if_pos h2) ?_
            by_cases h3 : p.f1 ≥ y.f1
            · refine Ev.congr (fun k => if_pos h3) ?_
              rw [show ilt p y = false from decide_eq_false (by omega)]
              exact Ev.now _
            · refine Ev.congr (fun k => if_neg h3) ?_
              rw [show ilt p y = true from decide_eq_true (by omega)]
              exact ih'
          · refine Ev.congr (fun k => if_neg h2) ?_
            rw [show ilt p y = true from decide_eq_true (by omega)]
            exact ih'
    exact i_set_tests (y := rd_T80 l ((i + 1 : Nat) : Int)) (g := fun k b => impl_SetOk.j1 k l ((i + 1 : Nat) : Int) l (l.length : Int) ((i + 1 : Nat) : Int) b (rd_T80 l ((i + 1 : Nat) : Int)).f0 (rd_T80 l ((i + 1 : Nat) : Int)).f1 (rd_T80 l ((i + 1 : Nat) : Int)).f2) cont
theorem i_set (l : List It) (hl : l.length ≤ 1048576) : Ev (fun k => impl_SetOk.f k l) (setOk l) := by
  unfold impl_SetOk.f setOk
  cases l with
  | nil =>
    refine Ev.step (fun k => by rw [impl_SetOk.l0]) ?_
    exact (Ev.congr (fun k => if_neg (by simp)) (Ev.now _))
  | cons x r =>
    refine Ev.step (fun k => by rw [impl_SetOk.l0]) (Ev.congr (fun k => (if_pos (by simp)).trans ((if_pos (by omega)).trans (if_pos (by simp)))) ?_)
    have hx : rd_T80 (x :: r) 0 = x := rfl
    rw [hx]
    refine i_set_tests (y := x) (g := fun k b => impl_SetOk.j1 k (x :: r) 0 (x :: r) ((x :: r).length : Int) 0 b x.f0 x.f1 x.f2) fun b hb => ?_
    refine Ev.step (fun k => by rw [impl_SetOk.j1]) ?_
    rw [show sOk (x :: r) = (itOk x && sOk1 x r) from rfl]
    cases b with
    | true =>
      rw [hb.1 rfl, Bool.false_and, Bool.and_false]
      exact Ev.now _
    | false =>
      have hy : itOk x = true := by
        cases h : itOk x with
        | true => rfl
        | false => exact absurd (hb.2 h) (by simp)
      rw [hy, Bool.true_and, Bool.and_comm]
      refine Ev.congr (fun k => (if_neg (by simp)).trans (if_neg (by omega))) ?_
      have := i_set_loop (x :: r) hl r.length 0 (by simp; omega)
      simpa [w64, hx] using this

/-! a collection is in order -/
theorem sOk1_facts {p : It} {l : List It} (h : sOk1 p l = true) : (∀ x ∈ l, itOk x = true) ∧ (p :: l).Pairwise (fun x y => ilt x y = true) := by
  induction l generalizing p with
  | nil => exact ⟨fun x hx => by simp at hx, List.pairwise_singleton _ _⟩
  | cons y r ih =>
    simp only [sOk1, Bool.and_eq_true] at h
    obtain ⟨⟨h1, h2⟩, h3⟩ := h
    obtain ⟨g1, g2⟩ := ih h3
    refine ⟨fun x hx => ?_, List.pairwise_cons.2 ⟨fun x hx => ?_, g2⟩⟩
    · rcases List.mem_cons.1 hx with rfl | hx
      · exact h1
      · exact g1 x hx
    · rcases List.mem_cons.1 hx with rfl | hx
      · exact h2
      · have h4 := (List.pairwise_cons.1 g2).1 x hx
        simp only [ilt, decide_eq_true_eq] at h2 h4 ⊢
        omega
theorem setOk_facts {l : List It} (h : setOk l = true) : l.length ≤ 400 ∧ (∀ x ∈ l, itOk x = true) ∧ l.Pairwise (fun x y => ilt x y = true) := by
  unfold setOk at h
  simp only [Bool.and_eq_true, decide_eq_true_eq] at h
  refine ⟨h.1, ?_⟩
  cases l with
  | nil => exact ⟨fun x hx => by simp at hx, List.Pairwise.nil⟩
  | cons x r =>
    have h2 := h.2
    simp only [sOk, Bool.and_eq_true] at h2
    obtain ⟨g1, g2⟩ := sOk1_facts h2.2
    refine ⟨fun y hy => ?_, g2⟩
    rcases List.mem_cons.1 hy with rfl | hy
    · exact h2.1
    · exact g1 y hy
theorem itOk_key {x : It} (h : itOk x = true) : 0 ≤ x.f0 ∧ x.f0 ≤ 3 := by
  simp only [itOk, Bool.and_eq_true, decide_eq_true_eq] at h
  exact h.1
/-- A list in order, cut by its keys, is the list. -/
theorem by_keys {l : List It} (hk : ∀ x ∈ l, 0 ≤ x.f0 ∧ x.f0 ≤ 3) (hs : l.Pairwise fun x y => x.f0 ≤ y.f0) :
    l.filter (fun x => x.f0 == 0) ++ (l.filter (fun x => x.f0 == 1) ++ (l.filter (fun x => x.f0 == 2) ++ l.filter (fun x => x.f0 == 3))) = l := by
  induction l with
  | nil => rfl
  | cons y r ih =>
    have ih' := ih (fun x hx => hk x (List.mem_cons_of_mem _ hx)) (List.pairwise_cons.1 hs).2
    have hge := (List.pairwise_cons.1 hs).1
    have low : ∀ k : Int, k < y.f0 → r.filter (fun x => x.f0 == k) = [] := fun k hk2 => by
      rw [List.filter_eq_nil_iff]
      intro x hx
      have := hge x hx
      simp only [beq_iff_eq]
      omega
    have hy := hk y List.mem_cons_self
    have c : y.f0 = 0 ∨ y.f0 = 1 ∨ y.f0 = 2 ∨ y.f0 = 3 := by omega
    rcases c with c | c | c | c
    · simp only [List.filter_cons, c]
      simpa using ih'
    · have l0 := low 0 (by omega)
      rw [l0] at ih'
      simp only [List.filter_cons, c, l0]
      simpa using ih'
    · have l0 := low 0 (by omega)
      have l1 := low 1 (by omega)
      rw [l0, l1] at ih'
      simp only [List.filter_cons, c, l0, l1]
      simpa using ih'
    · have l0 := low 0 (by omega)
      have l1 := low 1 (by omega)
      have l2 := low 2 (by omega)
      rw [l0, l1, l2] at ih'
      simp only [List.filter_cons, c, l0, l1, l2]
      simpa using ih'

theorem sOk1_mk {p : It} {l : List It} (h : ∀ x ∈ l, itOk x = true) (hp : (p :: l).Pairwise (fun x y => ilt x y = true)) : sOk1 p l = true := by
  induction l generalizing p with
  | nil => rfl
  | cons y r ih =>
    obtain ⟨h1, h2⟩ := List.pairwise_cons.1 hp
    simp only [sOk1, Bool.and_eq_true]
    exact ⟨⟨h y List.mem_cons_self, h1 y List.mem_cons_self⟩, ih (fun x hx => h x (List.mem_cons_of_mem _ hx)) h2⟩
theorem setOk_mk {l : List It} (h0 : l.length ≤ 400) (h : ∀ x ∈ l, itOk x = true) (hp : l.Pairwise (fun x y => ilt x y = true)) : setOk l = true := by
  unfold setOk
  rw [decide_eq_true h0, Bool.true_and]
  cases l with
  | nil => rfl
  | cons x r =>
    simp only [sOk, Bool.and_eq_true]
    exact ⟨h x List.mem_cons_self, sOk1_mk (fun y hy => h y (List.mem_cons_of_mem _ hy)) hp⟩

/-! the program's gathered items are the reference's -/
theorem put_rwI (a : List It) (x : It) : putR (a.map rwI) (rwI x) = (putI a x).map rwI := by
  induction a with
  | nil => rfl
  | cons y a ih =>
    rw [List.map_cons, putR, putI]
    by_cases h1 : ltI x y = true
    · have h1' := ltI_iff.1 h1
      rw [if_pos h1, if_pos (by unfold klt rkey rwI; simp only; omega)]
      rfl
    · have h1' : ¬ (x.f0 < y.f0 ∨ x.f0 = y.f0 ∧ x.f1 < y.f1) := fun k => h1 (ltI_iff.2 k)
      rw [if_neg h1, if_neg (by unfold klt rkey rwI; simp only; omega)]
      by_cases h2 : y.f0 = x.f0 ∧ y.f1 = x.f1
      · rw [if_pos h2, if_pos (by simp only [rkey, rwI, h2.1, h2.2])]
        rfl
      · rw [if_neg h2, if_neg (fun k => h2 (by simp only [rkey, rwI, Prod.mk.injEq] at k; exact ⟨k.1, k.2.1⟩)), ih]
        rfl
theorem fold_rwI (l : List It) : ∀ a : List It, (l.map rwI).foldl putR (a.map rwI) = (l.foldl putI a).map rwI := by
  induction l with
  | nil => intro a; rfl
  | cons x l ih =>
    intro a
    rw [List.map_cons, List.foldl_cons, List.foldl_cons, put_rwI, ih]
theorem gath_items (l : List It) : gathI l = itemsOf l := by
  unfold gathI itemsOf consol csum
  have := fold_rwI l []
  rw [List.map_nil] at this
  rw [this, List.filter_map, List.map_map]
  have e : (fun r : Rw => r.f3 != 0) ∘ rwI = fun x : It => x.f2 != 0 := rfl
  rw [e]
  have e2 : itR ∘ rwI = id := rfl
  rw [e2, List.map_id]
theorem itOk_ok {x : It} (h : itOk x = true) : ok80 x = true := by
  simp only [itOk, Bool.and_eq_true, decide_eq_true_eq] at h
  simp only [ok80, Bool.and_eq_true, wf64_iff]
  omega
theorem i_gathered (l : List It) (hl : l.length ≤ 1000000) (hok : ∀ x ∈ l, ok80 x = true) : impl_gathered.f l = some (itemsOf l) := by
  unfold impl_gathered.f
  rw [if_pos ⟨hl, List.all_eq_true.2 hok⟩, gath_items]

/-! SetBoth -/
def setBoth (a b : List It) : List It := if setOk a && setOk b then itemsOf (a ++ b) else []
theorem setBoth_len (a b : List It) : (setBoth a b).length ≤ 1048576 := by
  unfold setBoth
  split
  · rename_i h
    simp only [Bool.and_eq_true] at h
    have h1 := (setOk_facts h.1).1
    have h2 := (setOk_facts h.2).1
    have := itemsOf_len (a ++ b)
    rw [List.length_append] at this
    omega
  · simp

theorem s_setboth (a b : List It) (ha : a.length ≤ 1048576) (hb : b.length ≤ 1048576) : Ev (fun k => spec_SetBoth.f k a b) (setBoth a b) := by
  unfold spec_SetBoth.f setBoth
  refine Ev.bind (s_set a ha) ?_
  cases hok : setOk a with
  | false => exact Ev.congr (fun k => if_neg (by simp)) (Ev.now _)
  | true =>
    refine Ev.congr (fun k => if_pos rfl) (Ev.bind (s_set b hb) ?_)
    cases hok2 : setOk b with
    | false => exact Ev.congr (fun k => if_neg (by simp)) (Ev.now _)
    | true =>
      refine Ev.congr (fun k => if_pos rfl) (Ev.bind (Ev.now _) (Ev.congr (fun k => if_pos (by simp; omega)) (Ev.bind (Ev.now _) (Ev.congr (fun k => if_pos (by simp; omega)) ?_))))
      exact Ev.bind (s_items ([] ++ a ++ b) (by simp; have := (setOk_facts hok).1; have := (setOk_facts hok2).1; omega)) (by simpa using Ev.now _)

theorem i_setboth (a b : List It) (ha : a.length ≤ 1048576) (hb : b.length ≤ 1048576) : Ev (fun k => impl_SetBoth.f k a b) (setBoth a b) := by
  unfold impl_SetBoth.f setBoth
  refine Ev.bind (i_set a ha) ?_
  cases hok : setOk a with
  | false => exact Ev.congr (fun k => if_neg (by simp)) (Ev.now _)
  | true =>
    refine Ev.congr (fun k => if_pos rfl) (Ev.bind (i_set b hb) ?_)
    cases hok2 : setOk b with
    | false => exact Ev.congr (fun k => if_neg (by simp)) (Ev.now _)
    | true =>
      obtain ⟨a1, a2, _⟩ := setOk_facts hok
      obtain ⟨b1, b2, _⟩ := setOk_facts hok2
      refine Ev.congr (fun k => if_pos rfl) (Ev.bind (Ev.now _) (Ev.congr (fun k => if_pos (by simp; omega)) (Ev.bind (Ev.now _) (Ev.congr (fun k => if_pos (by simp; omega)) ?_))))
      refine Ev.bind (a := itemsOf (a ++ b)) ⟨0, fun k _ => ?_⟩ (Ev.now _)
      rw [List.nil_append]
      exact i_gathered (a ++ b) (by simp; omega) fun x hx => by
        rcases List.mem_append.1 hx with hx | hx
        · exact itOk_ok (a2 x hx)
        · exact itOk_ok (b2 x hx)


/-! both collections together -/
theorem vget_ok {l : List It} (h : ∀ x ∈ l, ok80 x = true) (p q : Int) : wf64 (vget p q l) = true := by
  induction l with
  | nil => exact wf64_iff.2 (by simp only [vget]; omega)
  | cons x r ih =>
    rw [vget]
    split
    · have := h x List.mem_cons_self
      simp only [ok80, Bool.and_eq_true] at this
      exact this.2.2
    · exact ih fun y hy => h y (List.mem_cons_of_mem _ hy)
theorem vsum_none {l : List It} {p q : Int} (h : ∀ y ∈ l, ¬ (y.f0 = p ∧ y.f1 = q)) : ∀ n, vsum ⟨p, q, 0⟩ n l = n := by
  induction l with
  | nil => intro n; rfl
  | cons x r ih =>
    intro n
    rw [vsum, if_neg (fun k => h x List.mem_cons_self ⟨k.1, k.2.1⟩)]
    exact ih (fun y hy => h y (List.mem_cons_of_mem _ hy)) n
theorem vsum_sort {l : List It} (hs : SortI l) (p q : Int) : ∀ n, wf64 n = true → vsum ⟨p, q, 0⟩ n l = wrap64 (n + vget p q l) := by
  induction l with
  | nil =>
    intro n hn
    rw [vsum, vget, Int.add_zero, wrap_self hn]
  | cons x r ih =>
    intro n hn
    obtain ⟨h1, h2⟩ := List.pairwise_cons.1 hs
    rw [vsum, vget]
    by_cases hk : x.f0 = p ∧ x.f1 = q
    · rw [if_pos ⟨hk.1, hk.2, rfl⟩, if_pos hk]
      exact vsum_none (fun y hy k => by have := ltI_iff.1 (h1 y hy); omega) _
    · rw [if_neg (fun k => hk ⟨k.1, k.2.1⟩), if_neg hk]
      exact ih h2 n hn
theorem vsum_append (c : It) (a b : List It) : ∀ n, vsum c n (a ++ b) = vsum c (vsum c n a) b := by
  induction a with
  | nil => intro n; rfl
  | cons x r ih => intro n; exact ih _
theorem setOk_sort {l : List It} (h : setOk l = true) : SortI l ∧ (∀ x ∈ l, itOk x = true) ∧ l.length ≤ 400 := by
  obtain ⟨h1, h2, h3⟩ := setOk_facts h
  exact ⟨h3.imp fun k => by simp only [ilt, decide_eq_true_eq] at k; exact ltI_iff.2 k, h2, h1⟩
theorem both_facts {s t : List It} (hs : setOk s = true) (ht : setOk t = true) : SortI (itemsOf (s ++ t)) ∧ (∀ x ∈ itemsOf (s ++ t), ok80 x = true ∧ x.f2 ≠ 0) ∧ ∀ p q, vget p q (itemsOf (s ++ t)) = wrap64 (vget p q s + vget p q t) := by
  obtain ⟨s1, s2, _⟩ := setOk_sort hs
  obtain ⟨t1, t2, _⟩ := setOk_sort ht
  have so : ∀ x ∈ s, ok80 x = true := fun x hx => itOk_ok (s2 x hx)
  have hok : ∀ x ∈ s ++ t, ok80 x = true := fun x hx => by
    rcases List.mem_append.1 hx with hx | hx
    · exact so x hx
    · exact itOk_ok (t2 x hx)
  obtain ⟨f1, f2, f3⟩ := fold_facts (s ++ t) hok [] List.Pairwise.nil (fun x hx => by simp at hx)
  rw [← gath_items]
  refine ⟨f1.filter _, fun x hx => ?_, fun p q => ?_⟩
  · obtain ⟨h1, h2⟩ := List.mem_filter.1 hx
    exact ⟨f2 x h1, by simpa using h2⟩
  · unfold gathI
    rw [vget_filter f1, f3, vget, vsum_append, vsum_sort s1 p q 0 (by decide), vsum_sort t1 p q _ (wf_wrap64 _), Int.zero_add, wrap_self (vget_ok so p q)]
theorem both_nil {s : List It} (hs : setOk s = true) : itemsOf (s ++ []) = s := by
  obtain ⟨h1, h2, h3⟩ := both_facts hs (t := []) (by decide)
  obtain ⟨s1, s2, _⟩ := setOk_sort hs
  refine uniqI h1 s1 h2 (fun x hx => ⟨itOk_ok (s2 x hx), ?_⟩) fun p q _ _ => ?_
  · have := s2 x hx
    simp only [itOk, Bool.and_eq_true, bne_iff_ne] at this
    exact this.2.2.1
  · rw [h3, vget, Int.add_zero, wrap_self (vget_ok (fun x hx => itOk_ok (s2 x hx)) p q)]
theorem both_comm {s t : List It} (hs : setOk s = true) (ht : setOk t = true) : itemsOf (t ++ s) = itemsOf (s ++ t) := by
  obtain ⟨h1, h2, h3⟩ := both_facts hs ht
  obtain ⟨g1, g2, g3⟩ := both_facts ht hs
  refine uniqI g1 h1 g2 h2 fun p q _ _ => ?_
  rw [h3, g3, Int.add_comm]
theorem vget_in {l : List It} {p q : Int} (h : vget p q l ≠ 0) : ∃ y ∈ l, y.f0 = p ∧ y.f1 = q ∧ vget p q l = y.f2 := by
  induction l with
  | nil => exact absurd rfl h
  | cons x r ih =>
    rw [vget] at h ⊢
    by_cases hk : x.f0 = p ∧ x.f1 = q
    · rw [if_pos hk]
      exact ⟨x, List.mem_cons_self, hk.1, hk.2, rfl⟩
    · rw [if_neg hk] at h ⊢
      obtain ⟨y, hy, e⟩ := ih h
      exact ⟨y, List.mem_cons_of_mem _ hy, e⟩
/-- few copies -/
def small (l : List It) : Prop := ∀ x ∈ l, -1000 ≤ x.f2 ∧ x.f2 ≤ 1000
theorem vget_small {l : List It} (h : small l) (p q : Int) : -1000 ≤ vget p q l ∧ vget p q l ≤ 1000 := by
  by_cases h0 : vget p q l = 0
  · omega
  · obtain ⟨y, hy, _, _, e⟩ := vget_in h0
    rw [e]
    exact h y hy
theorem both_ok {s t : List It} (hs : setOk s = true) (ht : setOk t = true) (ss : small s) (st : small t) (hl : (s ++ t).length ≤ 400) : setOk (itemsOf (s ++ t)) = true := by
  obtain ⟨h1, h2, h3⟩ := both_facts hs ht
  obtain ⟨_, s2, _⟩ := setOk_sort hs
  obtain ⟨_, t2, _⟩ := setOk_sort ht
  refine setOk_mk (Nat.le_trans (itemsOf_len _) hl) (fun x hx => ?_) (h1.imp fun k => by have := ltI_iff.1 k; simp only [ilt, decide_eq_true_eq]; exact this)
  have hx2 := h2 x hx
  have e := vget_mem (h1.imp fun k e => by have := ltI_iff.1 k; omega) hx
  rw [h3] at e
  have a1 := vget_small ss x.f0 x.f1
  have a2 := vget_small st x.f0 x.f1
  have ew : wrap64 (vget x.f0 x.f1 s + vget x.f0 x.f1 t) = vget x.f0 x.f1 s + vget x.f0 x.f1 t := w64 (by omega) (by omega)
  rw [ew] at e
  have key : 0 ≤ x.f0 ∧ x.f0 ≤ 3 ∧ 0 ≤ x.f1 ∧ x.f1 ≤ 99 := by
    have from_ : ∀ l : List It, (∀ y ∈ l, itOk y = true) → vget x.f0 x.f1 l ≠ 0 → 0 ≤ x.f0 ∧ x.f0 ≤ 3 ∧ 0 ≤ x.f1 ∧ x.f1 ≤ 99 := fun l hl h0 => by
      obtain ⟨y, hy, e0, e1, _⟩ := vget_in h0
      have := hl y hy
      simp only [itOk, Bool.and_eq_true, decide_eq_true_eq] at this
      omega
    by_cases h0 : vget x.f0 x.f1 s = 0
    · exact from_ t t2 (by have := hx2.2; omega)
    · exact from_ s s2 h0
  have hb : -1099511627776 ≤ x.f2 ∧ x.f2 ≤ 1099511627776 := by omega
  simp only [itOk, Bool.and_eq_true, decide_eq_true_eq, bne_iff_ne]
  exact ⟨⟨key.1, key.2.1⟩, ⟨key.2.2.1, key.2.2.2⟩, hx2.2, hb⟩

/-! drawn rows -/
def smallRow (r : Rw) : Prop := rowOk r = true ∧ -3 ≤ r.f3 ∧ r.f3 ≤ 3
theorem rd_val (i : Int) (h0 : 0 ≤ i) (h1 : i < 9) : 0 ≤ rd [0, 1, 2, 3, 4, 9, 10, 57, 99] i ∧ rd [0, 1, 2, 3, 4, 9, 10, 57, 99] i ≤ 99 := by
  have c : i = 0 ∨ i = 1 ∨ i = 2 ∨ i = 3 ∨ i = 4 ∨ i = 5 ∨ i = 6 ∨ i = 7 ∨ i = 8 := by omega
  rcases c with rfl | rfl | rfl | rfl | rfl | rfl | rfl | rfl | rfl <;> decide
theorem rd_diff (i : Int) (h0 : 0 ≤ i) (h1 : i < 8) : -3 ≤ rd [1, 1, 1, 2, -1, -1, 3, 0] i ∧ rd [1, 1, 1, 2, -1, -1, 3, 0] i ≤ 3 := by
  have c : i = 0 ∨ i = 1 ∨ i = 2 ∨ i = 3 ∨ i = 4 ∨ i = 5 ∨ i = 6 ∨ i = 7 := by omega
  rcases c with rfl | rfl | rfl | rfl | rfl | rfl | rfl | rfl <;> decide
theorem row_p (l : List Int) (hl : ∀ x ∈ l, 0 ≤ x ∧ x ≤ 255) (hn : l.length ≤ 2000) (p : Int) (hp : 0 ≤ p) (hp2 : p ≤ 700000000) :
    EvP (fun k => spec_l71Row.f k l p) (fun r => smallRow ⟨r.1, r.2.1, ⟨r.2.2.1, r.2.2.2.1⟩, r.2.2.2.2.1⟩ ∧ p ≤ r.2.2.2.2.2 ∧ r.2.2.2.2.2 ≤ p + 6) := by
  unfold spec_l71Row.f
  refine EvP.bind (pick_p l hl hn p 4 hp (by omega) (by omega)) fun a ha => EvP.let_ rfl (EvP.bind (pick_p l hl hn a.2 9 (by omega) (by omega) (by omega)) fun b hb => EvP.pos hb.1 (EvP.pos (by simpa using hb.2.1) ?_))
  refine EvP.bind (time_p l hl hn b.2 (by omega) (by omega)) fun c hc => EvP.let_ rfl (EvP.bind (pick_p l hl hn c.2.2 8 (by omega) (by omega) (by omega)) fun e he => EvP.pos he.1 (EvP.pos (by simpa using he.2.1) (EvP.ret ?_)))
  have h1 := rd_val b.1 hb.1 hb.2.1
  have h2 := rd_diff e.1 he.1 he.2.1
  refine ⟨⟨?_, h2⟩, by simp only; omega, by simp only; omega⟩
  simp only [rowOk, okT, Bool.and_eq_true, decide_eq_true_eq]
  omega
theorem rdR_mem {l : List Rw} {i : Int} (h0 : 0 ≤ i) (h : i < (l.length : Int)) : rd_T90 l i ∈ l := by
  obtain ⟨n, rfl⟩ := Int.eq_ofNat_of_zero_le h0
  have := rdR_drop (xs := l) (i := n) (by omega)
  exact List.mem_of_mem_drop (this ▸ List.mem_cons_self)
theorem rows_loop (l : List Int) (hl : ∀ x ∈ l, 0 ≤ x ∧ x ≤ 255) (hn : l.length ≤ 2000) (d : Nat) : ∀ (out : List Rw) (p : Int), d ≤ 1000 → 0 ≤ p → p + 9 * d ≤ 600000000 → (∀ x ∈ out, smallRow x) → out.length + d ≤ 1000 →
    EvP (fun k => spec_l71Rows.l0 k out (d : Int) l p) (fun r => r.1.length = out.length + d ∧ (∀ x ∈ r.1, smallRow x) ∧ p ≤ r.2 ∧ r.2 ≤ p + 9 * d) := by
  induction d with
  | zero =>
    intro out p _ _ _ ho _
    refine EvP.step (fun k => by rw [spec_l71Rows.l0]) ?_
    exact (EvP.neg (by omega) (EvP.ret ⟨by simp, ho, by omega, by omega⟩))
  | succ d ih =>
    intro out p hd hp hp2 ho hlen
    have e : wrap64 (((d + 1 : Nat) : Int) - 1) = (d : Int) := by rw [w64 (by omega) (by omega)]; omega
    have add : ∀ (x : Rw) (q : Int), smallRow x → p ≤ q → q ≤ p + 9 → EvP (fun k => spec_l71Rows.l0 k (out ++ [x]) (d : Int) l q) (fun r => r.1.length = out.length + (d + 1) ∧ (∀ x ∈ r.1, smallRow x) ∧ p ≤ r.2 ∧ r.2 ≤ p + 9 * ((d + 1 : Nat) : Int)) := fun x q hx h1 h2 => by
      refine (ih (out ++ [x]) q (by omega) (by omega) (by omega) (fun y hy => ?_) (by simp; omega)).mono fun r hr => ?_
      · rcases List.mem_append.1 hy with hy | hy
        · exact ho y hy
        · rw [List.mem_singleton.1 hy]
          exact hx
      · obtain ⟨g1, g2, g3, g4⟩ := hr
        exact ⟨by rw [g1]; simp; omega, g2, by omega, by omega⟩
    refine EvP.step (fun k => by rw [spec_l71Rows.l0]) (EvP.pos (by omega) (EvP.bind (row_p l hl hn p hp (by omega)) fun a ha => ?_))
    obtain ⟨x0, x1, x2, x3, x4, q⟩ := a
    obtain ⟨hx, hq1, hq2⟩ := ha
    simp only at hx hq1 hq2 ⊢
    have join : ∀ (b : Bool) (q2 : Int), (b = true → 0 < out.length) → q ≤ q2 → q2 ≤ q + 1 → EvP (fun k => spec_l71Rows.j1 k out ((d + 1 : Nat) : Int) b l q2 x0 x1 x2 x3 x4) (fun r => r.1.length = out.length + (d + 1) ∧ (∀ x ∈ r.1, smallRow x) ∧ p ≤ r.2 ∧ r.2 ≤ p + 9 * ((d + 1 : Nat) : Int)) := fun b q2 hb h1 h2 => by
      refine EvP.step (fun k => by rw [spec_l71Rows.j1]) ?_
      rw [e]
      cases b with
      | false => exact EvP.neg (by simp) (EvP.pos (by omega) (add _ q2 hx (by omega) (by omega)))
      | true =>
        have hpos := hb rfl
        refine EvP.pos rfl (EvP.bind (pick_p l hl hn q2 (out.length : Int) (by omega) (by omega) (by omega)) fun c hc => EvP.pos hc.1 (EvP.pos hc.2.1 ?_))
        have hy := ho _ (rdR_mem hc.1 hc.2.1)
        generalize rd_T90 out c.1 = y at *
        have hy1 := hy.1
        have hx1 := hx.1
        simp only [rowOk, Bool.and_eq_true, decide_eq_true_eq] at hy1 hx1
        have b1 := hy.2
        have b2 := hx.2
        simp only at b2
        refine EvP.bind (pick_p l hl hn c.2 2 (by omega) (by omega) (by omega)) fun f hf => EvP.ite (fun _ => EvP.pos (by omega) (add _ f.2 ?_ (by omega) (by omega))) (fun _ => EvP.pos (by omega) (add _ f.2 ?_ (by omega) (by omega)))
        · have ew : wrap64 (-y.f3) = -y.f3 := w64 (by omega) (by omega)
          rw [ew]
          refine ⟨?_, by simp only; omega, by simp only; omega⟩
          simp only [rowOk, Bool.and_eq_true, decide_eq_true_eq]
          exact ⟨hy1.1, hy1.2.1, hx1.2.2.1, by omega⟩
        · refine ⟨?_, by simp only; omega, by simp only; omega⟩
          simp only [rowOk, Bool.and_eq_true, decide_eq_true_eq]
          exact ⟨hy1.1, hy1.2.1, hx1.2.2.1, by omega⟩
    refine EvP.ite (fun h => EvP.bind (pick_p l hl hn q 3 (by omega) (by omega) (by omega)) fun c hc => join _ c.2 (fun _ => by omega) (by omega) (by omega)) (fun _ => join false q (fun h => by simp at h) (by omega) (by omega))
theorem rows_p (l : List Int) (hl : ∀ x ∈ l, 0 ≤ x ∧ x ≤ 255) (hn : l.length ≤ 2000) (p most : Int) (hp : 0 ≤ p) (hp2 : p ≤ 500000000) (hm : 0 ≤ most) (hm2 : most ≤ 100) :
    EvP (fun k => spec_l71Rows.f k l p most) (fun r => (r.1.length : Int) ≤ most ∧ (∀ x ∈ r.1, smallRow x) ∧ p ≤ r.2 ∧ r.2 ≤ p + 1 + 9 * most) := by
  unfold spec_l71Rows.f
  rw [w64 (by omega) (by omega)]
  refine EvP.bind (pick_p l hl hn p (most + 1) hp (by omega) (by omega)) fun a ha => ?_
  obtain ⟨v, q⟩ := a
  obtain ⟨n, rfl⟩ := Int.eq_ofNat_of_zero_le ha.1
  simp only at ha
  refine (rows_loop l hl hn n [] q (by omega) (by omega) (by omega) (fun x hx => by simp at hx) (by simp; omega)).mono fun r hr => ?_
  obtain ⟨h1, h2, h3, h4⟩ := hr
  exact ⟨by rw [h1]; simp; omega, h2, by omega, by omega⟩

theorem vsum_bound (c : It) (m : Int) (hm : 0 ≤ m) (l : List It) (h : ∀ x ∈ l, -m ≤ x.f2 ∧ x.f2 ≤ m) : ∀ (n B : Int), -B ≤ n → n ≤ B → B + m * l.length ≤ 1000000 → -(B + m * l.length) ≤ vsum c n l ∧ vsum c n l ≤ B + m * l.length := by
  induction l with
  | nil => intro n B h1 h2 _; simp only [vsum, List.length_nil]; omega
  | cons x r ih =>
    intro n B h1 h2 h3
    have hx := h x List.mem_cons_self
    have hr := fun y hy => h y (List.mem_cons_of_mem x hy)
    have e : m * ((x :: r).length : Int) = m * (r.length : Int) + m := by rw [List.length_cons]; push_cast; rw [Int.mul_add, Int.mul_one]
    have hp : 0 ≤ m * (r.length : Int) := Int.mul_nonneg hm (Int.natCast_nonneg _)
    rw [e] at h3 ⊢
    rw [vsum]
    split
    · have ew : wrap64 (n + x.f2) = n + x.f2 := w64 (by omega) (by omega)
      rw [ew]
      have := ih hr (n + x.f2) (B + m) (by omega) (by omega) (by omega)
      omega
    · have := ih hr n B h1 h2 (by omega)
      omega
theorem items_small {l : List It} (hok : ∀ x ∈ l, ok80 x = true) (h : ∀ x ∈ l, -3 ≤ x.f2 ∧ x.f2 ≤ 3) (hl : l.length ≤ 300) : small (itemsOf l) := by
  intro x hx
  rw [← gath_items] at hx
  obtain ⟨f1, f2, f3⟩ := fold_facts l hok [] List.Pairwise.nil (fun x hx => by simp at hx)
  have hs : SortI (gathI l) := f1.filter _
  have e := vget_mem (hs.imp fun k e => by have := ltI_iff.1 k; omega) hx
  unfold gathI at e
  rw [vget_filter f1, f3, vget] at e
  have := vsum_bound ⟨x.f0, x.f1, 0⟩ 3 (by omega) l h 0 0 (by omega) (by omega) (by omega)
  omega
theorem batch_small {l : List Rw} (h : ∀ x ∈ l, smallRow x) (hl : l.length ≤ 300) (a b : Int) : small (batchAt l a b) := by
  unfold batchAt
  split
  · refine items_small (fun x hx => ?_) (fun x hx => ?_) (Nat.le_trans (rowsAt_len _ _ _) hl)
    · unfold rowsAt at hx
      obtain ⟨r, hr, rfl⟩ := List.mem_map.1 hx
      have hs := h r ((List.mem_filter.1 hr).1)
      have h1 := hs.1
      have h2 := hs.2
      simp only [rowOk, Bool.and_eq_true, decide_eq_true_eq] at h1
      simp only [ok80, itR, Bool.and_eq_true, wf64_iff]
      omega
    · unfold rowsAt at hx
      obtain ⟨r, hr, rfl⟩ := List.mem_map.1 hx
      have hs := h r ((List.mem_filter.1 hr).1)
      exact hs.2
  · intro x hx
    simp at hx
theorem set_p2 (l : List Int) (hl : ∀ x ∈ l, 0 ≤ x ∧ x ≤ 255) (hn : l.length ≤ 2000) (p : Int) (hp : 0 ≤ p) (hp2 : p ≤ 400000000) :
    EvP (fun k => spec_l71Set.f k l p) (fun r => r.1.length ≤ 9 ∧ small r.1 ∧ p ≤ r.2 ∧ r.2 ≤ p + 100) := by
  unfold spec_l71Set.f
  refine EvP.bind (rows_p l hl hn p 8 hp (by omega) (by omega) (by omega)) fun a ha => EvP.bind (EvP.of_ev (s_batchAt a.1 7 7 (by omega)) rfl) fun s hs => ?_
  have hlen := batchAt_len a.1 7 7
  have hsm := batch_small ha.2.1 (by omega) 7 7
  rw [hs] at hlen hsm
  clear hs
  refine EvP.bind (pick_p l hl hn a.2 24 (by omega) (by omega) (by omega)) fun b hb => EvP.ite (fun _ => ?_) (fun _ => EvP.ite (fun _ => EvP.ite (fun hpos => ?_) (fun _ => EvP.ret ⟨by simp only; omega, hsm, by simp only; omega, by simp only; omega⟩)) (fun _ => EvP.ret ⟨by simp only; omega, hsm, by simp only; omega, by simp only; omega⟩))
  · refine EvP.bind (pick_p l hl hn b.2 6 (by omega) (by omega) (by omega)) fun c hc => EvP.bind (pick_p l hl hn c.2 120 (by omega) (by omega) (by omega)) fun d hd => EvP.bind (pick_p l hl hn d.2 3 (by omega) (by omega) (by omega)) fun e he => EvP.pos (by omega) (EvP.ret ⟨by simp; omega, fun x hx => ?_, by simp only; omega, by simp only; omega⟩)
    rcases List.mem_append.1 hx with hx | hx
    · exact hsm x hx
    · rw [List.mem_singleton.1 hx]
      have ew : wrap64 (e.1 - 1) = e.1 - 1 := w64 (by omega) (by omega)
      simp only [ew]
      omega
  · refine EvP.bind (pick_p l hl hn b.2 (s.length : Int) (by omega) (by omega) (by omega)) fun c hc => EvP.pos hc.1 (EvP.pos hc.2.1 (EvP.ret ⟨by simp; omega, fun x hx => ?_, by simp only; omega, by simp only; omega⟩))
    rcases List.mem_or_eq_of_mem_set hx with hx | rfl
    · exact hsm x hx
    · simp only
      omega

theorem lwItems_loop (l : List It) (hl : l.length ≤ 1048576) (d : Nat) : ∀ i : Nat, i + d = l.length → Ev (fun k => laws_lwItems.l0 k l l (i : Int)) true := by
  induction d with
  | zero =>
    intro i hi
    refine Ev.step (fun k => by rw [laws_lwItems.l0]) ?_
    exact (Ev.congr (fun k => if_neg (by omega)) (Ev.now _))
  | succ d ih =>
    intro i hi
    refine Ev.step (fun k => by rw [laws_lwItems.l0]) (Ev.congr (fun k => (if_pos (by omega)).trans ((if_pos (by omega)).trans ((if_pos (by omega)).trans (if_neg (by simp))))) ?_)
    rw [up1 (by omega : i < l.length) (by omega)]
    exact ih (i + 1) (by omega)
theorem lwItems_ev (l : List It) (hl : l.length ≤ 1048576) : Ev (fun k => laws_lwItems.f k l l) true := by
  unfold laws_lwItems.f
  exact Ev.congr (fun k => if_pos rfl) (lwItems_loop l hl l.length 0 (by omega))

theorem drawboth_p (l : List Int) (hl : ∀ x ∈ l, 0 ≤ x ∧ x ≤ 255) : EvP (fun k => spec_DrawSetBoth.f k l) (fun r => (r.1.length ≤ 9 ∧ small r.1) ∧ r.2.length ≤ 9 ∧ small r.2) := by
  obtain ⟨l', ho, hl', hn⟩ := open_p l hl
  unfold spec_DrawSetBoth.f
  exact EvP.let_ ho (EvP.bind (set_p2 l' hl' hn 0 (by omega) (by omega)) fun a ha => EvP.bind (set_p2 l' hl' hn a.2 (by omega) (by omega)) fun b hb => EvP.ret ⟨⟨ha.1, ha.2.1⟩, hb.1, hb.2.1⟩)
theorem setBoth_nil {s : List It} (hs : setOk s = true) : setBoth s [] = s := by
  unfold setBoth
  rw [hs, show setOk [] = true by decide]
  exact both_nil hs
theorem setBoth_comm (s t : List It) : setBoth t s = setBoth s t := by
  unfold setBoth
  cases hs : setOk s <;> cases ht : setOk t <;> simp only [Bool.and_false, Bool.false_and, Bool.and_self, if_true, Bool.false_eq_true, if_false]
  exact both_comm hs ht
theorem FnSetBoth : laws_FnSetBoth.Pure := by
  intro l0 _ _ h0
  have b0 : ∀ x ∈ l0, 0 ≤ x ∧ x ≤ 255 := fun x hx => byte_wf (h0 x hx)
  refine EvP.rounds ?_
  unfold laws_FnSetBoth.f
  refine EvP.ite (fun _ => EvP.ret rfl) (fun _ => EvP.bind (drawboth_p l0 b0) fun st hst => ?_)
  obtain ⟨s, t⟩ := st
  obtain ⟨⟨hs, ss⟩, ht, st⟩ := hst
  simp only at hs ss ht st ⊢
  have hlen := setBoth_len s t
  refine EvP.bind (EvP.of_ev (i_setboth s t (by omega) (by omega)) rfl) fun a ha => EvP.bind (EvP.of_ev (s_setboth s t (by omega) (by omega)) rfl) fun b hb => ?_
  subst ha hb
  refine EvP.bind (EvP.of_ev (lwItems_ev _ hlen) rfl) fun c hc => ?_
  subst hc
  refine EvP.pos rfl (EvP.bind (EvP.of_ev (i_setboth t s (by omega) (by omega)) rfl) fun a ha => ?_)
  subst ha
  rw [setBoth_comm]
  refine EvP.bind (EvP.of_ev (lwItems_ev _ hlen) rfl) fun c hc => ?_
  subst hc
  refine EvP.step (fun k => by rw [laws_FnSetBoth.j0]) (EvP.neg (by simp) (EvP.bind (EvP.of_ev (i_set s (by omega)) rfl) fun a ha => EvP.bind (EvP.of_ev (s_set s (by omega)) rfl) fun b hb => ?_))
  subst ha hb
  refine EvP.pos (by simp) (EvP.bind (EvP.of_ev (s_set s (by omega)) rfl) fun b hb => ?_)
  subst hb
  have fin : EvP (fun k => (spec_SetOk.f k s).bind fun t386 => if t386 = true then (spec_SetOk.f k t).bind fun t387 => if t387 = true then (impl_SetOk.f k (setBoth s t)).bind fun t388 => some t388 else some true else some true) (· = true) := by
    refine EvP.bind (EvP.of_ev (s_set s (by omega)) rfl) fun b hb => ?_
    subst hb
    cases h1 : setOk s with
    | false => exact EvP.neg (by simp) (EvP.ret rfl)
    | true =>
      refine EvP.pos rfl (EvP.bind (EvP.of_ev (s_set t (by omega)) rfl) fun b hb => ?_)
      subst hb
      cases h2 : setOk t with
      | false => exact EvP.neg (by simp) (EvP.ret rfl)
      | true =>
        refine EvP.pos rfl (EvP.bind (EvP.of_ev (i_set (setBoth s t) hlen) rfl) fun b hb => EvP.ret ?_)
        subst hb
        have : setBoth s t = itemsOf (s ++ t) := by
          unfold setBoth
          rw [h1, h2]
          rfl
        rw [this]
        exact both_ok h1 h2 ss st (by simp; omega)
  cases hok : setOk s with
  | false => exact EvP.neg (by simp) fin
  | true =>
    refine EvP.pos rfl (EvP.bind (EvP.of_ev (i_setboth s [] (by omega) (by simp)) rfl) fun a ha => ?_)
    subst ha
    rw [setBoth_nil hok]
    refine EvP.bind (EvP.of_ev (lwItems_ev s (by omega)) rfl) fun c hc => ?_
    subst hc
    exact EvP.pos rfl fin
end Go.Proofs.Ytpggfdjnebccnaa.Pure
