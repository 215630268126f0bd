/- The pure part of FnFrontMoveLast. -/
import Derived.Test.YtiegpijhkhopgaaVFnFrontMoveLastx
namespace Go.Proofs.Ytiegpijhkhopgaa.Pure
open Go.RowKit Go.Proofs.Ytiegpijhkhopgaa.PFnFrontMoveLast Go.Proofs.YtiegpijhkhopgaaW.PrintWords Go.Proofs.YtiegpijhkhopgaaW.PrintLast Go.Proofs.YtiegpijhkhopgaaW.PrintMore Go.Proofs.Ytiegpijhkhopgaa.EvP
/-! the reader -/
theorem pick_p (l : List Int) (hl : ∀ x ∈ l, 0 ≤ x ∧ x ≤ 255) (hn : l.length ≤ 2000) (p n : Int) (hp : 0 ≤ p) (hp2 : p ≤ 1000000000) (h1 : 1 ≤ n) :
    EvP (fun k => spec_l6Rd_pick.f k l p n) (fun r => 0 ≤ r.1 ∧ r.1 < n ∧ r.2 = p + 1) := by
  have e1 : wrap64 (p + 1) = p + 1 := w64 (by omega) (by omega)
  have e2 : wrap64 (p + 1 - 1) = p := by rw [Int.add_sub_cancel]; exact w64 (by omega) (by omega)
  have key : ∃ v, 0 ≤ v ∧ v < n ∧ spec_l6Rd_pick.f 1 l p n = some (v, p + 1) := by
    unfold spec_l6Rd_pick.f
    rw [if_neg (by omega)]
    simp only [spec_l6Rd_pick.j0, e1, e2]
    by_cases h0 : (l.length : Int) = 0
    · refine ⟨0, by omega, by omega, ?_⟩
      rw [if_pos (by simp [h0])]
    · rw [if_neg (by simpa using h0)]
      by_cases h3 : p < (l.length : Int)
      · have hb := rd_byte hl p
        rw [if_pos h3, if_pos hp, if_neg (by omega), w64 (by omega) (by omega)]
        exact ⟨_, Int.tmod_nonneg _ hb.1, Int.tmod_lt_of_pos _ (by omega), rfl⟩
      · rw [if_neg h3, if_neg h0, if_pos (Int.tmod_nonneg _ hp), if_pos (Int.tmod_lt_of_pos _ (by omega))]
        have e7 : wrap64 (p * 7) = p * 7 := w64 (by omega) (by omega)
        have e73 : wrap64 (p * 7 + 3) = p * 7 + 3 := w64 (by omega) (by omega)
        rw [e7, e73, if_pos (Int.tmod_nonneg _ (by omega)), if_pos (Int.tmod_lt_of_pos _ (by omega)), if_neg (by omega)]
        have b1 := rd_byte hl (Int.tmod p (l.length : Int))
        have b2 := rd_byte hl (Int.tmod (p * 7 + 3) (l.length : Int))
        have hd0 : 0 ≤ Int.tdiv p (l.length : Int) := Int.tdiv_nonneg hp (by omega)
        have hd1 : Int.tdiv p (l.length : Int) ≤ p := by
          rw [Int.tdiv_eq_ediv_of_nonneg hp]
          exact Int.ediv_le_self _ hp
        generalize rd l (Int.tmod p (l.length : Int)) = u at *
        generalize rd l (Int.tmod (p * 7 + 3) (l.length : Int)) = v at *
        generalize Int.tdiv p (l.length : Int) = q at *
        have x1 : wrap64 u = u := w64 (by omega) (by omega)
        have x2 : wrap64 v = v := w64 (by omega) (by omega)
        have x3 : wrap64 q = q := w64 (by omega) (by omega)
        have x4 : wrap64 (u * 131) = u * 131 := w64 (by omega) (by omega)
        have x5 : wrap64 (v * 1117) = v * 1117 := w64 (by omega) (by omega)
        have x6 : wrap64 (p * 29) = p * 29 := w64 (by omega) (by omega)
        have x7 : wrap64 (q * 53) = q * 53 := w64 (by omega) (by omega)
        have x8 : wrap64 (u * 131 + v * 1117) = u * 131 + v * 1117 := w64 (by omega) (by omega)
        have x9 : wrap64 (u * 131 + v * 1117 + p * 29) = u * 131 + v * 1117 + p * 29 := w64 (by omega) (by omega)
        have x10 : wrap64 (u * 131 + v * 1117 + p * 29 + q * 53) = u * 131 + v * 1117 + p * 29 + q * 53 := w64 (by omega) (by omega)
        rw [x1, x2, x3, x4, x5, x6, x7, x8, x9, x10]
        have hz0 : 0 ≤ u * 131 + v * 1117 + p * 29 + q * 53 := by omega
        have hz1 : u * 131 + v * 1117 + p * 29 + q * 53 < 1000000000000 := by omega
        generalize u * 131 + v * 1117 + p * 29 + q * 53 = z at *
        have y0 : 0 ≤ Int.tdiv z 64 := Int.tdiv_nonneg hz0 (by omega)
        have y1 : Int.tdiv z 64 ≤ z := by
          rw [Int.tdiv_eq_ediv_of_nonneg hz0]
          exact Int.ediv_le_self _ hz0
        have x11 : wrap64 (Int.tdiv z 64) = Int.tdiv z 64 := w64 (by omega) (by omega)
        rw [x11]
        exact ⟨_, Int.tmod_nonneg _ (xor_nonneg _ _ hz0 (by omega) y0 (by omega)), Int.tmod_lt_of_pos _ (by omega), rfl⟩
  obtain ⟨v, h0, hv, hk⟩ := key
  exact EvP.mono_of (spec_l6Rd_pick.mono l p n) hk ⟨h0, hv, rfl⟩

theorem open_p (l : List Int) (hl : ∀ x ∈ l, 0 ≤ x ∧ x ≤ 255) : ∃ l', spec_l6Open.f l = some (l', 0) ∧ (∀ x ∈ l', 0 ≤ x ∧ x ≤ 255) ∧ l'.length ≤ 2000 := by
  unfold spec_l6Open.f
  by_cases h : (l.length : Int) > 2000
  · rw [if_pos h, if_pos (by omega)]
    exact ⟨_, rfl, fun x hx => hl x (List.mem_of_mem_take hx), by rw [List.length_take]; omega⟩
  · rw [if_neg h]
    exact ⟨_, rfl, hl, by omega⟩

theorem time_p (l : List Int) (hl : ∀ x ∈ l, 0 ≤ x ∧ x ≤ 255) (hn : l.length ≤ 2000) (p : Int) (hp : 0 ≤ p) (hp2 : p ≤ 900000000) :
    EvP (fun k => spec_l71Time.f k l p) (fun r => 0 ≤ r.1 ∧ r.1 ≤ 7 ∧ 0 ≤ r.2.1 ∧ r.2.1 ≤ 7 ∧ p ≤ r.2.2 ∧ r.2.2 ≤ p + 3) := by
  unfold spec_l71Time.f
  refine EvP.bind (pick_p l hl hn p 10 hp (by omega) (by omega)) fun a ha => EvP.ite (fun _ => ?_) (fun _ => ?_)
  all_goals
    refine EvP.bind (pick_p l hl hn a.2 _ (by omega) (by omega) (by omega)) fun b hb => EvP.bind (pick_p l hl hn b.2 _ (by omega) (by omega) (by omega)) fun c hc => EvP.ret ?_
    simp only
    omega
theorem odd_p (l : List Int) (hl : ∀ x ∈ l, 0 ≤ x ∧ x ≤ 255) (hn : l.length ≤ 2000) (p : Int) (hp : 0 ≤ p) (hp2 : p ≤ 800000000) :
    EvP (fun k => spec_l71Odd.f k l p) (fun r => -1 ≤ r.1 ∧ r.1 ≤ 8 ∧ -1 ≤ r.2.1 ∧ r.2.1 ≤ 8 ∧ p ≤ r.2.2 ∧ r.2.2 ≤ p + 5) := by
  have two : ∀ i : Int, 0 ≤ i → i < 2 → -1 ≤ rd [-1, 8] i ∧ rd [-1, 8] i ≤ 8 := fun i h0 h1 => by
    have : i = 0 ∨ i = 1 := by omega
    rcases this with rfl | rfl <;> decide
  unfold spec_l71Odd.f
  refine EvP.bind (time_p l hl hn p hp (by omega)) fun a ha => EvP.bind (pick_p l hl hn a.2.2 16 (by omega) (by omega) (by omega)) fun b hb => EvP.ite (fun _ => ?_) (fun _ => EvP.ite (fun _ => ?_) (fun _ => EvP.ret (by simp only; omega)))
  all_goals
    refine EvP.let_ rfl (EvP.bind (pick_p l hl hn b.2 2 (by omega) (by omega) (by omega)) fun c hc => EvP.pos hc.1 (EvP.pos (by simpa using hc.2.1) (EvP.ret ?_)))
    have := two c.1 hc.1 hc.2.1
    simp only
    omega

/-! what the functions on times say -/
def okT (a b : Int) : Bool := decide (0 ≤ a ∧ a ≤ 7 ∧ 0 ≤ b ∧ b ≤ 7)
def leT (a b c d : Int) : Bool := okT a b && okT c d && decide (a ≤ c ∧ b ≤ d)
theorem okT_true {a b : Int} (h : okT a b = true) : 0 ≤ a ∧ a ≤ 7 ∧ 0 ≤ b ∧ b ≤ 7 := of_decide_eq_true h
theorem leT_true {a b c d : Int} (h : leT a b c d = true) : (0 ≤ a ∧ a ≤ 7 ∧ 0 ≤ b ∧ b ≤ 7) ∧ (0 ≤ c ∧ c ≤ 7 ∧ 0 ≤ d ∧ d ≤ 7) ∧ a ≤ c ∧ b ≤ d := by simpa [leT, okT, and_assoc] using h
theorem leT_mk {a b c d : Int} (h : (0 ≤ a ∧ a ≤ 7 ∧ 0 ≤ b ∧ b ≤ 7) ∧ (0 ≤ c ∧ c ≤ 7 ∧ 0 ≤ d ∧ d ≤ 7) ∧ a ≤ c ∧ b ≤ d) : leT a b c d = true := by simpa [leT, okT, and_assoc] using h
theorem s_ok (a b : Int) : spec_TimeOk.f a b = some (okT a b) := by
  unfold spec_TimeOk.f spec_l6In.f okT
  by_cases h0 : 0 ≤ a <;> by_cases h1 : a ≤ 7 <;> by_cases h2 : 0 ≤ b <;> by_cases h3 : b ≤ 7 <;> simp [h0, h1, h2, h3]
theorem i_ok (a b : Int) : impl_TimeOk.f a b = some (okT a b) := by
  unfold impl_TimeOk.f okT
  by_cases h0 : 0 ≤ a <;> by_cases h1 : a ≤ 7 <;> by_cases h2 : 0 ≤ b <;> by_cases h3 : b ≤ 7 <;> simp [h0, h1, h2, h3]


theorem i_less (a b c d : Int) : impl_TimeLess.f a b c d = some (leT a b c d) := by
  unfold impl_TimeLess.f impl_below.f leT
  rw [i_ok, i_ok]
  cases okT a b <;> cases okT c d <;> by_cases h0 : a ≤ c <;> by_cases h1 : b ≤ d <;> simp [h0, h1]

theorem s_less (a b c d : Int) : spec_TimeLess.f a b c d = some (leT a b c d) := by
  unfold spec_TimeLess.f leT
  rw [s_ok, s_ok]
  cases okT a b <;> cases okT c d <;> by_cases h0 : a ≤ c <;> by_cases h1 : b ≤ d <;> simp [h0, h1]

theorem up1 {i n : Nat} (h : i < n) (hn : n ≤ 4611686018427387904) : wrap64 ((i : Int) + 1) = ((i + 1 : Nat) : Int) := by
  rw [w64 (by omega) (by omega)]; rfl

/-! lists of times -/
abbrev Tm := S26
theorem rdT_drop {xs : List Tm} {i : Nat} (h : i < xs.length) : xs.drop i = rd_T26 xs (i : Int) :: xs.drop (i + 1) := by
  unfold rd_T26
  rw [List.drop_eq_getElem_cons h, List.getD_eq_getElem?_getD, Int.toNat_natCast, List.getElem?_eq_getElem h]
  rfl

/-! frontiers -/
def fOk1 (p : Tm) : List Tm → Bool
  | [] => true
  | y :: r => okT y.f0 y.f1 && (decide (p.f0 < y.f0) && decide (y.f1 < p.f1)) && fOk1 y r
def fOk : List Tm → Bool
  | [] => true
  | x :: r => okT x.f0 x.f1 && fOk1 x r
theorem sFront_loop (l : List Tm) (hl : l.length ≤ 1048576) (d : Nat) : ∀ i : Nat, i + 1 + d = l.length → Ev (fun k => spec_FrontOk.l0 k l ((i + 1 : Nat) : Int)) (fOk1 (rd_T26 l (i : Int)) (l.drop (i + 1))) := by
  induction d with
  | zero =>
    intro i hi
    refine Ev.step (fun k => by rw [spec_FrontOk.l0]) ?_
    refine Ev.congr (fun k => if_neg (by omega)) ?_
    rw [List.drop_eq_nil_of_le (by omega)]
    exact Ev.now _
  | succ d ih =>
    intro i hi
    rw [rdT_drop (by omega : i + 1 < l.length)]
    unfold fOk1
    have e : wrap64 (((i + 1 : Nat) : Int) - 1) = (i : Int) := by rw [w64 (by omega) (by omega)]; omega
    refine Ev.step (fun k => by rw [spec_FrontOk.l0]) ?_
    refine Ev.congr (fun k => (if_pos (by omega)).trans (if_pos (by omega))) ?_
    refine Ev.bind ⟨0, fun k _ => s_ok _ _⟩ ?_
    cases okT (rd_T26 l ((i + 1 : Nat) : Int)).f0 (rd_T26 l ((i + 1 : Nat) : Int)).f1 with
    | false => exact Ev.now _
    | true =>
      rw [e]
      refine Ev.congr (fun k => (if_pos rfl).trans ((if_pos (by omega)).trans ((if_pos (by omega)).trans (if_pos (by omega))))) ?_
      by_cases h1 : (rd_T26 l (i : Int)).f0 ≥ (rd_T26 l ((i + 1 : Nat) : Int)).f0
      · refine Ev.congr (fun k => if_pos h1) ?_
        rw [decide_eq_false (by omega)]
        exact Ev.now _
      · refine Ev.congr (fun k => if_neg h1) ?_
        rw [decide_eq_true (by omega)]
        by_cases h2 : (rd_T26 l (i : Int)).f1 ≤ (rd_T26 l ((i + 1 : Nat) : Int)).f1
        · refine Ev.congr (fun k => if_pos h2) ?_
          rw [decide_eq_false (by omega)]
          exact Ev.now _
        · refine Ev.congr (fun k => if_neg h2) ?_
          rw [decide_eq_true (by omega), up1 (by omega : i + 1 < l.length) (by omega)]
          exact ih (i + 1) (by omega)
theorem sFront_ev (l : List Tm) (hl : l.length ≤ 1048576) : Ev (fun k => spec_FrontOk.f k l) (fOk l) := by
  unfold spec_FrontOk.f
  cases l with
  | nil =>
    refine Ev.step (fun k => by rw [spec_FrontOk.l0]) ?_
    exact Ev.congr (fun k => if_neg (by simp)) (Ev.now _)
  | cons x r =>
    refine Ev.step (fun k => by rw [spec_FrontOk.l0]) ?_
    refine Ev.congr (fun k => (if_pos (by simp)).trans (if_pos (by omega))) ?_
    refine Ev.bind ⟨0, fun k _ => s_ok _ _⟩ ?_
    unfold fOk
    show Ev _ (okT (rd_T26 (x :: r) 0).f0 (rd_T26 (x :: r) 0).f1 && fOk1 (rd_T26 (x :: r) ((0 : Nat) : Int)) ((x :: r).drop (0 + 1)))
    cases okT (rd_T26 (x :: r) 0).f0 (rd_T26 (x :: r) 0).f1 with
    | false => exact Ev.now _
    | true =>
      refine Ev.congr (fun k => (if_pos rfl).trans (if_neg (by omega))) ?_
      have := sFront_loop (x :: r) hl r.length 0 (by simp; omega)
      simpa [w64] using this
theorem iFront_loop (l : List Tm) (hl : l.length ≤ 1048576) (d : Nat) : ∀ i : Nat, i + 1 + d = l.length → Ev (fun k => impl_FrontOk.l0 k l l (l.length : Int) ((i + 1 : Nat) : Int)) (fOk1 (rd_T26 l (i : Int)) (l.drop (i + 1))) := by
  induction d with
  | zero =>
    intro i hi
    refine Ev.step (fun k => by rw [impl_FrontOk.l0]) ?_
    refine Ev.congr (fun k => if_neg (by omega)) ?_
    rw [List.drop_eq_nil_of_le (by omega)]
    exact Ev.now _
  | succ d ih =>
    intro i hi
    rw [rdT_drop (by omega : i + 1 < l.length)]
    unfold fOk1
    have e : wrap64 (((i + 1 : Nat) : Int) - 1) = (i : Int) := by rw [w64 (by omega) (by omega)]; omega
    refine Ev.step (fun k => by rw [impl_FrontOk.l0]) ?_
    refine Ev.congr (fun k => (if_pos (by omega)).trans ((if_pos (by omega)).trans (if_pos (by omega)))) ?_
    refine Ev.bind ⟨0, fun k _ => i_ok _ _⟩ ?_
    cases okT (rd_T26 l ((i + 1 : Nat) : Int)).f0 (rd_T26 l ((i + 1 : Nat) : Int)).f1 with
    | false => exact Ev.now _
    | true =>
      rw [e]
      refine Ev.congr (fun k => (if_pos rfl).trans ((if_pos (by omega)).trans ((if_pos (by omega)).trans (if_pos (by omega))))) ?_
      by_cases h1 : (rd_T26 l (i : Int)).f0 ≥ (rd_T26 l ((i + 1 : Nat) : Int)).f0
      · refine Ev.congr (fun k => if_pos h1) ?_
        rw [decide_eq_false (by omega)]
        exact Ev.now _
      · refine Ev.congr (fun k => if_neg h1) ?_
        rw [decide_eq_true (by omega)]
        by_cases h2 : (rd_T26 l (i : Int)).f1 ≤ (rd_T26 l ((i + 1 : Nat) : Int)).f1
        · refine Ev.congr (fun k => if_pos h2) ?_
          rw [decide_eq_false (by omega)]
          exact Ev.now _
        · refine Ev.congr (fun k => if_neg h2) ?_
          rw [decide_eq_true (by omega), up1 (by omega : i + 1 < l.length) (by omega)]
          exact ih (i + 1) (by omega)
theorem iFront_ev (l : List Tm) (hl : l.length ≤ 1048576) : Ev (fun k => impl_FrontOk.f k l) (fOk l) := by
  unfold impl_FrontOk.f
  cases l with
  | nil =>
    refine Ev.step (fun k => by rw [impl_FrontOk.l0]) ?_
    exact Ev.congr (fun k => if_neg (by simp)) (Ev.now _)
  | cons x r =>
    refine Ev.step (fun k => by rw [impl_FrontOk.l0]) ?_
    refine Ev.congr (fun k => (if_pos (by simp)).trans ((if_pos (by omega)).trans (if_pos (by simp)))) ?_
    refine Ev.bind ⟨0, fun k _ => i_ok _ _⟩ ?_
    unfold fOk
    show Ev _ (okT (rd_T26 (x :: r) 0).f0 (rd_T26 (x :: r) 0).f1 && fOk1 (rd_T26 (x :: r) ((0 : Nat) : Int)) ((x :: r).drop (0 + 1)))
    cases okT (rd_T26 (x :: r) 0).f0 (rd_T26 (x :: r) 0).f1 with
    | false => exact Ev.now _
    | true =>
      refine Ev.congr (fun k => (if_pos rfl).trans (if_neg (by omega))) ?_
      have := iFront_loop (x :: r) hl r.length 0 (by simp; omega)
      simpa [w64] using this

theorem fOk1_ok {p : Tm} {l : List Tm} (h : fOk1 p l = true) : ∀ x ∈ l, okT x.f0 x.f1 = true := by
  induction l generalizing p with
  | nil => simp
  | cons y r ih =>
    simp only [fOk1, Bool.and_eq_true] at h
    intro x hx
    rcases List.mem_cons.1 hx with rfl | hx
    · exact h.1.1
    · exact ih h.2 x hx
theorem fOk_ok {l : List Tm} (h : fOk l = true) : ∀ x ∈ l, okT x.f0 x.f1 = true := by
  cases l with
  | nil => simp
  | cons y r =>
    simp only [fOk, Bool.and_eq_true] at h
    intro x hx
    rcases List.mem_cons.1 hx with rfl | hx
    · exact h.1
    · exact fOk1_ok h.2 x hx

def beT (x : Tm) (c d : Int) : Bool := decide (x.f0 ≤ c ∧ x.f1 ≤ d)
theorem i_below (a b c d : Int) : impl_below.f a b c d = some (decide (a ≤ c ∧ b ≤ d)) := by
  unfold impl_below.f
  by_cases h0 : a ≤ c <;> by_cases h1 : b ≤ d <;> simp [h0, h1]
theorem i_beyond_loop (l : List Tm) (c e : Int) (hl : l.length ≤ 1048576) (d : Nat) : ∀ i : Nat, i + d = l.length → Ev (fun k => impl_beyond.l0 k l (l.length : Int) (i : Int) c e) ((l.drop i).any fun x => beT x c e) := by
  induction d with
  | zero =>
    intro i hi
    rw [List.drop_eq_nil_of_le (by omega)]
    refine Ev.step (fun k => by rw [impl_beyond.l0]) ?_
    exact Ev.congr (fun k => if_neg (by omega)) (Ev.now _)
  | succ d ih =>
    intro i hi
    refine Ev.step (fun k => by rw [impl_beyond.l0]) ?_
    refine Ev.congr (fun k => (if_pos (by omega)).trans ((if_pos (by omega)).trans (if_pos (by omega)))) ?_
    refine Ev.bind ⟨0, fun k _ => i_below _ _ _ _⟩ ?_
    rw [rdT_drop (by omega : i < l.length), List.any_cons]
    change Ev (fun k => if beT (rd_T26 l (i : Int)) c e = true then _ else _) _
    cases beT (rd_T26 l (i : Int)) c e with
    | true => exact Ev.now _
    | false =>
      refine Ev.congr (fun k => if_neg (by simp)) ?_
      rw [up1 (by omega : i < l.length) (by omega)]
      exact ih (i + 1) (by omega)
/-- FrontCovers, of both. -/
def coT (l : List Tm) (c e : Int) : Bool := fOk l && (l.any fun x => leT x.f0 x.f1 c e)
theorem i_covers (l : List Tm) (c e : Int) (hl : l.length ≤ 1048576) : Ev (fun k => impl_FrontCovers.f k l c e) (coT l c e) := by
  unfold impl_FrontCovers.f coT
  refine Ev.bind (iFront_ev l hl) ?_
  cases hf : fOk l with
  | false => exact Ev.now _
  | true =>
    refine Ev.congr (fun k => if_pos rfl) (Ev.bind ⟨0, fun k _ => i_ok c e⟩ ?_)
    cases ht : okT c e with
    | false =>
      have : (l.any fun x => leT x.f0 x.f1 c e) = false := by simp [leT, ht]
      rw [this]
      exact Ev.now _
    | true =>
      have : (l.any fun x => leT x.f0 x.f1 c e) = l.any fun x => beT x c e := by
        rw [Bool.eq_iff_iff, List.any_eq_true, List.any_eq_true]
        constructor
        · rintro ⟨x, hx, h⟩
          exact ⟨x, hx, by have := leT_true h; simp [beT]; omega⟩
        · rintro ⟨x, hx, h⟩
          exact ⟨x, hx, by simp [leT, ht, fOk_ok hf x hx]; simpa [beT] using h⟩
      rw [this]
      refine Ev.congr (fun k => if_pos rfl) (Ev.bind (a := l.any fun x => beT x c e) ?_ (Ev.now _))
      unfold impl_beyond.f
      simpa using i_beyond_loop l c e hl l.length 0 (by omega)

def joT (a b c d : Int) : Int × Int := if okT a b && okT c d then (max a c, max b d) else (0, 0)
theorem s_join (a b c d : Int) : spec_TimeJoin.f a b c d = some (joT a b c d) := by
  unfold spec_TimeJoin.f joT
  rw [s_ok, s_ok, mx_def, mx_def]
  cases okT a b <;> cases okT c d <;> rfl
theorem i_join (a b c d : Int) : impl_TimeJoin.f a b c d = some (joT a b c d) := by
  unfold impl_TimeJoin.f joT
  rw [i_ok, i_ok, mx_def, mx_def]
  cases okT a b <;> cases okT c d <;> rfl

def meT (a b c d : Int) : Int × Int := if okT a b && okT c d then (min a c, min b d) else (0, 0)
theorem s_meet (a b c d : Int) : spec_TimeMeet.f a b c d = some (meT a b c d) := by
  unfold spec_TimeMeet.f meT
  rw [s_ok, s_ok, mn_def, mn_def]
  cases okT a b <;> cases okT c d <;> rfl
theorem i_meet (a b c d : Int) : impl_TimeMeet.f a b c d = some (meT a b c d) := by
  unfold impl_TimeMeet.f meT
  rw [i_ok, i_ok, mn_def, mn_def]
  cases okT a b <;> cases okT c d <;> rfl

/-! a time moved to a front -/
def mv1 (l : List Tm) (c e : Int) (a : Int × Int) : Int × Int := l.foldl (fun a x => (min a.1 (max x.f0 c), min a.2 (max x.f1 e))) a
def mvR (l : List Tm) (c e : Int) : Int × Int := match l with
  | [] => (c, e)
  | x :: r => mv1 r c e (max x.f0 c, max x.f1 e)
def mvT (l : List Tm) (c e : Int) : Int × Int := if fOk l && okT c e then mvR l c e else (0, 0)
theorem joT_ok {a b c d : Int} (h : okT a b = true) (k : okT c d = true) : joT a b c d = (max a c, max b d) := by simp [joT, h, k]
theorem meT_ok {a b c d : Int} (h : okT a b = true) (k : okT c d = true) : meT a b c d = (min a c, min b d) := by simp [meT, h, k]
theorem okT_max {a b c d : Int} (h : okT a b = true) (k : okT c d = true) : okT (max a c) (max b d) = true := by
  have := okT_true h; have := okT_true k
  exact decide_eq_true (by omega)
theorem okT_min {a b c d : Int} (h : okT a b = true) (k : okT c d = true) : okT (min a c) (min b d) = true := by
  have := okT_true h; have := okT_true k
  exact decide_eq_true (by omega)
theorem rdT_mem {l : List Tm} {i : Nat} (h : i < l.length) : rd_T26 l (i : Int) ∈ l := by
  have := rdT_drop h
  exact List.mem_of_mem_drop (this ▸ List.mem_cons_self)
theorem s_move_loop (l : List Tm) (c e : Int) (hl : l.length ≤ 1048576) (hv : ∀ x ∈ l, okT x.f0 x.f1 = true) (ht : okT c e = true) (d : Nat) : ∀ (i : Nat) (u v : Int), i + d = l.length → okT u v = true →
    Ev (fun k => spec_FrontMove.l0 k l (i : Int) c e u v) (mv1 (l.drop i) c e (u, v)) := by
  induction d with
  | zero =>
    intro i u v hi _
    rw [List.drop_eq_nil_of_le (by omega)]
    refine Ev.step (fun k => by rw [spec_FrontMove.l0]) ?_
    exact (Ev.congr (fun k => if_neg (by omega)) (Ev.now _))
  | succ d ih =>
    intro i u v hi ho
    have hx := hv _ (rdT_mem (by omega : i < l.length))
    rw [rdT_drop (by omega : i < l.length)]
    refine Ev.step (fun k => by rw [spec_FrontMove.l0]) (Ev.congr (fun k => (if_pos (by omega)).trans (if_pos (by omega))) ?_)
    refine Ev.bind ⟨0, fun k _ => (s_join _ _ _ _).trans (congrArg some (joT_ok hx ht))⟩ (Ev.bind ⟨0, fun k _ => (s_meet _ _ _ _).trans (congrArg some (meT_ok ho (okT_max hx ht)))⟩ ?_)
    rw [up1 (by omega : i < l.length) (by omega)]
    exact ih (i + 1) _ _ (by omega) (okT_min ho (okT_max hx ht))
theorem s_move (l : List Tm) (c e : Int) (hl : l.length ≤ 1048576) : Ev (fun k => spec_FrontMove.f k l c e) (mvT l c e) := by
  unfold spec_FrontMove.f mvT
  refine Ev.bind (sFront_ev l hl) ?_
  have out : Ev (fun k => spec_FrontMove.j0 k l true c e) ((0, 0) : Int × Int) := by
    refine Ev.step (fun k => by rw [spec_FrontMove.j0]) ?_
    exact Ev.congr (fun k => if_pos rfl) (Ev.now _)
  cases hf : fOk l with
  | false => exact Ev.congr (fun k => if_neg (by simp)) (by simpa using out)
  | true =>
    refine Ev.congr (fun k => if_pos rfl) (Ev.bind ⟨0, fun k _ => s_ok _ _⟩ ?_)
    cases ht : okT c e with
    | false => simpa using out
    | true =>
      have hv := fOk_ok hf
      refine Ev.step (fun k => by rw [spec_FrontMove.j0]) (Ev.congr (fun k => if_neg (by simp)) ?_)
      simp only [Bool.and_self, if_true]
      cases l with
      | nil => exact Ev.congr (fun k => if_pos rfl) (Ev.now _)
      | cons x r =>
        have hx := hv x List.mem_cons_self
        refine Ev.congr (fun k => (if_neg (by simp; omega)).trans (if_pos (by simp))) (Ev.bind ⟨0, fun k _ => (s_join _ _ _ _).trans (congrArg some (joT_ok (a := x.f0) (b := x.f1) hx ht))⟩ ?_)
        simpa [mvR] using s_move_loop (x :: r) c e hl hv ht r.length 1 _ _ (by simp; omega) (okT_max hx ht)
theorem i_move_loop (l : List Tm) (c e : Int) (hl : l.length ≤ 1048576) (hv : ∀ x ∈ l, okT x.f0 x.f1 = true) (ht : okT c e = true) (d : Nat) : ∀ (i : Nat) (u v : Int), i + d = l.length → okT u v = true →
    Ev (fun k => impl_moved.l0 k l (l.length : Int) (i : Int) c e u v) (mv1 (l.drop i) c e (u, v)) := by
  induction d with
  | zero =>
    intro i u v hi _
    rw [List.drop_eq_nil_of_le (by omega)]
    refine Ev.step (fun k => by rw [impl_moved.l0]) ?_
    exact (Ev.congr (fun k => if_neg (by omega)) (Ev.now _))
  | succ d ih =>
    intro i u v hi ho
    have hx := hv _ (rdT_mem (by omega : i < l.length))
    rw [rdT_drop (by omega : i < l.length)]
    refine Ev.step (fun k => by rw [impl_moved.l0]) (Ev.congr (fun k => (if_pos (by omega)).trans ((if_pos (by omega)).trans (if_pos (by omega)))) ?_)
    refine Ev.bind ⟨0, fun k _ => (i_join _ _ _ _).trans (congrArg some (joT_ok hx ht))⟩ (Ev.bind ⟨0, fun k _ => (i_meet _ _ _ _).trans (congrArg some (meT_ok ho (okT_max hx ht)))⟩ ?_)
    rw [up1 (by omega : i < l.length) (by omega)]
    exact ih (i + 1) _ _ (by omega) (okT_min ho (okT_max hx ht))
theorem i_moved (l : List Tm) (c e : Int) (hl : l.length ≤ 1048576) (hv : ∀ x ∈ l, okT x.f0 x.f1 = true) (ht : okT c e = true) : Ev (fun k => impl_moved.f k l c e) (mvR l c e) := by
  unfold impl_moved.f
  cases l with
  | nil => exact Ev.congr (fun k => if_pos rfl) (Ev.now _)
  | cons x r =>
    have hx := hv x List.mem_cons_self
    refine Ev.congr (fun k => (if_neg (by simp; omega)).trans (if_pos (by simp))) (Ev.bind ⟨0, fun k _ => (i_join _ _ _ _).trans (congrArg some (joT_ok (a := x.f0) (b := x.f1) hx ht))⟩ ?_)
    have := i_move_loop (x :: r) c e hl hv ht (r.length + 1) 0 _ _ (by simp) (okT_max hx ht)
    simpa [mvR, mv1] using this
theorem i_move (l : List Tm) (c e : Int) (hl : l.length ≤ 1048576) : Ev (fun k => impl_FrontMove.f k l c e) (mvT l c e) := by
  unfold impl_FrontMove.f mvT
  refine Ev.bind (iFront_ev l hl) ?_
  cases hf : fOk l with
  | false => exact Ev.now _
  | true =>
    refine Ev.congr (fun k => if_pos rfl) (Ev.bind ⟨0, fun k _ => i_ok _ _⟩ ?_)
    cases ht : okT c e with
    | false => exact Ev.now _
    | true => exact Ev.congr (fun k => if_pos rfl) (Ev.bind (i_moved l c e hl (fOk_ok hf) ht) (Ev.now _))

/-! what a moved time is -/
theorem mv1_facts (c e : Int) (l : List Tm) : ∀ a : Int × Int, (mv1 l c e a).1 ≤ a.1 ∧ (mv1 l c e a).2 ≤ a.2 ∧ (∀ x ∈ l, (mv1 l c e a).1 ≤ max x.f0 c ∧ (mv1 l c e a).2 ≤ max x.f1 e) ∧
    ((mv1 l c e a).1 = a.1 ∨ ∃ x ∈ l, (mv1 l c e a).1 = max x.f0 c) ∧ ((mv1 l c e a).2 = a.2 ∨ ∃ x ∈ l, (mv1 l c e a).2 = max x.f1 e) := by
  induction l with
  | nil => intro a; exact ⟨Int.le_refl _, Int.le_refl _, fun x hx => by simp at hx, .inl rfl, .inl rfl⟩
  | cons y r ih =>
    intro a
    obtain ⟨h1, h2, h3, h4, h5⟩ := ih (min a.1 (max y.f0 c), min a.2 (max y.f1 e))
    have e0 : mv1 (y :: r) c e a = mv1 r c e (min a.1 (max y.f0 c), min a.2 (max y.f1 e)) := rfl
    rw [e0]
    simp only at h1 h2 h4 h5
    refine ⟨by clear h4 h5; omega, by clear h4 h5; omega, fun x hx => ?_, ?_, ?_⟩
    · clear h4 h5
      rcases List.mem_cons.1 hx with rfl | hx
      · exact ⟨by omega, by omega⟩
      · exact h3 x hx
    · clear h5
      rcases h4 with h | ⟨x, hx, h⟩
      · rcases Int.le_total a.1 (max y.f0 c) with k | k
        · exact .inl (by omega)
        · exact .inr ⟨y, List.mem_cons_self, by omega⟩
      · exact .inr ⟨x, List.mem_cons_of_mem _ hx, h⟩
    · clear h4
      rcases h5 with h | ⟨x, hx, h⟩
      · rcases Int.le_total a.2 (max y.f1 e) with k | k
        · exact .inl (by omega)
        · exact .inr ⟨y, List.mem_cons_self, by omega⟩
      · exact .inr ⟨x, List.mem_cons_of_mem _ hx, h⟩
theorem mvR_facts (c e : Int) {l : List Tm} (hn : l ≠ []) : (∀ x ∈ l, (mvR l c e).1 ≤ max x.f0 c ∧ (mvR l c e).2 ≤ max x.f1 e) ∧
    (∃ x ∈ l, (mvR l c e).1 = max x.f0 c) ∧ (∃ x ∈ l, (mvR l c e).2 = max x.f1 e) := by
  cases l with
  | nil => exact absurd rfl hn
  | cons y r =>
    obtain ⟨h1, h2, h3, h4, h5⟩ := mv1_facts c e r (max y.f0 c, max y.f1 e)
    have e0 : mvR (y :: r) c e = mv1 r c e (max y.f0 c, max y.f1 e) := rfl
    rw [e0]
    simp only at h1 h2 h4 h5
    refine ⟨fun x hx => ?_, ?_, ?_⟩
    · clear h4 h5
      rcases List.mem_cons.1 hx with rfl | hx
      · exact ⟨by omega, by omega⟩
      · exact h3 x hx
    · rcases h4 with h | ⟨x, hx, h⟩
      · exact ⟨y, List.mem_cons_self, h⟩
      · exact ⟨x, List.mem_cons_of_mem _ hx, h⟩
    · rcases h5 with h | ⟨x, hx, h⟩
      · exact ⟨y, List.mem_cons_self, h⟩
      · exact ⟨x, List.mem_cons_of_mem _ hx, h⟩
theorem mvR_low (c e : Int) (l : List Tm) : c ≤ (mvR l c e).1 ∧ e ≤ (mvR l c e).2 := by
  by_cases h : l = []
  · subst h; exact ⟨Int.le_refl _, Int.le_refl _⟩
  · obtain ⟨_, ⟨x, _, hx⟩, ⟨y, _, hy⟩⟩ := mvR_facts c e h
    omega
theorem mvR_ok {c e : Int} {l : List Tm} (hv : ∀ x ∈ l, okT x.f0 x.f1 = true) (ht : okT c e = true) : okT (mvR l c e).1 (mvR l c e).2 = true := by
  by_cases h : l = []
  · subst h; exact ht
  · obtain ⟨_, ⟨x, hx1, hx⟩, ⟨y, hy1, hy⟩⟩ := mvR_facts c e h
    have := okT_true (hv x hx1); have := okT_true (hv y hy1); have := okT_true ht
    exact decide_eq_true (by omega)
theorem mvT_ok {l : List Tm} {c e : Int} (hf : fOk l = true) (ht : okT c e = true) : mvT l c e = mvR l c e := by simp [mvT, hf, ht]
theorem coT_true {l : List Tm} {a b : Int} (h : coT l a b = true) : ∃ x ∈ l, x.f0 ≤ a ∧ x.f1 ≤ b := by
  unfold coT at h
  simp only [Bool.and_eq_true, List.any_eq_true] at h
  obtain ⟨_, x, hx, hle⟩ := h
  have := leT_true hle
  exact ⟨x, hx, by omega, by omega⟩
theorem coT_mk {l : List Tm} {a b : Int} (hf : fOk l = true) (ht : okT a b = true) {x : Tm} (hx : x ∈ l) (h0 : x.f0 ≤ a) (h1 : x.f1 ≤ b) : coT l a b = true := by
  unfold coT
  simp only [Bool.and_eq_true, List.any_eq_true]
  have := okT_true (fOk_ok hf x hx); have := okT_true ht
  exact ⟨hf, x, hx, leT_mk (by omega)⟩
theorem leT_ok {a b c d : Int} (h : okT a b = true) (k : okT c d = true) : leT a b c d = decide (a ≤ c ∧ b ≤ d) := by simp [leT, h, k]

/-! all times -/
def allT : List Tm := (List.range 8).flatMap fun (a : Nat) => (List.range 8).map fun (b : Nat) => (⟨(a : Int), (b : Int)⟩ : Tm)
theorem lwAll_ev : Ev (fun k => laws_lwAll.f k) allT := by
  refine Ev.of laws_lwAll.mono (k := 100) ?_
  kernel_rfl
theorem allT_len : allT.length = 64 := by decide
theorem allT_ok : ∀ x ∈ allT, 0 ≤ x.f0 ∧ x.f0 ≤ 7 ∧ 0 ≤ x.f1 ∧ x.f1 ≤ 7 := by
  intro x hx
  simp only [allT, List.mem_flatMap, List.mem_map, List.mem_range] at hx
  obtain ⟨a, ha, b, hb, rfl⟩ := hx
  simp only
  omega
theorem allT_mem {t : Tm} (h : 0 ≤ t.f0 ∧ t.f0 ≤ 7 ∧ 0 ≤ t.f1 ∧ t.f1 ≤ 7) : t ∈ allT := by
  obtain ⟨a, b⟩ := t
  simp only at h
  obtain ⟨m, rfl⟩ := Int.eq_ofNat_of_zero_le h.1
  obtain ⟨n, rfl⟩ := Int.eq_ofNat_of_zero_le h.2.2.1
  simp only [allT, List.mem_flatMap, List.mem_map, List.mem_range]
  exact ⟨m, by omega, n, by omega, rfl⟩

/-! FrontOf, of the reference -/
def mnT (l : List Tm) (a b : Int) : Bool := (l.any fun x => x.f0 == a && (x.f1 == b)) && !(l.any fun x => (!(x.f0 == a) || (!(x.f1 == b))) && leT x.f0 x.f1 a b)
/-- one row of the grid: b = n - 1 .. 0 -/
def gRow (l : List Tm) (a : Int) : Nat → List Tm
  | 0 => []
  | n + 1 => (if mnT l a (n : Int) then [(⟨a, (n : Int)⟩ : Tm)] else []) ++ gRow l a n
/-- the rows from a on, m of them -/
def gAll (l : List Tm) (a : Int) : Nat → List Tm
  | 0 => []
  | m + 1 => gRow l a 8 ++ gAll l (a + 1) m
def sFrontOf (l : List Tm) : List Tm := if (l.all fun x => okT x.f0 x.f1) then gAll l 0 8 else []
theorem gRow_len (l : List Tm) (a : Int) (n : Nat) : (gRow l a n).length ≤ n := by
  induction n with
  | zero => simp [gRow]
  | succ n ih =>
    simp only [gRow, List.length_append]
    split <;> simp <;> omega
theorem gAll_len (l : List Tm) (m : Nat) : ∀ a : Int, (gAll l a m).length ≤ 8 * m := by
  induction m with
  | zero => simp [gAll]
  | succ m ih =>
    intro a
    have := gRow_len l a 8
    have := ih (a + 1)
    simp only [gAll, List.length_append]
    omega
theorem sFrontOf_len (l : List Tm) : (sFrontOf l).length ≤ 64 := by
  unfold sFrontOf
  split
  · exact gAll_len l 8 0
  · simp
theorem s_l1Ok_loop (l : List Tm) (hl : l.length ≤ 1048576) (d : Nat) : ∀ i : Nat, i + d = l.length → Ev (fun k => spec_l1Ok.l0 k l (i : Int)) ((l.drop i).all fun x => okT x.f0 x.f1) := by
  induction d with
  | zero =>
    intro i hi
    rw [List.drop_eq_nil_of_le (by omega)]
    refine Ev.step (fun k => by rw [spec_l1Ok.l0]) ?_
    exact (Ev.congr (fun k => if_neg (by omega)) (Ev.now _))
  | succ d ih =>
    intro i hi
    refine Ev.step (fun k => by rw [spec_l1Ok.l0]) (Ev.congr (fun k => (if_pos (by omega)).trans (if_pos (by omega))) ?_)
    refine Ev.bind ⟨0, fun k _ => s_ok _ _⟩ ?_
    rw [rdT_drop (by omega : i < l.length), List.all_cons]
    cases okT (rd_T26 l (i : Int)).f0 (rd_T26 l (i : Int)).f1 with
    | false => exact Ev.now _
    | true =>
      refine Ev.congr (fun k => if_pos rfl) ?_
      rw [up1 (by omega : i < l.length) (by omega)]
      exact ih (i + 1) (by omega)
theorem fo_l2 (l out : List Tm) (a b t0 t1 : Int) (R : List Tm) (hl : l.length ≤ 1048576) (d : Nat) : ∀ (i : Nat) (f : Bool), i + d = l.length →
    Ev (fun k => spec_FrontOf.l3 k l out a b (f || (l.drop i).any fun x => x.f0 == t0 && (x.f1 == t1)) 0 t0 t1) R → Ev (fun k => spec_FrontOf.l2 k l out a b f (i : Int) t0 t1) R := by
  induction d with
  | zero =>
    intro i f hi h
    rw [List.drop_eq_nil_of_le (by omega)] at h
    refine Ev.step (fun k => by rw [spec_FrontOf.l2]) (Ev.congr (fun k => if_neg (by omega)) ?_)
    simpa using h
  | succ d ih =>
    intro i f hi h
    rw [rdT_drop (by omega : i < l.length), List.any_cons] at h
    refine Ev.step (fun k => by rw [spec_FrontOf.l2]) (Ev.congr (fun k => (if_pos (by omega)).trans (if_pos (by omega))) ?_)
    rw [up1 (by omega : i < l.length) (by omega)]
    cases c : ((rd_T26 l (i : Int)).f0 == t0 && ((rd_T26 l (i : Int)).f1 == t1)) with
    | true =>
      refine Ev.congr (fun k => if_pos rfl) (ih (i + 1) true (by omega) ?_)
      rw [c] at h
      simpa using h
    | false =>
      refine Ev.congr (fun k => if_neg (by simp)) (ih (i + 1) f (by omega) ?_)
      rw [c] at h
      simpa using h
theorem fo_l3 (l out : List Tm) (a b t0 t1 : Int) (R : List Tm) (hl : l.length ≤ 1048576) (ho : out.length ≤ 1000) (d : Nat) : ∀ (i : Nat) (f : Bool), i + d = l.length →
    Ev (fun k => spec_FrontOf.l1 k l (out ++ (if (f && !((l.drop i).any fun x => (!(x.f0 == t0) || (!(x.f1 == t1))) && leT x.f0 x.f1 t0 t1)) then [(⟨t0, t1⟩ : Tm)] else [])) a (wrap64 (b - 1))) R → Ev (fun k => spec_FrontOf.l3 k l out a b f (i : Int) t0 t1) R := by
  induction d with
  | zero =>
    intro i f hi h
    rw [List.drop_eq_nil_of_le (by omega)] at h
    refine Ev.step (fun k => by rw [spec_FrontOf.l3]) (Ev.congr (fun k => if_neg (by omega)) ?_)
    cases f with
    | true => exact Ev.congr (fun k => (if_pos rfl).trans (if_pos (by omega))) (by simpa using h)
    | false => exact Ev.congr (fun k => if_neg (by simp)) (by simpa using h)
  | succ d ih =>
    intro i f hi h
    rw [rdT_drop (by omega : i < l.length), List.any_cons] at h
    refine Ev.step (fun k => by rw [spec_FrontOf.l3]) (Ev.congr (fun k => (if_pos (by omega)).trans (if_pos (by omega))) ?_)
    rw [up1 (by omega : i < l.length) (by omega)]
    cases c : (!((rd_T26 l (i : Int)).f0 == t0) || (!((rd_T26 l (i : Int)).f1 == t1))) with
    | true =>
      refine Ev.congr (fun k => if_pos rfl) (Ev.bind ⟨0, fun k _ => s_less _ _ _ _⟩ ?_)
      rw [c] at h
      cases c2 : leT (rd_T26 l (i : Int)).f0 (rd_T26 l (i : Int)).f1 t0 t1 with
      | true =>
        refine Ev.congr (fun k => if_pos rfl) (ih (i + 1) false (by omega) ?_)
        rw [c2] at h
        simpa using h
      | false =>
        refine Ev.congr (fun k => if_neg (by simp)) (ih (i + 1) f (by omega) ?_)
        rw [c2] at h
        simpa using h
    | false =>
      refine Ev.congr (fun k => if_neg (by simp)) (ih (i + 1) f (by omega) ?_)
      rw [c] at h
      simpa using h
theorem fo_l1 (l : List Tm) (a : Int) (R : List Tm) (hl : l.length ≤ 1048576) (n : Nat) : ∀ (out : List Tm), n ≤ 8 → out.length + n ≤ 1000 →
    Ev (fun k => spec_FrontOf.l0 k l (out ++ gRow l a n) (wrap64 (a + 1))) R → Ev (fun k => spec_FrontOf.l1 k l out a ((n : Int) - 1)) R := by
  induction n with
  | zero =>
    intro out _ _ h
    refine Ev.step (fun k => by rw [spec_FrontOf.l1]) (Ev.congr (fun k => if_neg (by omega)) ?_)
    simpa [gRow] using h
  | succ n ih =>
    intro out hn ho h
    refine Ev.step (fun k => by rw [spec_FrontOf.l1]) (Ev.congr (fun k => if_pos (by omega)) ?_)
    have e : (((n + 1 : Nat) : Int) - 1) = (n : Int) := by omega
    rw [e]
    refine fo_l2 l out a (n : Int) a (n : Int) R hl l.length 0 false (by omega) ?_
    refine fo_l3 l out a (n : Int) a (n : Int) R hl (by omega) l.length 0 _ (by omega) ?_
    rw [w64 (by omega) (by omega)]
    simp only [List.drop_zero, Bool.false_or]
    refine ih _ (by omega) ?_ ?_
    · rw [List.length_append]
      split <;> simp <;> omega
    · simpa [gRow, mnT, List.append_assoc] using h
theorem fo_l0 (l : List Tm) (hl : l.length ≤ 1048576) (m : Nat) : ∀ (out : List Tm) (a : Int), a + m = 8 → 0 ≤ a → out.length + 8 * m ≤ 1000 → Ev (fun k => spec_FrontOf.l0 k l out a) (out ++ gAll l a m) := by
  induction m with
  | zero =>
    intro out a ha _ _
    refine Ev.step (fun k => by rw [spec_FrontOf.l0]) (Ev.congr (fun k => if_neg (by omega)) ?_)
    simpa [gAll] using Ev.now out
  | succ m ih =>
    intro out a ha h0 ho
    refine Ev.step (fun k => by rw [spec_FrontOf.l0]) (Ev.congr (fun k => if_pos (by omega)) ?_)
    have := fo_l1 l a (out ++ gAll l a (m + 1)) hl 8 out (by omega) (by omega) (by
      have hr := gRow_len l a 8
      rw [w64 (by omega) (by omega), show out ++ gAll l a (m + 1) = (out ++ gRow l a 8) ++ gAll l (a + 1) m by simp [gAll]]
      exact ih _ (a + 1) (by omega) (by omega) (by rw [List.length_append]; omega))
    simpa using this
theorem s_frontof (l : List Tm) (hl : l.length ≤ 1048576) : Ev (fun k => spec_FrontOf.f k l) (sFrontOf l) := by
  unfold spec_FrontOf.f sFrontOf
  refine Ev.bind (Ev.now _) ?_
  have h1 : Ev (fun k => spec_l1Ok.f k l) (l.all fun x => okT x.f0 x.f1) := by
    unfold spec_l1Ok.f
    simpa using s_l1Ok_loop l hl l.length 0 (by omega)
  refine Ev.bind h1 ?_
  cases (l.all fun x => okT x.f0 x.f1) with
  | false => exact Ev.congr (fun k => if_neg (by simp)) (Ev.now _)
  | true => exact Ev.congr (fun k => if_pos rfl) (by simpa using fo_l0 l hl 8 [] 0 (by omega) (by omega) (by simp))

theorem times_loop (l : List Int) (hl : ∀ x ∈ l, 0 ≤ x ∧ x ≤ 255) (hn : l.length ≤ 2000) (d : Nat) : ∀ (out : List Tm) (p : Int), d ≤ 1000 → 0 ≤ p → p + 3 * d ≤ 800000000 → (∀ x ∈ out, okT x.f0 x.f1 = true) → out.length + d ≤ 1000000 →
    EvP (fun k => spec_l71Times.l0 k out (d : Int) l p) (fun r => r.1.length = out.length + d ∧ (∀ x ∈ r.1, okT x.f0 x.f1 = true) ∧ p ≤ r.2 ∧ r.2 ≤ p + 3 * d) := by
  induction d with
  | zero =>
    intro out p _ _ _ ho _
    refine EvP.step (fun k => by rw [spec_l71Times.l0]) ?_
    exact (EvP.neg (by omega) (EvP.ret ⟨by simp, ho, by omega, by omega⟩))
  | succ d ih =>
    intro out p hd hp hp2 ho hlen
    refine EvP.step (fun k => by rw [spec_l71Times.l0]) ?_
    refine EvP.pos (by omega) (EvP.bind (time_p l hl hn p hp (by omega)) fun a ha => EvP.pos (by omega) ?_)
    have e : wrap64 (((d + 1 : Nat) : Int) - 1) = (d : Int) := by rw [w64 (by omega) (by omega)]; omega
    rw [e]
    refine (ih _ a.2.2 (by omega) (by omega) (by omega) (fun x hx => ?_) (by simp; omega)).mono fun r hr => ?_
    · rcases List.mem_append.1 hx with hx | hx
      · exact ho x hx
      · rw [List.mem_singleton.1 hx]
        exact decide_eq_true (by simp only; omega)
    · obtain ⟨h1, h2, h3, h4⟩ := hr
      exact ⟨by rw [h1]; simp; omega, h2, by omega, by omega⟩
theorem times_p (l : List Int) (hl : ∀ x ∈ l, 0 ≤ x ∧ x ≤ 255) (hn : l.length ≤ 2000) (p most : Int) (hp : 0 ≤ p) (hp2 : p ≤ 700000000) (hm : 0 ≤ most) (hm2 : most ≤ 100) :
    EvP (fun k => spec_l71Times.f k l p most) (fun r => (r.1.length : Int) ≤ most ∧ (∀ x ∈ r.1, okT x.f0 x.f1 = true) ∧ p ≤ r.2 ∧ r.2 ≤ p + 1 + 3 * most) := by
  unfold spec_l71Times.f
  rw [w64 (by omega) (by omega)]
  refine EvP.bind (pick_p l hl hn p (most + 1) hp (by omega) (by omega)) fun a ha => ?_
  obtain ⟨v, q⟩ := a
  obtain ⟨n, rfl⟩ := Int.eq_ofNat_of_zero_le ha.1
  simp only at ha
  refine (times_loop l hl hn n [] q (by omega) (by omega) (by omega) (fun x hx => by simp at hx) (by simp; omega)).mono fun r hr => ?_
  obtain ⟨h1, h2, h3, h4⟩ := hr
  exact ⟨by rw [h1]; simp; omega, h2, by omega, by omega⟩
/-- what a drawn front is -/
def DrawnFront (f : List Tm) : Prop := ∃ ts : List Tm, ts.length ≤ 4 ∧ (∀ x ∈ ts, okT x.f0 x.f1 = true) ∧ (f = sFrontOf ts ∨ ∃ o : Tm, f = sFrontOf ts ++ [o])
theorem DrawnFront.len {f : List Tm} (h : DrawnFront f) : f.length ≤ 65 := by
  obtain ⟨ts, _, _, h | ⟨o, h⟩⟩ := h
  · have := sFrontOf_len ts; rw [h]; omega
  · have := sFrontOf_len ts; rw [h]; simp; omega
theorem some_p (l : List Int) (hl : ∀ x ∈ l, 0 ≤ x ∧ x ≤ 255) (hn : l.length ≤ 2000) (p : Int) (hp : 0 ≤ p) (hp2 : p ≤ 600000000) :
    EvP (fun k => spec_l71Some.f k l p) (fun r => DrawnFront r.1 ∧ p ≤ r.2 ∧ r.2 ≤ p + 30) := by
  unfold spec_l71Some.f spec_l71Front.f
  refine EvP.bind (P := fun r => (∃ ts : List Tm, ts.length ≤ 4 ∧ (∀ x ∈ ts, okT x.f0 x.f1 = true) ∧ r.1 = sFrontOf ts) ∧ p ≤ r.2 ∧ r.2 ≤ p + 20) ?_ fun a ha => ?_
  · refine EvP.bind (times_p l hl hn p 4 hp (by omega) (by omega) (by omega)) fun a ha => ?_
    refine EvP.bind (EvP.of_ev (s_frontof a.1 (by omega)) rfl) fun b hb => EvP.ret ?_
    subst hb
    exact ⟨⟨a.1, by omega, ha.2.1, rfl⟩, by simp only; omega, by simp only; omega⟩
  · obtain ⟨⟨ts, h1, h2, h3⟩, h4, h5⟩ := ha
    refine EvP.bind (pick_p l hl hn a.2 12 (by omega) (by omega) (by omega)) fun b hb => EvP.ite (fun _ => ?_) (fun _ => EvP.ret ⟨⟨ts, h1, h2, .inl h3⟩, by simp only; omega, by simp only; omega⟩)
    refine EvP.bind (odd_p l hl hn b.2 (by omega) (by omega)) fun c hc => EvP.pos (by have := sFrontOf_len ts; rw [h3]; omega) (EvP.ret ?_)
    exact ⟨⟨ts, h1, h2, .inr ⟨_, by rw [h3]⟩⟩, by simp only; omega, by simp only; omega⟩

theorem drawcovers_p (l : List Int) (hl : ∀ x ∈ l, 0 ≤ x ∧ x ≤ 255) : EvP (fun k => spec_DrawFrontCovers.f k l) (fun r => DrawnFront r.1 ∧ -1 ≤ r.2.1 ∧ r.2.1 ≤ 8 ∧ -1 ≤ r.2.2 ∧ r.2.2 ≤ 8) := by
  obtain ⟨l', ho, hl', hn⟩ := open_p l hl
  unfold spec_DrawFrontCovers.f
  refine EvP.let_ ho (EvP.bind (some_p l' hl' hn 0 (by omega) (by omega)) fun a ha => EvP.bind (odd_p l' hl' hn a.2 (by omega) (by omega)) fun b hb => EvP.ret ?_)
  exact ⟨ha.1, by simp only; omega, by simp only; omega, by simp only; omega, by simp only; omega⟩

/-- at the end of the inner loop: the flag says that u says the same of all times that were asked -/
theorem fl_l1 (f : List Tm) (c e : Int) (hl : f.length ≤ 65) (l : List Tm) (hll : l.length ≤ 1048576) (m0 m1 : Int) (i : Nat) (hil : i < l.length)
    (h1 : (∀ t ∈ l, coT f t.f0 t.f1 = true → leT c e t.f0 t.f1 = leT (rd_T26 l (i : Int)).f0 (rd_T26 l (i : Int)).f1 t.f0 t.f1) → leT (rd_T26 l (i : Int)).f0 (rd_T26 l (i : Int)).f1 m0 m1 = true)
    (hk : Ev (fun k => laws_FnFrontMoveLast.l0 k f l ((i + 1 : Nat) : Int) c e m0 m1) true) (d : Nat) : ∀ (j : Nat) (b : Bool), j + d = l.length →
    (b = true → ∀ t ∈ l.take j, coT f t.f0 t.f1 = true → leT c e t.f0 t.f1 = leT (rd_T26 l (i : Int)).f0 (rd_T26 l (i : Int)).f1 t.f0 t.f1) →
    Ev (fun k => laws_FnFrontMoveLast.l1 k f l (i : Int) b (j : Int) c e m0 m1) true := by
  induction d with
  | zero =>
    intro j b hj hb
    refine Ev.step (fun k => by rw [laws_FnFrontMoveLast.l1]) (Ev.congr (fun k => if_neg (by omega)) ?_)
    rw [up1 hil (by omega)]
    cases b with
    | false => exact Ev.congr (fun k => if_neg (by simp)) hk
    | true =>
      have := h1 (fun t ht => hb rfl t (by rw [List.take_of_length_le (by omega)]; exact ht))
      refine Ev.congr (fun k => (if_pos rfl).trans ((if_pos (by omega)).trans (if_pos (by omega)))) (Ev.bind ⟨0, fun k _ => i_less _ _ _ _⟩ ?_)
      rw [this]
      exact Ev.congr (fun k => if_pos rfl) hk
  | succ d ih =>
    intro j b hj hb
    refine Ev.step (fun k => by rw [laws_FnFrontMoveLast.l1]) (Ev.congr (fun k => if_pos (by omega)) ?_)
    rw [up1 (by omega : j < l.length) (by omega)]
    have next : ∀ b' : Bool, (b' = true → b = true ∧ (coT f (rd_T26 l (j : Int)).f0 (rd_T26 l (j : Int)).f1 = true → leT c e (rd_T26 l (j : Int)).f0 (rd_T26 l (j : Int)).f1 = leT (rd_T26 l (i : Int)).f0 (rd_T26 l (i : Int)).f1 (rd_T26 l (j : Int)).f0 (rd_T26 l (j : Int)).f1)) →
        Ev (fun k => laws_FnFrontMoveLast.l1 k f l (i : Int) b' ((j + 1 : Nat) : Int) c e m0 m1) true := fun b' hb' => ih (j + 1) b' (by omega) fun hb1 t ht hct => by
      have hlt : j < l.length := by omega
      rw [List.take_succ_eq_append_getElem hlt] at ht
      rcases List.mem_append.1 ht with ht | ht
      · exact hb (hb' hb1).1 t ht hct
      · have e1 := rdT_drop hlt
        rw [List.drop_eq_getElem_cons hlt] at e1
        have e2 : l[j] = rd_T26 l (j : Int) := (List.cons.inj e1).1
        rw [List.mem_singleton.1 ht, e2] at hct ⊢
        exact (hb' hb1).2 hct
    cases b with
    | false => exact Ev.congr (fun k => if_neg (by simp)) (next false (fun h => by simp at h))
    | true =>
      refine Ev.congr (fun k => (if_pos rfl).trans (if_pos (by omega))) (Ev.bind (i_covers f _ _ (by omega)) ?_)
      cases hc : coT f (rd_T26 l (j : Int)).f0 (rd_T26 l (j : Int)).f1 with
      | false => exact Ev.congr (fun k => if_neg (by simp)) (next true (fun _ => ⟨rfl, fun h => by rw [hc] at h; simp at h⟩))
      | true =>
        refine Ev.congr (fun k => if_pos rfl) (Ev.bind ⟨0, fun k _ => i_less _ _ _ _⟩ (Ev.congr (fun k => (if_pos (by omega)).trans (if_pos (by omega))) (Ev.bind ⟨0, fun k _ => i_less _ _ _ _⟩ ?_)))
        exact next _ (fun h => ⟨rfl, fun _ => by simpa using h⟩)
theorem fl_l0 (f : List Tm) (c e : Int) (hl : f.length ≤ 65) (hf : fOk f = true) (hn : f ≠ []) (ht : okT c e = true) (d : Nat) : ∀ i : Nat, i + d = allT.length →
    Ev (fun k => laws_FnFrontMoveLast.l0 k f allT (i : Int) c e (mvR f c e).1 (mvR f c e).2) true := by
  have hal := allT_len
  induction d with
  | zero =>
    intro i hi
    refine Ev.step (fun k => by rw [laws_FnFrontMoveLast.l0]) ?_
    exact (Ev.congr (fun k => if_neg (by omega)) (Ev.now _))
  | succ d ih =>
    intro i hi
    have hil : i < allT.length := by omega
    refine Ev.step (fun k => by rw [laws_FnFrontMoveLast.l0]) (Ev.congr (fun k => if_pos (by omega)) ?_)
    refine fl_l1 f c e hl allT (by omega) _ _ i hil (fun same => ?_) (ih (i + 1) (by omega)) allT.length 0 true (by omega) (fun _ t ht => by simp at ht)
    have hu := allT_ok _ (rdT_mem hil)
    generalize rd_T26 allT (i : Int) = u at *
    obtain ⟨_, ⟨x, hx, ex⟩, ⟨y, hy, ey⟩⟩ := mvR_facts c e hn
    have hv := fOk_ok hf
    have vx := okT_true (hv x hx)
    have vy := okT_true (hv y hy)
    have vt := okT_true ht
    have ask : ∀ z ∈ f, leT u.f0 u.f1 (max z.f0 c) (max z.f1 e) = true := fun z hz => by
      have vz := okT_true (hv z hz)
      have oz : okT (max z.f0 c) (max z.f1 e) = true := decide_eq_true (by omega)
      have := same ⟨max z.f0 c, max z.f1 e⟩ (allT_mem (by simp only; omega)) (coT_mk hf oz hz (by show z.f0 ≤ max z.f0 c; omega) (by show z.f1 ≤ max z.f1 e; omega))
      simp only at this
      rw [← this, leT_ok ht oz]
      exact decide_eq_true (by omega)
    have ax := leT_true (ask x hx)
    have ay := leT_true (ask y hy)
    have om := okT_true (mvR_ok hv ht)
    exact leT_mk (by omega)
theorem FnFrontMoveLast : laws_FnFrontMoveLast.Pure := by
  intro l0 _ _ h0
  have b0 : ∀ x ∈ l0, 0 ≤ x ∧ x ≤ 255 := fun x hx => byte_wf (h0 x hx)
  refine EvP.rounds ?_
  unfold laws_FnFrontMoveLast.f spec_DrawFrontMove.f
  refine EvP.ite (fun _ => EvP.ret rfl) (fun _ => EvP.bind (EvP.bind (drawcovers_p l0 b0) fun a ha => EvP.ret (Q := fun (r : List Tm × Int × Int) => DrawnFront r.1) ha.1) fun a ha => ?_)
  obtain ⟨f, c, e⟩ := a
  have hl := ha.len
  simp only at hl ⊢
  refine EvP.bind (EvP.of_ev (i_move f c e (by omega)) rfl) fun b hb => EvP.bind (EvP.of_ev (s_move f c e (by omega)) rfl) fun b2 hb2 => ?_
  subst hb hb2
  have out : EvP (fun k => laws_FnFrontMoveLast.j0 k f true c e (mvT f c e).1 (mvT f c e).2) (· = true) := by
    refine EvP.step (fun k => by rw [laws_FnFrontMoveLast.j0]) (EvP.pos rfl (EvP.bind (EvP.of_ev (s_move f c e (by omega)) rfl) fun b hb => EvP.ret ?_))
    subst hb
    simp
  refine EvP.neg (by simp) (EvP.bind (EvP.of_ev (sFront_ev f (by omega)) rfl) fun b hb => ?_)
  subst hb
  cases hf : fOk f with
  | false => exact EvP.neg (by simp) out
  | true =>
    refine EvP.pos rfl (EvP.let_ (s_ok _ _) ?_)
    cases ht : okT c e with
    | false => exact EvP.neg (by simp) out
    | true =>
      have hv := fOk_ok hf
      have em := mvT_ok hf ht
      refine EvP.pos rfl ?_
      rw [em] at out ⊢
      by_cases hn : f = []
      · subst hn
        exact out
      · have : ((f.length : Int) == 0) = false := by
          cases f with
          | nil => exact absurd rfl hn
          | cons x r => simp; omega
        rw [this]
        refine EvP.step (fun k => by rw [laws_FnFrontMoveLast.j0]) (EvP.neg (by simp) (EvP.of_ev (Ev.bind lwAll_ev ?_) rfl))
        simpa using fl_l0 f c e hl hf hn ht 64 0 (by rw [allT_len])
end Go.Proofs.Ytiegpijhkhopgaa.Pure
