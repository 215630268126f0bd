/- The plain law of FnFrontOf. -/
import Derived.Test.YtpggfdjnebccnaaVFnFrontOfx
namespace Go.Proofs.Ytpggfdjnebccnaa.Pure
open Go.RowKit Go.Proofs.Ytpggfdjnebccnaa.PFnFrontOf Go.Proofs.YtpggfdjnebccnaaW.PrintWords Go.Proofs.YtpggfdjnebccnaaW.PrintLast Go.Proofs.Ytpggfdjnebccnaa.EvP
set_option linter.unusedVariables false
/-! the reader -/
theorem pick_p (l : List Int) (hl : ∀ x ∈ l, 0 ≤ x ∧ x ≤ 255) (hn : l.length ≤ 2000) (p n : Int) (hp : 0 ≤ p) (hp2 : p ≤ 1000000000) (h1 : 1 ≤ n) :
    EvP (fun k => spec_l6Rd_pick.f k l p n) (fun r => 0 ≤ r.1 ∧ r.1 < n ∧ r.2 = p + 1) := by
  have e1 : wrap64 (p + 1) = p + 1 := w64 (by omega) (by omega)
  have e2 : wrap64 (p + 1 - 1) = p := by rw [Int.add_sub_cancel]; exact w64 (by omega) (by omega)
  have key : ∃ v, 0 ≤ v ∧ v < n ∧ spec_l6Rd_pick.f 1 l p n = some (v, p + 1) := by
    unfold spec_l6Rd_pick.f
    rw [if_neg (by omega)]
    simp only [spec_l6Rd_pick.j0, e1, e2]
    by_cases h0 : (l.length : Int) = 0
    · refine ⟨0, by omega, by omega, ?_⟩
      rw [if_pos (by simp [h0])]
    · rw [if_neg (by simpa using h0)]
      by_cases h3 : p < (l.length : Int)
      · have hb := rd_byte hl p
        rw [if_pos h3, if_pos hp, if_neg (by omega), w64 (by omega) (by omega)]
        exact ⟨_, Int.tmod_nonneg _ hb.1, Int.tmod_lt_of_pos _ (by omega), rfl⟩
      · rw [if_neg h3, if_neg h0, if_pos (Int.tmod_nonneg _ hp), if_pos (Int.tmod_lt_of_pos _ (by omega))]
        have e7 : wrap64 (p * 7) = p * 7 := w64 (by omega) (by omega)
        have e73 : wrap64 (p * 7 + 3) = p * 7 + 3 := w64 (by omega) (by omega)
        rw [e7, e73, if_pos (Int.tmod_nonneg _ (by omega)), if_pos (Int.tmod_lt_of_pos _ (by omega)), if_neg (by omega)]
        have b1 := rd_byte hl (Int.tmod p (l.length : Int))
        have b2 := rd_byte hl (Int.tmod (p * 7 + 3) (l.length : Int))
        have hd0 : 0 ≤ Int.tdiv p (l.length : Int) := Int.tdiv_nonneg hp (by omega)
        have hd1 : Int.tdiv p (l.length : Int) ≤ p := by
          rw [Int.tdiv_eq_ediv_of_nonneg hp]
          exact Int.ediv_le_self _ hp
        generalize rd l (Int.tmod p (l.length : Int)) = u at *
        generalize rd l (Int.tmod (p * 7 + 3) (l.length : Int)) = v at *
        generalize Int.tdiv p (l.length : Int) = q at *
        have x1 : wrap64 u = u := w64 (by omega) (by omega)
        have x2 : wrap64 v = v := w64 (by omega) (by omega)
        have x3 : wrap64 q = q := w64 (by omega) (by omega)
        have x4 : wrap64 (u * 131) = u * 131 := w64 (by omega) (by omega)
        have x5 : wrap64 (v * 1117) = v * 1117 := w64 (by omega) (by omega)
        have x6 : wrap64 (p * 29) = p * 29 := w64 (by omega) (by omega)
        have x7 : wrap64 (q * 53) = q * 53 := w64 (by omega) (by omega)
        have x8 : wrap64 (u * 131 + v * 1117) = u * 131 + v * 1117 := w64 (by omega) (by omega)
        have x9 : wrap64 (u * 131 + v * 1117 + p * 29) = u * 131 + v * 1117 + p * 29 := w64 (by omega) (by omega)
        have x10 : wrap64 (u * 131 + v * 1117 + p * 29 + q * 53) = u * 131 + v * 1117 + p * 29 + q * 53 := w64 (by omega) (by omega)
        rw [x1, x2, x3, x4, x5, x6, x7, x8, x9, x10]
        have hz0 : 0 ≤ u * 131 + v * 1117 + p * 29 + q * 53 := by omega
        have hz1 : u * 131 + v * 1117 + p * 29 + q * 53 < 1000000000000 := by omega
        generalize u * 131 + v * 1117 + p * 29 + q * 53 = z at *
        have y0 : 0 ≤ Int.tdiv z 64 := Int.tdiv_nonneg hz0 (by omega)
        have y1 : Int.tdiv z 64 ≤ z := by
          rw [Int.tdiv_eq_ediv_of_nonneg hz0]
          exact Int.ediv_le_self _ hz0
        have x11 : wrap64 (Int.tdiv z 64) = Int.tdiv z 64 := w64 (by omega) (by omega)
        rw [x11]
        exact ⟨_, Int.tmod_nonneg _ (xor_nonneg _ _ hz0 (by omega) y0 (by omega)), Int.tmod_lt_of_pos _ (by omega), rfl⟩
  obtain ⟨v, h0, hv, hk⟩ := key
  exact EvP.mono_of (spec_l6Rd_pick.mono l p n) hk ⟨h0, hv, rfl⟩

theorem open_p (l : List Int) (hl : ∀ x ∈ l, 0 ≤ x ∧ x ≤ 255) : ∃ l', spec_l6Open.f l = some (l', 0) ∧ (∀ x ∈ l', 0 ≤ x ∧ x ≤ 255) ∧ l'.length ≤ 2000 := by
  unfold spec_l6Open.f
  by_cases h : (l.length : Int) > 2000
  · rw [if_pos h, if_pos (by omega)]
    exact ⟨_, rfl, fun x hx => hl x (List.mem_of_mem_take hx), by rw [List.length_take]; omega⟩
  · rw [if_neg h]
    exact ⟨_, rfl, hl, by omega⟩

theorem time_p (l : List Int) (hl : ∀ x ∈ l, 0 ≤ x ∧ x ≤ 255) (hn : l.length ≤ 2000) (p : Int) (hp : 0 ≤ p) (hp2 : p ≤ 900000000) :
    EvP (fun k => spec_l71Time.f k l p) (fun r => 0 ≤ r.1 ∧ r.1 ≤ 7 ∧ 0 ≤ r.2.1 ∧ r.2.1 ≤ 7 ∧ p ≤ r.2.2 ∧ r.2.2 ≤ p + 3) := by
  unfold spec_l71Time.f
  refine EvP.bind (pick_p l hl hn p 10 hp (by omega) (by omega)) fun a ha => EvP.ite (fun _ => ?_) (fun _ => ?_)
  all_goals
    refine EvP.bind (pick_p l hl hn a.2 _ (by omega) (by omega) (by omega)) fun b hb => EvP.bind (pick_p l hl hn b.2 _ (by omega) (by omega) (by omega)) fun c hc => EvP.ret ?_
    simp only
    omega

theorem odd_p (l : List Int) (hl : ∀ x ∈ l, 0 ≤ x ∧ x ≤ 255) (hn : l.length ≤ 2000) (p : Int) (hp : 0 ≤ p) (hp2 : p ≤ 800000000) :
    EvP (fun k => spec_l71Odd.f k l p) (fun r => -1 ≤ r.1 ∧ r.1 ≤ 8 ∧ -1 ≤ r.2.1 ∧ r.2.1 ≤ 8 ∧ p ≤ r.2.2 ∧ r.2.2 ≤ p + 5) := by
  have two : ∀ i : Int, 0 ≤ i → i < 2 → -1 ≤ rd [-1, 8] i ∧ rd [-1, 8] i ≤ 8 := fun i h0 h1 => by
    have : i = 0 ∨ i = 1 := by omega
    rcases this with rfl | rfl <;> decide
  unfold spec_l71Odd.f
  refine EvP.bind (time_p l hl hn p hp (by omega)) fun a ha => EvP.bind (pick_p l hl hn a.2.2 16 (by omega) (by omega) (by omega)) fun b hb => EvP.ite (fun _ => ?_) (fun _ => EvP.ite (fun _ => ?_) (fun _ => EvP.ret (by simp only; omega)))
  all_goals
    refine EvP.let_ rfl (EvP.bind (pick_p l hl hn b.2 2 (by omega) (by omega) (by omega)) fun c hc => EvP.pos hc.1 (EvP.pos (by simpa using hc.2.1) (EvP.ret ?_)))
    have := two c.1 hc.1 hc.2.1
    simp only
    omega


/-! what the functions on times say -/
def okT (a b : Int) : Bool := decide (0 ≤ a ∧ a ≤ 7 ∧ 0 ≤ b ∧ b ≤ 7)
def leT (a b c d : Int) : Bool := okT a b && okT c d && decide (a ≤ c ∧ b ≤ d)
theorem okT_true {a b : Int} (h : okT a b = true) : 0 ≤ a ∧ a ≤ 7 ∧ 0 ≤ b ∧ b ≤ 7 := of_decide_eq_true h
theorem leT_true {a b c d : Int} (h : leT a b c d = true) : (0 ≤ a ∧ a ≤ 7 ∧ 0 ≤ b ∧ b ≤ 7) ∧ (0 ≤ c ∧ c ≤ 7 ∧ 0 ≤ d ∧ d ≤ 7) ∧ a ≤ c ∧ b ≤ d := by simpa [leT, okT, and_assoc] using h
theorem leT_mk {a b c d : Int} (h : (0 ≤ a ∧ a ≤ 7 ∧ 0 ≤ b ∧ b ≤ 7) ∧ (0 ≤ c ∧ c ≤ 7 ∧ 0 ≤ d ∧ d ≤ 7) ∧ a ≤ c ∧ b ≤ d) : leT a b c d = true := by simpa [leT, okT, and_assoc] using h

theorem s_ok (a b : Int) : spec_TimeOk.f a b = some (okT a b) := by
  unfold spec_TimeOk.f spec_l6In.f okT
  by_cases h0 : 0 ≤ a <;> by_cases h1 : a ≤ 7 <;> by_cases h2 : 0 ≤ b <;> by_cases h3 : b ≤ 7 <;> simp [h0, h1, h2, h3]

theorem i_ok (a b : Int) : impl_TimeOk.f a b = some (okT a b) := by
  unfold impl_TimeOk.f okT
  by_cases h0 : 0 ≤ a <;> by_cases h1 : a ≤ 7 <;> by_cases h2 : 0 ≤ b <;> by_cases h3 : b ≤ 7 <;> simp [h0, h1, h2, h3]



theorem s_less (a b c d : Int) : spec_TimeLess.f a b c d = some (leT a b c d) := by
  unfold spec_TimeLess.f leT
  rw [s_ok, s_ok]
  cases okT a b <;> cases okT c d <;> by_cases h0 : a ≤ c <;> by_cases h1 : b ≤ d <;> simp [h0, h1]

theorem i_less (a b c d : Int) : impl_TimeLess.f a b c d = some (leT a b c d) := by
  unfold impl_TimeLess.f impl_below.f leT
  rw [i_ok, i_ok]
  cases okT a b <;> cases okT c d <;> by_cases h0 : a ≤ c <;> by_cases h1 : b ≤ d <;> simp [h0, h1]

theorem up1 {i n : Nat} (h : i < n) (hn : n ≤ 4611686018427387904) : wrap64 ((i : Int) + 1) = ((i + 1 : Nat) : Int) := by
  rw [w64 (by omega) (by omega)]; rfl

/-! lists of times -/
abbrev Tm := S36
theorem rdT_drop {xs : List Tm} {i : Nat} (h : i < xs.length) : xs.drop i = rd_T36 xs (i : Int) :: xs.drop (i + 1) := by
  unfold rd_T36
  rw [List.drop_eq_getElem_cons h, List.getD_eq_getElem?_getD, Int.toNat_natCast, List.getElem?_eq_getElem h]
  rfl

/-! frontiers -/
def fOk1 (p : Tm) : List Tm → Bool
  | [] => true
  | y :: r => okT y.f0 y.f1 && (decide (p.f0 < y.f0) && decide (y.f1 < p.f1)) && fOk1 y r
def fOk : List Tm → Bool
  | [] => true
  | x :: r => okT x.f0 x.f1 && fOk1 x r
theorem iFront_loop (l : List Tm) (hl : l.length ≤ 1048576) (d : Nat) : ∀ i : Nat, i + 1 + d = l.length → Ev (fun k => impl_FrontOk.l0 k l l (l.length : Int) ((i + 1 : Nat) : Int)) (fOk1 (rd_T36 l (i : Int)) (l.drop (i + 1))) := by
  induction d with
  | zero =>
    intro i hi
    refine Ev.step (fun k => by rw [impl_FrontOk.l0]) ?_
    refine Ev.congr (fun k => if_neg (by omega)) ?_
    rw [List.drop_eq_nil_of_le (by omega)]
    exact Ev.now _
  | succ d ih =>
    intro i hi
    rw [rdT_drop (by omega : i + 1 < l.length)]
    unfold fOk1
    have e : wrap64 (((i + 1 : Nat) : Int) - 1) = (i : Int) := by rw [w64 (by omega) (by omega)]; omega
    refine Ev.step (fun k => by rw [impl_FrontOk.l0]) ?_
    refine Ev.congr (fun k => (if_pos (by omega)).trans ((if_pos (by omega)).trans (if_pos (by omega)))) ?_
    refine Ev.bind ⟨0, fun k _ => i_ok _ _⟩ ?_
    cases okT (rd_T36 l ((i + 1 : Nat) : Int)).f0 (rd_T36 l ((i + 1 : Nat) : Int)).f1 with
    | false => exact Ev.now _
    | true =>
      rw [e]
      refine Ev.congr (fun k => (if_pos rfl).trans ((if_pos (by omega)).trans ((if_pos (by omega)).trans (if_pos (by omega))))) ?_
      by_cases h1 : (rd_T36 l (i : Int)).f0 ≥ (rd_T36 l ((i + 1 : Nat) : Int)).f0
      · refine Ev.congr (fun k => if_pos h1) ?_
        rw [decide_eq_false (by omega)]
        exact Ev.now _
      · refine Ev.congr (fun k => if_neg h1) ?_
        rw [decide_eq_true (by omega)]
        by_cases h2 : (rd_T36 l (i : Int)).f1 ≤ (rd_T36 l ((i + 1 : Nat) : Int)).f1
        · refine Ev.congr (fun k => if_pos h2) ?_
          rw [decide_eq_false (by omega)]
          exact Ev.now _
        · refine Ev.congr (fun k => if_neg h2) ?_
          rw [decide_eq_true (by omega), up1 (by omega : i + 1 < l.length) (by omega)]
          exact ih (i + 1) (by omega)
theorem iFront_ev (l : List Tm) (hl : l.length ≤ 1048576) : Ev (fun k => impl_FrontOk.f k l) (fOk l) := by
  unfold impl_FrontOk.f
  cases l with
  | nil =>
    refine Ev.step (fun k => by rw [impl_FrontOk.l0]) ?_
    exact Ev.congr (fun k => if_neg (by simp)) (Ev.now _)
  | cons x r =>
    refine Ev.step (fun k => by rw [impl_FrontOk.l0]) ?_
    refine Ev.congr (fun k => (if_pos (by simp)).trans ((if_pos (by omega)).trans (if_pos (by simp)))) ?_
    refine Ev.bind ⟨0, fun k _ => i_ok _ _⟩ ?_
    unfold fOk
    show Ev _ (okT (rd_T36 (x :: r) 0).f0 (rd_T36 (x :: r) 0).f1 && fOk1 (rd_T36 (x :: r) ((0 : Nat) : Int)) ((x :: r).drop (0 + 1)))
    cases okT (rd_T36 (x :: r) 0).f0 (rd_T36 (x :: r) 0).f1 with
    | false => exact Ev.now _
    | true =>
      refine Ev.congr (fun k => (if_pos rfl).trans (if_neg (by omega))) ?_
      have := iFront_loop (x :: r) hl r.length 0 (by simp; omega)
      simpa [w64] using this

theorem fOk1_ok {p : Tm} {l : List Tm} (h : fOk1 p l = true) : ∀ x ∈ l, okT x.f0 x.f1 = true := by
  induction l generalizing p with
  | nil => simp
  | cons y r ih =>
    simp only [fOk1, Bool.and_eq_true] at h
    intro x hx
    rcases List.mem_cons.1 hx with rfl | hx
    · exact h.1.1
    · exact ih h.2 x hx
theorem fOk_ok {l : List Tm} (h : fOk l = true) : ∀ x ∈ l, okT x.f0 x.f1 = true := by
  cases l with
  | nil => simp
  | cons y r =>
    simp only [fOk, Bool.and_eq_true] at h
    intro x hx
    rcases List.mem_cons.1 hx with rfl | hx
    · exact h.1
    · exact fOk1_ok h.2 x hx

def beT (x : Tm) (c d : Int) : Bool := decide (x.f0 ≤ c ∧ x.f1 ≤ d)
theorem i_below (a b c d : Int) : impl_below.f a b c d = some (decide (a ≤ c ∧ b ≤ d)) := by
  unfold impl_below.f
  by_cases h0 : a ≤ c <;> by_cases h1 : b ≤ d <;> simp [h0, h1]
theorem i_beyond_loop (l : List Tm) (c e : Int) (hl : l.length ≤ 1048576) (d : Nat) : ∀ i : Nat, i + d = l.length → Ev (fun k => impl_beyond.l0 k l (l.length : Int) (i : Int) c e) ((l.drop i).any fun x => beT x c e) := by
  induction d with
  | zero =>
    intro i hi
    rw [List.drop_eq_nil_of_le (by omega)]
    refine Ev.step (fun k => by rw [impl_beyond.l0]) ?_
    exact Ev.congr (fun k => if_neg (by omega)) (Ev.now _)
  | succ d ih =>
    intro i hi
    refine Ev.step (fun k => by rw [impl_beyond.l0]) ?_
    refine Ev.congr (fun k => (if_pos (by omega)).trans ((if_pos (by omega)).trans (if_pos (by omega)))) ?_
    refine Ev.bind ⟨0, fun k _ => i_below _ _ _ _⟩ ?_
    rw [rdT_drop (by omega : i < l.length), List.any_cons]
    change Ev (fun k => if beT (rd_T36 l (i : Int)) c e = true then _ else _) _
    cases beT (rd_T36 l (i : Int)) c e with
    | true => exact Ev.now _
    | false =>
      refine Ev.congr (fun k => if_neg (by simp)) ?_
      rw [up1 (by omega : i < l.length) (by omega)]
      exact ih (i + 1) (by omega)
/-- FrontCovers, of both. -/
def coT (l : List Tm) (c e : Int) : Bool := fOk l && (l.any fun x => leT x.f0 x.f1 c e)
theorem i_covers (l : List Tm) (c e : Int) (hl : l.length ≤ 1048576) : Ev (fun k => impl_FrontCovers.f k l c e) (coT l c e) := by
  unfold impl_FrontCovers.f coT
  refine Ev.bind (iFront_ev l hl) ?_
  cases hf : fOk l with
  | false => exact Ev.now _
  | true =>
    refine Ev.congr (fun k => if_pos rfl) (Ev.bind ⟨0, fun k _ => i_ok c e⟩ ?_)
    cases ht : okT c e with
    | false =>
      have : (l.any fun x => leT x.f0 x.f1 c e) = false := by simp [leT, ht]
      rw [this]
      exact Ev.now _
    | true =>
      have : (l.any fun x => leT x.f0 x.f1 c e) = l.any fun x => beT x c e := by
        rw [Bool.eq_iff_iff, List.any_eq_true, List.any_eq_true]
        constructor
        · rintro ⟨x, hx, h⟩
          exact ⟨x, hx, by have := leT_true h; simp [beT]; omega⟩
        · rintro ⟨x, hx, h⟩
          exact ⟨x, hx, by simp [leT, ht, fOk_ok hf x hx]; simpa [beT] using h⟩
      rw [this]
      refine Ev.congr (fun k => if_pos rfl) (Ev.bind (a := l.any fun x => beT x c e) ?_ (Ev.now _))
      unfold impl_beyond.f
      simpa using i_beyond_loop l c e hl l.length 0 (by omega)

/-! FrontOf, of the reference -/
def mnT (l : List Tm) (a b : Int) : Bool := (l.any fun x => x.f0 == a && (x.f1 == b)) && !(l.any fun x => (!(x.f0 == a) || (!(x.f1 == b))) && leT x.f0 x.f1 a b)
/-- one row of the grid: b = n - 1 .. 0 -/
def gRow (l : List Tm) (a : Int) : Nat → List Tm
  | 0 => []
  | n + 1 => (if mnT l a (n : Int) then [(⟨a, (n : Int)⟩ : Tm)] else []) ++ gRow l a n
/-- the rows from a on, m of them -/
def gAll (l : List Tm) (a : Int) : Nat → List Tm
  | 0 => []
  | m + 1 => gRow l a 8 ++ gAll l (a + 1) m
def sFrontOf (l : List Tm) : List Tm := if (l.all fun x => okT x.f0 x.f1) then gAll l 0 8 else []
theorem gRow_len (l : List Tm) (a : Int) (n : Nat) : (gRow l a n).length ≤ n := by
  induction n with
  | zero => simp [gRow]
  | succ n ih =>
    simp only [gRow, List.length_append]
    split <;> simp <;> omega
theorem gAll_len (l : List Tm) (m : Nat) : ∀ a : Int, (gAll l a m).length ≤ 8 * m := by
  induction m with
  | zero => simp [gAll]
  | succ m ih =>
    intro a
    have := gRow_len l a 8
    have := ih (a + 1)
    simp only [gAll, List.length_append]
    omega
theorem sFrontOf_len (l : List Tm) : (sFrontOf l).length ≤ 64 := by
  unfold sFrontOf
  split
  · exact gAll_len l 8 0
  · simp
theorem s_l1Ok_loop (l : List Tm) (hl : l.length ≤ 1048576) (d : Nat) : ∀ i : Nat, i + d = l.length → Ev (fun k => spec_l1Ok.l0 k l (i : Int)) ((l.drop i).all fun x => okT x.f0 x.f1) := by
  induction d with
  | zero =>
    intro i hi
    rw [List.drop_eq_nil_of_le (by omega)]
    refine Ev.step (fun k => by rw [spec_l1Ok.l0]) ?_
    exact (Ev.congr (fun k => if_neg (by omega)) (Ev.now _))
  | succ d ih =>
    intro i hi
    refine Ev.step (fun k => by rw [spec_l1Ok.l0]) (Ev.congr (fun k => (if_pos (by omega)).trans (if_pos (by omega))) ?_)
    refine Ev.bind ⟨0, fun k _ => s_ok _ _⟩ ?_
    rw [rdT_drop (by omega : i < l.length), List.all_cons]
    cases okT (rd_T36 l (i : Int)).f0 (rd_T36 l (i : Int)).f1 with
    | false => exact Ev.now _
    | true =>
      refine Ev.congr (fun k => if_pos rfl) ?_
      rw [up1 (by omega : i < l.length) (by omega)]
      exact ih (i + 1) (by omega)
theorem fo_l2 (l out : List Tm) (a b t0 t1 : Int) (R : List Tm) (hl : l.length ≤ 1048576) (d : Nat) : ∀ (i : Nat) (f : Bool), i + d = l.length →
    Ev (fun k => spec_FrontOf.l3 k l out a b (f || (l.drop i).any fun x => x.f0 == t0 && (x.f1 == t1)) 0 t0 t1) R → Ev (fun k => spec_FrontOf.l2 k l out a b f (i : Int) t0 t1) R := by
  induction d with
  | zero =>
    intro i f hi h
    rw [List.drop_eq_nil_of_le (by omega)] at h
    refine Ev.step (fun k => by rw [spec_FrontOf.l2]) (Ev.congr (fun k => if_neg (by omega)) ?_)
    simpa using h
  | succ d ih =>
    intro i f hi h
    rw [rdT_drop (by omega : i < l.length), List.any_cons] at h
    refine Ev.step (fun k => by rw [spec_FrontOf.l2]) (Ev.congr (fun k => (if_pos (by omega)).trans (if_pos (by omega))) ?_)
    rw [up1 (by omega : i < l.length) (by omega)]
    cases c : ((rd_T36 l (i : Int)).f0 == t0 && ((rd_T36 l (i : Int)).f1 == t1)) with
    | true =>
      refine Ev.congr (fun k => if_pos rfl) (ih (i + 1) true (by omega) ?_)
      rw [c] at h
      simpa using h
    | false =>
      refine Ev.congr (fun k => if_neg (by simp)) (ih (i + 1) f (by omega) ?_)
      rw [c] at h
      simpa using h
theorem fo_l3 (l out : List Tm) (a b t0 t1 : Int) (R : List Tm) (hl : l.length ≤ 1048576) (ho : out.length ≤ 1000) (d : Nat) : ∀ (i : Nat) (f : Bool), i + d = l.length →
    Ev (fun k => spec_FrontOf.l1 k l (out ++ (if (f && !((l.drop i).any fun x => (!(x.f0 == t0) || (!(x.f1 == t1))) && leT x.f0 x.f1 t0 t1)) then [(⟨t0, t1⟩ : Tm)] else [])) a (wrap64 (b - 1))) R → Ev (fun k => spec_FrontOf.l3 k l out a b f (i : Int) t0 t1) R := by
  induction d with
  | zero =>
    intro i f hi h
    rw [List.drop_eq_nil_of_le (by omega)] at h
    refine Ev.step (fun k => by rw [spec_FrontOf.l3]) (Ev.congr (fun k => if_neg (by omega)) ?_)
    cases f with
    | true => exact Ev.congr (fun k => (if_pos rfl).trans (if_pos (by omega))) (by simpa using h)
    | false => exact Ev.congr (fun k => if_neg (by simp)) (by simpa using h)
  | succ d ih =>
    intro i f hi h
    rw [rdT_drop (by omega : i < l.length), List.any_cons] at h
    refine Ev.step (fun k => by rw [spec_FrontOf.l3]) (Ev.congr (fun k => (if_pos (by omega)).trans (if_pos (by omega))) ?_)
    rw [up1 (by omega : i < l.length) (by omega)]
    cases c : (!((rd_T36 l (i : Int)).f0 == t0) || (!((rd_T36 l (i : Int)).f1 == t1))) with
    | true =>
      refine Ev.congr (fun k => if_pos rfl) (Ev.bind ⟨0, fun k _ => s_less _ _ _ _⟩ ?_)
      rw [c] at h
      cases c2 : leT (rd_T36 l (i : Int)).f0 (rd_T36 l (i : Int)).f1 t0 t1 with
      | true =>
        refine Ev.congr (fun k => if_pos rfl) (ih (i + 1) false (by omega) ?_)
        rw [c2] at h
        simpa using h
      | false =>
        refine Ev.congr (fun k => if_neg (by simp)) (ih (i + 1) f (by omega) ?_)
        rw [c2] at h
        simpa using h
    | false =>
      refine Ev.congr (fun k => if_neg (by simp)) (ih (i + 1) f (by omega) ?_)
      rw [c] at h
      simpa using h
theorem fo_l1 (l : List Tm) (a : Int) (R : List Tm) (hl : l.length ≤ 1048576) (n : Nat) : ∀ (out : List Tm), n ≤ 8 → out.length + n ≤ 1000 →
    Ev (fun k => spec_FrontOf.l0 k l (out ++ gRow l a n) (wrap64 (a + 1))) R → Ev (fun k => spec_FrontOf.l1 k l out a ((n : Int) - 1)) R := by
  induction n with
  | zero =>
    intro out _ _ h
    refine Ev.step (fun k => by rw [spec_FrontOf.l1]) (Ev.congr (fun k => if_neg (by omega)) ?_)
    simpa [gRow] using h
  | succ n ih =>
    intro out hn ho h
    refine Ev.step (fun k => by rw [spec_FrontOf.l1]) (Ev.congr (fun k => if_pos (by omega)) ?_)
    have e : (((n + 1 : Nat) : Int) - 1) = (n : Int) := by omega
    rw [e]
    refine fo_l2 l out a (n : Int) a (n : Int) R hl l.length 0 false (by omega) ?_
    refine fo_l3 l out a (n : Int) a (n : Int) R hl (by omega) l.length 0 _ (by omega) ?_
    rw [w64 (by omega) (by omega)]
    simp only [List.drop_zero, Bool.false_or]
    refine ih _ (by omega) ?_ ?_
    · rw [List.length_append]
      split <;> simp <;> omega
    · simpa [gRow, mnT, List.append_assoc] using h
theorem fo_l0 (l : List Tm) (hl : l.length ≤ 1048576) (m : Nat) : ∀ (out : List Tm) (a : Int), a + m = 8 → 0 ≤ a → out.length + 8 * m ≤ 1000 → Ev (fun k => spec_FrontOf.l0 k l out a) (out ++ gAll l a m) := by
  induction m with
  | zero =>
    intro out a ha _ _
    refine Ev.step (fun k => by rw [spec_FrontOf.l0]) (Ev.congr (fun k => if_neg (by omega)) ?_)
    simpa [gAll] using Ev.now out
  | succ m ih =>
    intro out a ha h0 ho
    refine Ev.step (fun k => by rw [spec_FrontOf.l0]) (Ev.congr (fun k => if_pos (by omega)) ?_)
    have := fo_l1 l a (out ++ gAll l a (m + 1)) hl 8 out (by omega) (by omega) (by
      have hr := gRow_len l a 8
      rw [w64 (by omega) (by omega), show out ++ gAll l a (m + 1) = (out ++ gRow l a 8) ++ gAll l (a + 1) m by simp [gAll]]
      exact ih _ (a + 1) (by omega) (by omega) (by rw [List.length_append]; omega))
    simpa using this
theorem s_frontof (l : List Tm) (hl : l.length ≤ 1048576) : Ev (fun k => spec_FrontOf.f k l) (sFrontOf l) := by
  unfold spec_FrontOf.f sFrontOf
  refine Ev.bind (Ev.now _) ?_
  have h1 : Ev (fun k => spec_l1Ok.f k l) (l.all fun x => okT x.f0 x.f1) := by
    unfold spec_l1Ok.f
    simpa using s_l1Ok_loop l hl l.length 0 (by omega)
  refine Ev.bind h1 ?_
  cases (l.all fun x => okT x.f0 x.f1) with
  | false => exact Ev.congr (fun k => if_neg (by simp)) (Ev.now _)
  | true => exact Ev.congr (fun k => if_pos rfl) (by simpa using fo_l0 l hl 8 [] 0 (by omega) (by omega) (by simp))

theorem times_loop (l : List Int) (hl : ∀ x ∈ l, 0 ≤ x ∧ x ≤ 255) (hn : l.length ≤ 2000) (d : Nat) : ∀ (out : List Tm) (p : Int), d ≤ 1000 → 0 ≤ p → p + 3 * d ≤ 800000000 → (∀ x ∈ out, okT x.f0 x.f1 = true) → out.length + d ≤ 1000000 →
    EvP (fun k => spec_l71Times.l0 k out (d : Int) l p) (fun r => r.1.length = out.length + d ∧ (∀ x ∈ r.1, okT x.f0 x.f1 = true) ∧ p ≤ r.2 ∧ r.2 ≤ p + 3 * d) := by
  induction d with
  | zero =>
    intro out p _ _ _ ho _
    refine EvP.step (fun k => by rw [spec_l71Times.l0]) ?_
    exact (EvP.neg (by omega) (EvP.ret ⟨by simp, ho, by omega, by omega⟩))
  | succ d ih =>
    intro out p hd hp hp2 ho hlen
    refine EvP.step (fun k => by rw [spec_l71Times.l0]) ?_
    refine EvP.pos (by omega) (EvP.bind (time_p l hl hn p hp (by omega)) fun a ha => EvP.pos (by omega) ?_)
    have e : wrap64 (((d + 1 : Nat) : Int) - 1) = (d : Int) := by rw [w64 (by omega) (by omega)]; omega
    rw [e]
    refine (ih _ a.2.2 (by omega) (by omega) (by omega) (fun x hx => ?_) (by simp; omega)).mono fun r hr => ?_
    · rcases List.mem_append.1 hx with hx | hx
      · exact ho x hx
      · rw [List.mem_singleton.1 hx]
        exact decide_eq_true (by simp only; omega)
    · obtain ⟨h1, h2, h3, h4⟩ := hr
      exact ⟨by rw [h1]; simp; omega, h2, by omega, by omega⟩
theorem times_p (l : List Int) (hl : ∀ x ∈ l, 0 ≤ x ∧ x ≤ 255) (hn : l.length ≤ 2000) (p most : Int) (hp : 0 ≤ p) (hp2 : p ≤ 700000000) (hm : 0 ≤ most) (hm2 : most ≤ 100) :
    EvP (fun k => spec_l71Times.f k l p most) (fun r => (r.1.length : Int) ≤ most ∧ (∀ x ∈ r.1, okT x.f0 x.f1 = true) ∧ p ≤ r.2 ∧ r.2 ≤ p + 1 + 3 * most) := by
  unfold spec_l71Times.f
  rw [w64 (by omega) (by omega)]
  refine EvP.bind (pick_p l hl hn p (most + 1) hp (by omega) (by omega)) fun a ha => ?_
  obtain ⟨v, q⟩ := a
  obtain ⟨n, rfl⟩ := Int.eq_ofNat_of_zero_le ha.1
  simp only at ha
  refine (times_loop l hl hn n [] q (by omega) (by omega) (by omega) (fun x hx => by simp at hx) (by simp; omega)).mono fun r hr => ?_
  obtain ⟨h1, h2, h3, h4⟩ := hr
  exact ⟨by rw [h1]; simp; omega, h2, by omega, by omega⟩
/-- what a drawn front is -/
def DrawnFront (f : List Tm) : Prop := ∃ ts : List Tm, ts.length ≤ 4 ∧ (∀ x ∈ ts, okT x.f0 x.f1 = true) ∧ (f = sFrontOf ts ∨ ∃ o : Tm, f = sFrontOf ts ++ [o])
theorem DrawnFront.len {f : List Tm} (h : DrawnFront f) : f.length ≤ 65 := by
  obtain ⟨ts, _, _, h | ⟨o, h⟩⟩ := h
  · have := sFrontOf_len ts; rw [h]; omega
  · have := sFrontOf_len ts; rw [h]; simp; omega
theorem rdT_mem {l : List Tm} {i : Nat} (h : i < l.length) : rd_T36 l (i : Int) ∈ l := by
  have := rdT_drop h
  exact List.mem_of_mem_drop (this ▸ List.mem_cons_self)
theorem coT_true {l : List Tm} {a b : Int} (h : coT l a b = true) : ∃ x ∈ l, x.f0 ≤ a ∧ x.f1 ≤ b := by
  unfold coT at h
  simp only [Bool.and_eq_true, List.any_eq_true] at h
  obtain ⟨_, x, hx, hle⟩ := h
  have := leT_true hle
  exact ⟨x, hx, by omega, by omega⟩
theorem coT_mk {l : List Tm} {a b : Int} (hf : fOk l = true) (ht : okT a b = true) {x : Tm} (hx : x ∈ l) (h0 : x.f0 ≤ a) (h1 : x.f1 ≤ b) : coT l a b = true := by
  unfold coT
  simp only [Bool.and_eq_true, List.any_eq_true]
  have := okT_true (fOk_ok hf x hx); have := okT_true ht
  exact ⟨hf, x, hx, leT_mk (by omega)⟩

/-! FrontOf: the steps of a list -/
structure Stair (l out : List Tm) : Prop where
  sub : ∀ x ∈ out, x ∈ l
  pw : out.Pairwise fun x y => x.f0 < y.f0 ∧ y.f1 < x.f1
  dom : ∀ y ∈ l, ∃ x ∈ out, x.f0 ≤ y.f0 ∧ x.f1 ≤ y.f1
theorem Tm.eq {x y : Tm} (h0 : x.f0 = y.f0) (h1 : x.f1 = y.f1) : x = y := by
  obtain ⟨a, b⟩ := x; obtain ⟨c, d⟩ := y
  simp only at h0 h1
  rw [h0, h1]
/-- of two steps neither is behind the other -/
theorem stair_anti {out : List Tm} (h : out.Pairwise fun x y => x.f0 < y.f0 ∧ y.f1 < x.f1) : ∀ x ∈ out, ∀ y ∈ out, x.f0 ≤ y.f0 → x.f1 ≤ y.f1 → x = y := by
  induction out with
  | nil => intro x hx; simp at hx
  | cons z r ih =>
    obtain ⟨h1, h2⟩ := List.pairwise_cons.1 h
    intro x hx y hy h0 h3
    rcases List.mem_cons.1 hx with e | hx' <;> rcases List.mem_cons.1 hy with e' | hy'
    · rw [e, e']
    · have := h1 y hy'; rw [e] at h0 h3; omega
    · have := h1 x hx'; rw [e'] at h0 h3; omega
    · exact ih h2 x hx' y hy' h0 h3
theorem Stair.mem {l out : List Tm} (h : Stair l out) (t : Tm) : t ∈ out ↔ t ∈ l ∧ ∀ x ∈ l, x.f0 ≤ t.f0 → x.f1 ≤ t.f1 → x = t := by
  constructor
  · intro ht
    refine ⟨h.sub t ht, fun x hx h0 h1 => ?_⟩
    obtain ⟨y, hy, y0, y1⟩ := h.dom x hx
    have e := stair_anti h.pw y hy t ht (by omega) (by omega)
    rw [e] at y0 y1
    exact Tm.eq (by omega) (by omega)
  · rintro ⟨ht, hm⟩
    obtain ⟨y, hy, y0, y1⟩ := h.dom t ht
    rw [← hm y (h.sub y hy) y0 y1]
    exact hy
/-- two ordered lists of the same members -/
theorem ordered_uniq : ∀ {a b : List Tm}, a.Pairwise (fun x y => x.f0 < y.f0 ∨ x.f0 = y.f0 ∧ y.f1 < x.f1) → b.Pairwise (fun x y => x.f0 < y.f0 ∨ x.f0 = y.f0 ∧ y.f1 < x.f1) → (∀ t, t ∈ a ↔ t ∈ b) → a = b
  | [], [], _, _, _ => rfl
  | [], y :: s, _, _, h => by have := (h y).2 List.mem_cons_self; simp at this
  | x :: r, [], _, _, h => by have := (h x).1 List.mem_cons_self; simp at this
  | x :: r, y :: s, ha, hb, h => by
    obtain ⟨a1, a2⟩ := List.pairwise_cons.1 ha
    obtain ⟨b1, b2⟩ := List.pairwise_cons.1 hb
    have e : x = y := by
      rcases List.mem_cons.1 ((h x).1 List.mem_cons_self) with e | hx
      · exact e
      · rcases List.mem_cons.1 ((h y).2 List.mem_cons_self) with e | hy
        · exact e.symm
        · have := a1 y hy; have := b1 x hx; omega
    subst e
    rw [ordered_uniq a2 b2 fun t => ?_]
    constructor
    · intro ht
      rcases List.mem_cons.1 ((h t).1 (List.mem_cons_of_mem _ ht)) with e | ht'
      · subst e; have := a1 t ht; omega
      · exact ht'
    · intro ht
      rcases List.mem_cons.1 ((h t).2 (List.mem_cons_of_mem _ ht)) with e | ht'
      · subst e; have := b1 t ht; omega
      · exact ht'
theorem Stair.uniq {l m a b : List Tm} (ha : Stair l a) (hb : Stair m b) (h : ∀ t, t ∈ l ↔ t ∈ m) : a = b := by
  refine ordered_uniq (ha.pw.imp fun h => .inl h.1) (hb.pw.imp fun h => .inl h.1) fun t => ?_
  rw [ha.mem, hb.mem, h]
  constructor
  · rintro ⟨h1, h2⟩; exact ⟨h1, fun x hx => h2 x ((h x).2 hx)⟩
  · rintro ⟨h1, h2⟩; exact ⟨h1, fun x hx => h2 x ((h x).1 hx)⟩
/-! the program's scan -/
theorem rd_last (out : List Tm) (x : Tm) : rd_T36 (out ++ [x]) (((out ++ [x]).length : Int) - 1) = x := by
  unfold rd_T36
  have e : (((out ++ [x]).length : Int) - 1).toNat = out.length := by simp
  rw [e, List.getD_eq_getElem?_getD, List.getElem?_append_right (Nat.le_refl _)]
  simp
theorem frS_stair (s : List Tm) : ∀ (p out : List Tm), (p ++ s).Pairwise (fun x y => x.f0 < y.f0 ∨ x.f0 = y.f0 ∧ x.f1 ≤ y.f1) → Stair p out → Stair (p ++ s) (frS out s) := by
  induction s with
  | nil => intro p out _ h; simpa [frS] using h
  | cons t r ih =>
    intro p out hs h
    have e : p ++ t :: r = (p ++ [t]) ++ r := by simp
    rw [e] at hs ⊢
    rw [frS]
    refine ih (p ++ [t]) _ hs ?_
    have hp : ∀ y ∈ p, y.f0 < t.f0 ∨ y.f0 = t.f0 ∧ y.f1 ≤ t.f1 := fun y hy => (List.pairwise_append.1 (List.pairwise_append.1 hs).1).2.2 y hy t (by simp)
    have grow : (∀ x ∈ out, t.f1 < x.f1) → Stair (p ++ [t]) (out ++ [t]) := fun hlt => ⟨fun x hx => by
        rcases List.mem_append.1 hx with hx | hx
        · exact List.mem_append_left _ (h.sub x hx)
        · exact List.mem_append_right _ hx,
      List.pairwise_append.2 ⟨h.pw, List.pairwise_singleton _ _, fun x hx y hy => by
        rw [List.mem_singleton.1 hy]
        have := hp x (h.sub x hx); have := hlt x hx
        omega⟩, fun y hy => by
        rcases List.mem_append.1 hy with hy | hy
        · obtain ⟨x, hx, hh⟩ := h.dom y hy
          exact ⟨x, List.mem_append_left _ hx, hh⟩
        · rw [List.mem_singleton.1 hy]
          exact ⟨t, by simp, by omega, by omega⟩⟩
    by_cases h0 : out.length = 0
    · rw [if_pos h0]
      refine grow fun x hx => ?_
      rw [List.length_eq_zero_iff.1 h0] at hx
      simp at hx
    · rw [if_neg h0]
      obtain ⟨ini, lst, rfl⟩ : ∃ ini lst, out = ini ++ [lst] := ⟨out.dropLast, out.getLast (by intro e; rw [e] at h0; simp at h0), (List.dropLast_concat_getLast _).symm⟩
      rw [rd_last]
      have hl : ∀ x ∈ ini ++ [lst], lst.f1 ≤ x.f1 := fun x hx => by
        rcases List.mem_append.1 hx with hx | hx
        · have := (List.pairwise_append.1 h.pw).2.2 x hx lst (by simp); omega
        · rw [List.mem_singleton.1 hx]; omega
      by_cases h1 : t.f1 < lst.f1
      · rw [if_pos h1]
        exact grow fun x hx => by have := hl x hx; omega
      · rw [if_neg h1]
        refine ⟨fun x hx => List.mem_append_left _ (h.sub x hx), h.pw, fun y hy => ?_⟩
        rcases List.mem_append.1 hy with hy | hy
        · exact h.dom y hy
        · rw [List.mem_singleton.1 hy]
          have := hp lst (h.sub lst (by simp))
          exact ⟨lst, by simp, by omega, by omega⟩
theorem lt_neg (x y : Tm) : (!lt36 y x) = true ↔ x.f0 < y.f0 ∨ x.f0 = y.f0 ∧ x.f1 ≤ y.f1 := by
  simp only [lt36, Bool.not_eq_true', decide_eq_false_iff_not]
  omega
theorem sort_pw (l : List Tm) : (l.mergeSort fun x y => !lt36 y x).Pairwise (fun x y => x.f0 < y.f0 ∨ x.f0 = y.f0 ∧ x.f1 ≤ y.f1) := by
  have := List.pairwise_mergeSort (le := fun x y : Tm => !lt36 y x) (fun a b c h k => by
    rw [lt_neg] at *; omega) (fun a b => by
    simp only [Bool.or_eq_true]
    rw [lt_neg, lt_neg]; omega) l
  exact this.imp fun h => (lt_neg _ _).1 h
theorem frontI_stair (l : List Tm) : Stair l (frontI l) := by
  have h := frS_stair (l.mergeSort fun x y => !lt36 y x) [] [] (by simpa using sort_pw l) ⟨fun x hx => hx, List.Pairwise.nil, fun y hy => by simp at hy⟩
  rw [List.nil_append] at h
  have hm : ∀ t, t ∈ (l.mergeSort fun x y => !lt36 y x) ↔ t ∈ l := fun t => List.mem_mergeSort
  exact ⟨fun x hx => (hm x).1 (h.sub x hx), h.pw, fun y hy => h.dom y ((hm y).2 hy)⟩
theorem tok_ok (x : Tm) : fo_tok x = okT x.f0 x.f1 := by
  unfold fo_tok okT
  by_cases h0 : 0 ≤ x.f0 <;> by_cases h1 : x.f0 ≤ 7 <;> by_cases h2 : 0 ≤ x.f1 <;> by_cases h3 : x.f1 ≤ 7 <;> simp [h0, h1, h2, h3]
/-- FrontOf of the program -/
def pFrontOf (l : List Tm) : List Tm := if (l.all fun x => okT x.f0 x.f1) then frontI l else []
theorem i_frontof (l : List Tm) (hl : l.length ≤ 1048576) : impl_FrontOf.f l = some (pFrontOf l) := by
  unfold impl_FrontOf.f pFrontOf
  rw [if_pos (by omega)]
  congr 2
  have : fo_tok = fun x : Tm => okT x.f0 x.f1 := funext tok_ok
  rw [this]

/-! FrontOf of the program and of the reference: one -/
theorem gRow_mem (l : List Tm) (a : Int) (n : Nat) (t : Tm) : t ∈ gRow l a n ↔ t.f0 = a ∧ 0 ≤ t.f1 ∧ t.f1 < n ∧ mnT l t.f0 t.f1 = true := by
  induction n with
  | zero => simp only [gRow, List.not_mem_nil, false_iff]; omega
  | succ n ih =>
    simp only [gRow, List.mem_append, ih]
    constructor
    · rintro (h | ⟨h1, h2, h3, h4⟩)
      · split at h
        · rename_i hm
          rw [List.mem_singleton.1 h]
          exact ⟨rfl, by simp only; omega, by simp only; omega, hm⟩
        · simp at h
      · exact ⟨h1, h2, by omega, h4⟩
    · rintro ⟨h1, h2, h3, h4⟩
      by_cases hn : t.f1 = n
      · left
        rw [h1, hn] at h4
        rw [if_pos h4, List.mem_singleton]
        exact Tm.eq h1 hn
      · exact .inr ⟨h1, h2, by omega, h4⟩
theorem gRow_pw (l : List Tm) (a : Int) (n : Nat) : (gRow l a n).Pairwise (fun x y => x.f0 < y.f0 ∨ x.f0 = y.f0 ∧ y.f1 < x.f1) := by
  induction n with
  | zero => exact List.Pairwise.nil
  | succ n ih =>
    simp only [gRow]
    refine List.pairwise_append.2 ⟨?_, ih, fun x hx y hy => ?_⟩
    · split
      · exact List.pairwise_singleton _ _
      · exact List.Pairwise.nil
    · split at hx
      · rw [List.mem_singleton.1 hx]
        have := (gRow_mem l a n y).1 hy
        simp only
        omega
      · simp at hx
theorem gAll_mem (l : List Tm) (m : Nat) : ∀ (a : Int) (t : Tm), t ∈ gAll l a m ↔ a ≤ t.f0 ∧ t.f0 < a + m ∧ 0 ≤ t.f1 ∧ t.f1 < 8 ∧ mnT l t.f0 t.f1 = true := by
  induction m with
  | zero => intro a t; simp only [gAll, List.not_mem_nil, false_iff]; omega
  | succ m ih =>
    intro a t
    simp only [gAll, List.mem_append, ih, gRow_mem]
    constructor
    · rintro (⟨h1, h2, h3, h4⟩ | ⟨h1, h2, h3, h4, h5⟩)
      · exact ⟨by omega, by omega, h2, by omega, h4⟩
      · exact ⟨by omega, by omega, h3, h4, h5⟩
    · rintro ⟨h1, h2, h3, h4, h5⟩
      by_cases hn : t.f0 = a
      · exact .inl ⟨hn, h3, by omega, h5⟩
      · exact .inr ⟨by omega, by omega, h3, h4, h5⟩
theorem gAll_pw (l : List Tm) (m : Nat) : ∀ a : Int, (gAll l a m).Pairwise (fun x y => x.f0 < y.f0 ∨ x.f0 = y.f0 ∧ y.f1 < x.f1) := by
  induction m with
  | zero => intro a; exact List.Pairwise.nil
  | succ m ih =>
    intro a
    simp only [gAll]
    refine List.pairwise_append.2 ⟨gRow_pw l a 8, ih (a + 1), fun x hx y hy => ?_⟩
    have h1 := (gRow_mem l a 8 x).1 hx
    have h2 := (gAll_mem l m (a + 1) y).1 hy
    omega
theorem mnT_iff {l : List Tm} (hok : ∀ x ∈ l, okT x.f0 x.f1 = true) (t : Tm) : mnT l t.f0 t.f1 = true ↔ t ∈ l ∧ ∀ x ∈ l, x.f0 ≤ t.f0 → x.f1 ≤ t.f1 → x = t := by
  unfold mnT
  simp only [Bool.and_eq_true, Bool.not_eq_true', List.any_eq_true, List.any_eq_false, beq_iff_eq, Bool.or_eq_true, beq_eq_false_iff_ne]
  constructor
  · rintro ⟨⟨x, hx, h0, h1⟩, hn⟩
    have e : x = t := Tm.eq h0 h1
    subst e
    refine ⟨hx, fun y hy h2 h3 => ?_⟩
    by_cases h4 : y.f0 = x.f0
    · by_cases h5 : y.f1 = x.f1
      · exact Tm.eq h4 h5
      · exact absurd ⟨.inr h5, leT_mk ⟨okT_true (hok y hy), okT_true (hok x hx), h2, h3⟩⟩ (hn y hy)
    · exact absurd ⟨.inl h4, leT_mk ⟨okT_true (hok y hy), okT_true (hok x hx), h2, h3⟩⟩ (hn y hy)
  · rintro ⟨ht, hm⟩
    refine ⟨⟨t, ht, rfl, rfl⟩, fun x hx => ?_⟩
    rintro ⟨h1, h2⟩
    have h3 := leT_true h2
    have e := hm x hx h3.2.2.1 h3.2.2.2
    subst e
    rcases h1 with h1 | h1 <;> exact h1 rfl
theorem fo_same (l : List Tm) : pFrontOf l = sFrontOf l := by
  unfold pFrontOf sFrontOf
  split
  · rename_i h
    have hok : ∀ x ∈ l, okT x.f0 x.f1 = true := fun x hx => List.all_eq_true.1 h x hx
    have S := frontI_stair l
    refine ordered_uniq (S.pw.imp fun h => .inl h.1) (gAll_pw l 8 0) fun t => ?_
    rw [S.mem, gAll_mem]
    constructor
    · intro ht
      have := okT_true (hok t ht.1)
      exact ⟨by omega, by omega, by omega, by omega, (mnT_iff hok t).2 ht⟩
    · rintro ⟨_, _, _, _, h5⟩
      exact (mnT_iff hok t).1 h5
  · rfl

/-! lists of times, held together -/
def eqL : List Tm → List Tm → Bool
  | [], [] => true
  | x :: r, y :: s => (x.f0 == y.f0 && (x.f1 == y.f1)) && eqL r s
  | _, _ => false
theorem eqL_iff : ∀ (a b : List Tm), eqL a b = true ↔ a = b
  | [], [] => by simp [eqL]
  | [], y :: s => by simp [eqL]
  | x :: r, [] => by simp [eqL]
  | x :: r, y :: s => by
    simp only [eqL, Bool.and_eq_true, beq_iff_eq, eqL_iff r s, List.cons.injEq]
    constructor
    · rintro ⟨⟨h0, h1⟩, h2⟩
      refine ⟨?_, h2⟩
      obtain ⟨a, b⟩ := x; obtain ⟨c, d⟩ := y
      simp only at h0 h1
      rw [h0, h1]
    · rintro ⟨rfl, h2⟩
      exact ⟨⟨rfl, rfl⟩, h2⟩
theorem eqL_self (a : List Tm) : eqL a a = true := (eqL_iff a a).2 rfl

theorem lwTimes_loop (a b : List Tm) (hl : a.length ≤ 1048576) (he : a.length = b.length) (d : Nat) : ∀ i : Nat, i + d = a.length → Ev (fun k => laws_lwTimes.l0 k a b (i : Int)) (eqL (a.drop i) (b.drop i)) := by
  induction d with
  | zero =>
    intro i hi
    rw [List.drop_eq_nil_of_le (by omega), List.drop_eq_nil_of_le (by omega)]
    show Ev (fun k => laws_lwTimes.l0 k a b (i : Int)) true
    refine Ev.step (fun k => by rw [laws_lwTimes.l0]) ?_
    exact (Ev.congr (fun k => if_neg (by omega)) (Ev.now _))
  | succ d ih =>
    intro i hi
    refine Ev.step (fun k => by rw [laws_lwTimes.l0]) (Ev.congr (fun k => (if_pos (by omega)).trans ((if_pos (by omega)).trans (if_pos (by omega)))) ?_)
    rw [rdT_drop (by omega : i < a.length), rdT_drop (by omega : i < b.length), eqL]
    cases h0 : ((rd_T36 a (i : Int)).f0 == (rd_T36 b (i : Int)).f0) with
    | false => exact Ev.congr (fun k => if_pos (by simp)) (by simpa using Ev.now false)
    | true =>
      cases h1 : ((rd_T36 a (i : Int)).f1 == (rd_T36 b (i : Int)).f1) with
      | false => exact Ev.congr (fun k => if_pos (by simp)) (by simpa using Ev.now false)
      | true =>
        refine Ev.congr (fun k => if_neg (by simp)) ?_
        rw [up1 (by omega : i < a.length) (by omega)]
        simpa using ih (i + 1) (by omega)
theorem lwTimes_ev (a b : List Tm) (hl : a.length ≤ 1048576) : Ev (fun k => laws_lwTimes.f k a b) (eqL a b) := by
  unfold laws_lwTimes.f
  by_cases he : a.length = b.length
  · exact Ev.congr (fun k => if_pos (by omega)) (by simpa using lwTimes_loop a b hl he a.length 0 (by omega))
  · have : eqL a b = false := by
      rw [Bool.eq_false_iff]
      intro h
      rw [(eqL_iff a b).1 h] at he
      exact he rfl
    rw [this]
    exact Ev.congr (fun k => if_neg (by omega)) (Ev.now _)

/-! what a frontier is -/
theorem fOk1_iff (l : List Tm) : ∀ p : Tm, fOk1 p l = true ↔ (∀ x ∈ l, okT x.f0 x.f1 = true) ∧ (p :: l).Pairwise (fun x y => x.f0 < y.f0 ∧ y.f1 < x.f1) := by
  induction l with
  | nil => intro p; simp [fOk1]
  | cons y r ih =>
    intro p
    simp only [fOk1, Bool.and_eq_true, decide_eq_true_eq, ih y]
    constructor
    · rintro ⟨⟨h1, h2, h3⟩, h4, h5⟩
      refine ⟨fun x hx => ?_, List.pairwise_cons.2 ⟨fun x hx => ?_, h5⟩⟩
      · rcases List.mem_cons.1 hx with rfl | hx
        · exact h1
        · exact h4 x hx
      · rcases List.mem_cons.1 hx with rfl | hx
        · exact ⟨h2, h3⟩
        · have := (List.pairwise_cons.1 h5).1 x hx
          omega
    · rintro ⟨h1, h2⟩
      obtain ⟨h3, h4⟩ := List.pairwise_cons.1 h2
      exact ⟨⟨h1 y List.mem_cons_self, (h3 y List.mem_cons_self).1, (h3 y List.mem_cons_self).2⟩, fun x hx => h1 x (List.mem_cons_of_mem _ hx), h4⟩
theorem fOk_iff (l : List Tm) : fOk l = true ↔ (∀ x ∈ l, okT x.f0 x.f1 = true) ∧ l.Pairwise (fun x y => x.f0 < y.f0 ∧ y.f1 < x.f1) := by
  cases l with
  | nil => simp [fOk]
  | cons y r =>
    simp only [fOk, Bool.and_eq_true, fOk1_iff]
    constructor
    · rintro ⟨h1, h2, h3⟩
      exact ⟨fun x hx => by
        rcases List.mem_cons.1 hx with rfl | hx
        · exact h1
        · exact h2 x hx, h3⟩
    · rintro ⟨h1, h2⟩
      exact ⟨h1 y List.mem_cons_self, fun x hx => h1 x (List.mem_cons_of_mem _ hx), h2⟩
theorem steps_len (l : List Tm) : ∀ n : Int, (∀ x ∈ l, n ≤ x.f0 ∧ x.f0 ≤ 7) → l.Pairwise (fun x y => x.f0 < y.f0 ∧ y.f1 < x.f1) → n ≤ 8 → (l.length : Int) ≤ 8 - n := by
  induction l with
  | nil => intro n _ _ h; simp; omega
  | cons y r ih =>
    intro n h1 h2 _
    obtain ⟨h3, h4⟩ := List.pairwise_cons.1 h2
    have hy := h1 y List.mem_cons_self
    have := ih (y.f0 + 1) (fun x hx => by have := h3 x hx; have := h1 x (List.mem_cons_of_mem _ hx); omega) h4 (by omega)
    simp only [List.length_cons]
    omega
theorem fOk_len {l : List Tm} (h : fOk l = true) : l.length ≤ 8 := by
  obtain ⟨h1, h2⟩ := (fOk_iff l).1 h
  have := steps_len l 0 (fun x hx => by have := okT_true (h1 x hx); omega) h2 (by omega)
  omega
theorem all_ok {l : List Tm} (h : ∀ x ∈ l, okT x.f0 x.f1 = true) : (l.all fun x => okT x.f0 x.f1) = true := List.all_eq_true.2 h
theorem pF_stair {l : List Tm} (h : ∀ x ∈ l, okT x.f0 x.f1 = true) : Stair l (pFrontOf l) := by
  unfold pFrontOf
  rw [if_pos (all_ok h)]
  exact frontI_stair l
/-- the front of anything is a front -/
theorem pF_ok (l : List Tm) : fOk (pFrontOf l) = true := by
  by_cases h : (l.all fun x => okT x.f0 x.f1) = true
  · have S := pF_stair (l := l) (List.all_eq_true.1 h)
    exact (fOk_iff _).2 ⟨fun x hx => List.all_eq_true.1 h x (S.sub x hx), S.pw⟩
  · unfold pFrontOf
    rw [if_neg h]
    rfl
/-- a front is its own front -/
theorem pF_self {l : List Tm} (h : fOk l = true) : pFrontOf l = l := by
  obtain ⟨h1, h2⟩ := (fOk_iff l).1 h
  exact (pF_stair h1).uniq (⟨fun x hx => hx, h2, fun y hy => ⟨y, hy, by omega, by omega⟩⟩ : Stair l l) fun t => Iff.rfl
theorem pF_own (l : List Tm) : eqL (pFrontOf l) l = fOk l := by
  rw [Bool.eq_iff_iff, eqL_iff]
  constructor
  · intro h; rw [← h]; exact pF_ok l
  · exact pF_self

theorem drawof_p (l : List Int) (hl : ∀ x ∈ l, 0 ≤ x ∧ x ≤ 255) : EvP (fun k => spec_DrawFrontOf.f k l) (fun r => r.length ≤ 65) := by
  obtain ⟨l', ho, hl', hn⟩ := open_p l hl
  unfold spec_DrawFrontOf.f
  refine EvP.let_ ho (EvP.bind (times_p l' hl' hn 0 6 (by omega) (by omega) (by omega) (by omega)) fun a ha => EvP.bind (pick_p l' hl' hn a.2 12 (by omega) (by omega) (by omega)) fun b hb => EvP.ite (fun _ => ?_) (fun _ => EvP.ret (by omega)))
  exact EvP.bind (odd_p l' hl' hn b.2 (by omega) (by omega)) fun c hc => EvP.pos (by omega) (EvP.ret (by simp; omega))
theorem pF_all {l : List Tm} (h : pFrontOf l ≠ []) : ∀ x ∈ l, okT x.f0 x.f1 = true := by
  unfold pFrontOf at h
  split at h
  · rename_i hk
    exact List.all_eq_true.1 hk
  · exact absurd rfl h
theorem fr_l3 (l f : List Tm) (hs : f.Pairwise fun x y => x.f0 < y.f0 ∧ y.f1 < x.f1) (hf : f.length ≤ 8) (i : Nat) (hi : i < f.length) (R : Bool) (h : Ev (fun k => laws_FnFrontOf.l1 k l f (wrap64 ((i : Int) + 1))) R) (d : Nat) : ∀ j : Nat, j + d = i →
    Ev (fun k => laws_FnFrontOf.l3 k l f (i : Int) true (j : Int)) R := by
  induction d with
  | zero =>
    intro j hj
    refine Ev.step (fun k => by rw [laws_FnFrontOf.l3]) (Ev.congr (fun k => (if_neg (by omega)).trans (if_pos rfl)) h)
  | succ d ih =>
    intro j hj
    have hne : leT (rd_T36 f (i : Int)).f0 (rd_T36 f (i : Int)).f1 (rd_T36 f (j : Int)).f0 (rd_T36 f (j : Int)).f1 = false ∧ leT (rd_T36 f (j : Int)).f0 (rd_T36 f (j : Int)).f1 (rd_T36 f (i : Int)).f0 (rd_T36 f (i : Int)).f1 = false := by
      have e : ∀ n : Nat, ∀ hn : n < f.length, rd_T36 f (n : Int) = f[n] := fun n hn => by
        unfold rd_T36
        rw [List.getD_eq_getElem?_getD, Int.toNat_natCast, List.getElem?_eq_getElem hn]
        rfl
      have := List.pairwise_iff_getElem.1 hs j i (by omega) hi (by omega)
      rw [e i hi, e j (by omega)]
      constructor <;> (rw [Bool.eq_false_iff]; intro hl; have := leT_true hl; omega)
    refine Ev.step (fun k => by rw [laws_FnFrontOf.l3]) (Ev.congr (fun k => (if_pos (by omega)).trans ((if_pos rfl).trans ((if_pos (by omega)).trans ((if_pos (by omega)).trans ((if_pos (by omega)).trans (if_pos (by omega))))))) ?_)
    refine Ev.bind ⟨0, fun k _ => i_less _ _ _ _⟩ ?_
    rw [hne.1]
    refine Ev.congr (fun k => if_neg (by simp)) (Ev.bind ⟨0, fun k _ => i_less _ _ _ _⟩ ?_)
    rw [hne.2, up1 (by omega : j < f.length) (by omega)]
    exact ih (j + 1) (by omega)
theorem fr_l2 (l f : List Tm) (hl : l.length ≤ 1000) (hf : f.length ≤ 8) (i : Nat) (hi : i < f.length) (R : Bool) (h : Ev (fun k => laws_FnFrontOf.l3 k l f (i : Int) true 0) R) (d : Nat) : ∀ (j : Nat) (b : Bool), j + d = l.length → (b = true ∨ rd_T36 f (i : Int) ∈ l.drop j) →
    Ev (fun k => laws_FnFrontOf.l2 k l f (i : Int) b (j : Int)) R := by
  induction d with
  | zero =>
    intro j b hj hb
    rw [List.drop_eq_nil_of_le (by omega)] at hb
    obtain rfl : b = true := by simpa using hb
    refine Ev.step (fun k => by rw [laws_FnFrontOf.l2]) (Ev.congr (fun k => if_neg (by omega)) h)
  | succ d ih =>
    intro j b hj hb
    refine Ev.step (fun k => by rw [laws_FnFrontOf.l2]) (Ev.congr (fun k => if_pos (by omega)) ?_)
    rw [up1 (by omega : j < l.length) (by omega)]
    cases b with
    | true => exact Ev.congr (fun k => if_pos rfl) (ih (j + 1) true (by omega) (.inl rfl))
    | false =>
      refine Ev.congr (fun k => (if_neg (by simp)).trans ((if_pos (by omega)).trans ((if_pos (by omega)).trans (if_pos (by omega))))) (ih (j + 1) _ (by omega) ?_)
      have hm := hb.resolve_left (by simp)
      rw [rdT_drop (by omega : j < l.length)] at hm
      rcases List.mem_cons.1 hm with e | hm
      · rw [← e]; exact .inl (by simp)
      · exact .inr hm
theorem fr_l1 (l f : List Tm) (hl : l.length ≤ 1000) (hk : fOk f = true) (hsub : ∀ x ∈ f, x ∈ l) (d : Nat) : ∀ i : Nat, i + d = f.length → Ev (fun k => laws_FnFrontOf.l1 k l f (i : Int)) true := by
  have hf := fOk_len hk
  induction d with
  | zero =>
    intro i hi
    refine Ev.step (fun k => by rw [laws_FnFrontOf.l1]) (Ev.congr (fun k => if_neg (by omega)) ?_)
    refine Ev.bind (iFront_ev f (by omega)) ?_
    rw [hk]
    exact Ev.now _
  | succ d ih =>
    intro i hi
    refine Ev.step (fun k => by rw [laws_FnFrontOf.l1]) (Ev.congr (fun k => if_pos (by omega)) ?_)
    have h3 := fr_l3 l f ((fOk_iff f).1 hk).2 hf i (by omega) true (by
      rw [up1 (by omega : i < f.length) (by omega)]
      exact ih (i + 1) (by omega)) i 0 (by omega)
    exact fr_l2 l f hl hf i (by omega) true h3 l.length 0 false (by omega) (.inr (by simpa using hsub _ (rdT_mem (by omega : i < f.length))))
theorem fr_l0 (l f : List Tm) (hl : l.length ≤ 1000) (hk : fOk f = true) (hsub : ∀ x ∈ f, x ∈ l) (hok : ∀ x ∈ l, okT x.f0 x.f1 = true) (hdom : ∀ y ∈ l, ∃ x ∈ f, x.f0 ≤ y.f0 ∧ x.f1 ≤ y.f1) (d : Nat) : ∀ i : Nat, i + d = l.length → Ev (fun k => laws_FnFrontOf.l0 k l f (i : Int)) true := by
  have hf := fOk_len hk
  induction d with
  | zero =>
    intro i hi
    refine Ev.step (fun k => by rw [laws_FnFrontOf.l0]) (Ev.congr (fun k => if_neg (by omega)) ?_)
    simpa using fr_l1 l f hl hk hsub f.length 0 (by omega)
  | succ d ih =>
    intro i hi
    refine Ev.step (fun k => by rw [laws_FnFrontOf.l0]) (Ev.congr (fun k => (if_pos (by omega)).trans (if_pos (by omega))) ?_)
    have hm := rdT_mem (by omega : i < l.length)
    obtain ⟨x, hx, x0, x1⟩ := hdom _ hm
    refine Ev.bind (i_covers f _ _ (by omega)) ?_
    rw [coT_mk hk (hok _ hm) hx x0 x1, up1 (by omega : i < l.length) (by omega)]
    exact Ev.congr (fun k => if_pos rfl) (ih (i + 1) (by omega))
theorem FnFrontOf : laws_FnFrontOf.Pure := by
  intro l0 _ _ h0
  have b0 : ∀ x ∈ l0, 0 ≤ x ∧ x ≤ 255 := fun x hx => byte_wf (h0 x hx)
  refine EvP.rounds ?_
  unfold laws_FnFrontOf.f
  refine EvP.ite (fun _ => EvP.ret rfl) (fun _ => EvP.bind (drawof_p l0 b0) fun l hl => ?_)
  have hr := fOk_len (pF_ok l)
  refine EvP.let_ (i_frontof l (by omega)) (EvP.bind (EvP.of_ev (s_frontof l (by omega)) rfl) fun b hb => ?_)
  subst hb
  rw [← fo_same]
  refine EvP.bind (EvP.of_ev (lwTimes_ev _ _ (by omega)) rfl) fun c hc => ?_
  subst hc
  refine EvP.pos (eqL_self _) ?_
  cases hz : ((pFrontOf l).length : Int) == 0 with
  | true =>
    refine EvP.step (fun k => by rw [laws_FnFrontOf.j0]) (EvP.pos rfl (EvP.bind (EvP.of_ev (s_frontof l (by omega)) rfl) fun b hb => ?_))
    subst hb
    rw [← fo_same]
    refine EvP.bind (EvP.of_ev (lwTimes_ev _ _ (by omega)) rfl) fun c hc => EvP.ret ?_
    subst hc
    exact eqL_self _
  | false =>
    have hok := pF_all (l := l) (by
      intro e
      rw [e] at hz
      simp at hz)
    have S := pF_stair hok
    refine EvP.step (fun k => by rw [laws_FnFrontOf.j0]) (EvP.neg (by simp) ?_)
    exact EvP.of_ev (by simpa using fr_l0 l (pFrontOf l) (by omega) (pF_ok l) S.sub hok S.dom l.length 0 (by omega)) rfl
end Go.Proofs.Ytpggfdjnebccnaa.Pure
