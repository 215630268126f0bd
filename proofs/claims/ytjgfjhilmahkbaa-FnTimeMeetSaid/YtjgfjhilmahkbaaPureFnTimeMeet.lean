/- The pure part of FnTimeMeet. -/
import Derived.Test.YtjgfjhilmahkbaaPFnTimeMeetx
import Derived.Test.YtjgfjhilmahkbaaEvP
namespace Go.Proofs.Ytjgfjhilmahkbaa.Pure
open Go.RowKit Go.Proofs.Ytjgfjhilmahkbaa.PFnTimeMeet Go.Proofs.YtjgfjhilmahkbaaW.PrintWords Go.Proofs.YtjgfjhilmahkbaaW.PrintLast Go.Proofs.YtjgfjhilmahkbaaW.PrintMore Go.Proofs.Ytjgfjhilmahkbaa.EvP
/-! the reader -/
theorem pick_p (l : List Int) (hl : ∀ x ∈ l, 0 ≤ x ∧ x ≤ 255) (hn : l.length ≤ 2000) (p n : Int) (hp : 0 ≤ p) (hp2 : p ≤ 1000000000) (h1 : 1 ≤ n) :
    EvP (fun k => spec_l6Rd_pick.f k l p n) (fun r => 0 ≤ r.1 ∧ r.1 < n ∧ r.2 = p + 1) := by
  have e1 : wrap64 (p + 1) = p + 1 := w64 (by omega) (by omega)
  have e2 : wrap64 (p + 1 - 1) = p := by rw [Int.add_sub_cancel]; exact w64 (by omega) (by omega)
  have key : ∃ v, 0 ≤ v ∧ v < n ∧ spec_l6Rd_pick.f 1 l p n = some (v, p + 1) := by
    unfold spec_l6Rd_pick.f
    rw [if_neg (by omega)]
    simp only [spec_l6Rd_pick.j0, e1, e2]
    by_cases h0 : (l.length : Int) = 0
    · refine ⟨0, by omega, by omega, ?_⟩
      rw [if_pos (by simp [h0])]
    · rw [if_neg (by simpa using h0)]
      by_cases h3 : p < (l.length : Int)
      · have hb := rd_byte hl p
        rw [if_pos h3, if_pos hp, if_neg (by omega), w64 (by omega) (by omega)]
        exact ⟨_, Int.tmod_nonneg _ hb.1, Int.tmod_lt_of_pos _ (by omega), rfl⟩
      · rw [if_neg h3, if_neg h0, if_pos (Int.tmod_nonneg _ hp), if_pos (Int.tmod_lt_of_pos _ (by omega))]
        have e7 : wrap64 (p * 7) = p * 7 := w64 (by omega) (by omega)
        have e73 : wrap64 (p * 7 + 3) = p * 7 + 3 := w64 (by omega) (by omega)
        rw [e7, e73, if_pos (Int.tmod_nonneg _ (by omega)), if_pos (Int.tmod_lt_of_pos _ (by omega)), if_neg (by omega)]
        have b1 := rd_byte hl (Int.tmod p (l.length : Int))
        have b2 := rd_byte hl (Int.tmod (p * 7 + 3) (l.length : Int))
        have hd0 : 0 ≤ Int.tdiv p (l.length : Int) := Int.tdiv_nonneg hp (by omega)
        have hd1 : Int.tdiv p (l.length : Int) ≤ p := by
          rw [Int.tdiv_eq_ediv_of_nonneg hp]
          exact Int.ediv_le_self _ hp
        generalize rd l (Int.tmod p (l.length : Int)) = u at *
        generalize rd l (Int.tmod (p * 7 + 3) (l.length : Int)) = v at *
        generalize Int.tdiv p (l.length : Int) = q at *
        have x1 : wrap64 u = u := w64 (by omega) (by omega)
        have x2 : wrap64 v = v := w64 (by omega) (by omega)
        have x3 : wrap64 q = q := w64 (by omega) (by omega)
        have x4 : wrap64 (u * 131) = u * 131 := w64 (by omega) (by omega)
        have x5 : wrap64 (v * 1117) = v * 1117 := w64 (by omega) (by omega)
        have x6 : wrap64 (p * 29) = p * 29 := w64 (by omega) (by omega)
        have x7 : wrap64 (q * 53) = q * 53 := w64 (by omega) (by omega)
        have x8 : wrap64 (u * 131 + v * 1117) = u * 131 + v * 1117 := w64 (by omega) (by omega)
        have x9 : wrap64 (u * 131 + v * 1117 + p * 29) = u * 131 + v * 1117 + p * 29 := w64 (by omega) (by omega)
        have x10 : wrap64 (u * 131 + v * 1117 + p * 29 + q * 53) = u * 131 + v * 1117 + p * 29 + q * 53 := w64 (by omega) (by omega)
        rw [x1, x2, x3, x4, x5, x6, x7, x8, x9, x10]
        have hz0 : 0 ≤ u * 131 + v * 1117 + p * 29 + q * 53 := by omega
        have hz1 : u * 131 + v * 1117 + p * 29 + q * 53 < 1000000000000 := by omega
        generalize u * 131 + v * 1117 + p * 29 + q * 53 = z at *
        have y0 : 0 ≤ Int.tdiv z 64 := Int.tdiv_nonneg hz0 (by omega)
        have y1 : Int.tdiv z 64 ≤ z := by
          rw [Int.tdiv_eq_ediv_of_nonneg hz0]
          exact Int.ediv_le_self _ hz0
        have x11 : wrap64 (Int.tdiv z 64) = Int.tdiv z 64 := w64 (by omega) (by omega)
        rw [x11]
        exact ⟨_, Int.tmod_nonneg _ (xor_nonneg _ _ hz0 (by omega) y0 (by omega)), Int.tmod_lt_of_pos _ (by omega), rfl⟩
  obtain ⟨v, h0, hv, hk⟩ := key
  exact EvP.mono_of (spec_l6Rd_pick.mono l p n) hk ⟨h0, hv, rfl⟩

theorem open_p (l : List Int) (hl : ∀ x ∈ l, 0 ≤ x ∧ x ≤ 255) : ∃ l', spec_l6Open.f l = some (l', 0) ∧ (∀ x ∈ l', 0 ≤ x ∧ x ≤ 255) ∧ l'.length ≤ 2000 := by
  unfold spec_l6Open.f
  by_cases h : (l.length : Int) > 2000
  · rw [if_pos h, if_pos (by omega)]
    exact ⟨_, rfl, fun x hx => hl x (List.mem_of_mem_take hx), by rw [List.length_take]; omega⟩
  · rw [if_neg h]
    exact ⟨_, rfl, hl, by omega⟩

theorem time_p (l : List Int) (hl : ∀ x ∈ l, 0 ≤ x ∧ x ≤ 255) (hn : l.length ≤ 2000) (p : Int) (hp : 0 ≤ p) (hp2 : p ≤ 900000000) :
    EvP (fun k => spec_l71Time.f k l p) (fun r => 0 ≤ r.1 ∧ r.1 ≤ 7 ∧ 0 ≤ r.2.1 ∧ r.2.1 ≤ 7 ∧ p ≤ r.2.2 ∧ r.2.2 ≤ p + 3) := by
  unfold spec_l71Time.f
  refine EvP.bind (pick_p l hl hn p 10 hp (by omega) (by omega)) fun a ha => EvP.ite (fun _ => ?_) (fun _ => ?_)
  all_goals
    refine EvP.bind (pick_p l hl hn a.2 _ (by omega) (by omega) (by omega)) fun b hb => EvP.bind (pick_p l hl hn b.2 _ (by omega) (by omega) (by omega)) fun c hc => EvP.ret ?_
    simp only
    omega
theorem odd_p (l : List Int) (hl : ∀ x ∈ l, 0 ≤ x ∧ x ≤ 255) (hn : l.length ≤ 2000) (p : Int) (hp : 0 ≤ p) (hp2 : p ≤ 800000000) :
    EvP (fun k => spec_l71Odd.f k l p) (fun r => -1 ≤ r.1 ∧ r.1 ≤ 8 ∧ -1 ≤ r.2.1 ∧ r.2.1 ≤ 8 ∧ p ≤ r.2.2 ∧ r.2.2 ≤ p + 5) := by
  have two : ∀ i : Int, 0 ≤ i → i < 2 → -1 ≤ rd [-1, 8] i ∧ rd [-1, 8] i ≤ 8 := fun i h0 h1 => by
    have : i = 0 ∨ i = 1 := by omega
    rcases this with rfl | rfl <;> decide
  unfold spec_l71Odd.f
  refine EvP.bind (time_p l hl hn p hp (by omega)) fun a ha => EvP.bind (pick_p l hl hn a.2.2 16 (by omega) (by omega) (by omega)) fun b hb => EvP.ite (fun _ => ?_) (fun _ => EvP.ite (fun _ => ?_) (fun _ => EvP.ret (by simp only; omega)))
  all_goals
    refine EvP.let_ rfl (EvP.bind (pick_p l hl hn b.2 2 (by omega) (by omega) (by omega)) fun c hc => EvP.pos hc.1 (EvP.pos (by simpa using hc.2.1) (EvP.ret ?_)))
    have := two c.1 hc.1 hc.2.1
    simp only
    omega

theorem less_p (l : List Int) (hl : ∀ x ∈ l, 0 ≤ x ∧ x ≤ 255) : EvP (fun k => spec_DrawTimeLess.f k l) (fun r => -1 ≤ r.1 ∧ r.1 ≤ 8 ∧ -1 ≤ r.2.1 ∧ r.2.1 ≤ 8 ∧ -1 ≤ r.2.2.1 ∧ r.2.2.1 ≤ 12 ∧ -1 ≤ r.2.2.2 ∧ r.2.2.2 ≤ 12) := by
  obtain ⟨l', ho, hl', hn⟩ := open_p l hl
  unfold spec_DrawTimeLess.f
  refine EvP.let_ ho (EvP.bind (odd_p l' hl' hn 0 (by omega) (by omega)) fun a ha => EvP.bind (pick_p l' hl' hn a.2.2 3 (by omega) (by omega) (by omega)) fun b hb => EvP.ite (fun _ => ?_) (fun _ => ?_))
  · refine EvP.bind (pick_p l' hl' hn b.2 3 (by omega) (by omega) (by omega)) fun c hc => EvP.bind (pick_p l' hl' hn c.2 3 (by omega) (by omega) (by omega)) fun d hd => EvP.ret ?_
    simp only
    rw [w64 (by omega) (by omega), w64 (by omega) (by omega)]
    omega
  · refine EvP.bind (odd_p l' hl' hn b.2 (by omega) (by omega)) fun c hc => EvP.ret ?_
    simp only
    omega

/-! what the functions on times say -/
def okT (a b : Int) : Bool := decide (0 ≤ a ∧ a ≤ 7 ∧ 0 ≤ b ∧ b ≤ 7)
def leT (a b c d : Int) : Bool := okT a b && okT c d && decide (a ≤ c ∧ b ≤ d)
theorem okT_true {a b : Int} (h : okT a b = true) : 0 ≤ a ∧ a ≤ 7 ∧ 0 ≤ b ∧ b ≤ 7 := of_decide_eq_true h
theorem leT_true {a b c d : Int} (h : leT a b c d = true) : (0 ≤ a ∧ a ≤ 7 ∧ 0 ≤ b ∧ b ≤ 7) ∧ (0 ≤ c ∧ c ≤ 7 ∧ 0 ≤ d ∧ d ≤ 7) ∧ a ≤ c ∧ b ≤ d := by simpa [leT, okT, and_assoc] using h
theorem leT_mk {a b c d : Int} (h : (0 ≤ a ∧ a ≤ 7 ∧ 0 ≤ b ∧ b ≤ 7) ∧ (0 ≤ c ∧ c ≤ 7 ∧ 0 ≤ d ∧ d ≤ 7) ∧ a ≤ c ∧ b ≤ d) : leT a b c d = true := by simpa [leT, okT, and_assoc] using h
theorem s_ok (a b : Int) : spec_TimeOk.f a b = some (okT a b) := by
  unfold spec_TimeOk.f spec_l6In.f okT
  by_cases h0 : 0 ≤ a <;> by_cases h1 : a ≤ 7 <;> by_cases h2 : 0 ≤ b <;> by_cases h3 : b ≤ 7 <;> simp [h0, h1, h2, h3]
theorem i_ok (a b : Int) : impl_TimeOk.f a b = some (okT a b) := by
  unfold impl_TimeOk.f okT
  by_cases h0 : 0 ≤ a <;> by_cases h1 : a ≤ 7 <;> by_cases h2 : 0 ≤ b <;> by_cases h3 : b ≤ 7 <;> simp [h0, h1, h2, h3]


theorem i_less (a b c d : Int) : impl_TimeLess.f a b c d = some (leT a b c d) := by
  unfold impl_TimeLess.f impl_below.f leT
  rw [i_ok, i_ok]
  cases okT a b <;> cases okT c d <;> by_cases h0 : a ≤ c <;> by_cases h1 : b ≤ d <;> simp [h0, h1]

def meT (a b c d : Int) : Int × Int := if okT a b && okT c d then (min a c, min b d) else (0, 0)
theorem s_meet (a b c d : Int) : spec_TimeMeet.f a b c d = some (meT a b c d) := by
  unfold spec_TimeMeet.f meT
  rw [s_ok, s_ok, mn_def, mn_def]
  cases okT a b <;> cases okT c d <;> rfl
theorem i_meet (a b c d : Int) : impl_TimeMeet.f a b c d = some (meT a b c d) := by
  unfold impl_TimeMeet.f meT
  rw [i_ok, i_ok, mn_def, mn_def]
  cases okT a b <;> cases okT c d <;> rfl

theorem up1 {i n : Nat} (h : i < n) (hn : n ≤ 4611686018427387904) : wrap64 ((i : Int) + 1) = ((i + 1 : Nat) : Int) := by
  rw [w64 (by omega) (by omega)]; rfl

/-! lists of times -/
abbrev Tm := S26
theorem rdT_drop {xs : List Tm} {i : Nat} (h : i < xs.length) : xs.drop i = rd_T26 xs (i : Int) :: xs.drop (i + 1) := by
  unfold rd_T26
  rw [List.drop_eq_getElem_cons h, List.getD_eq_getElem?_getD, Int.toNat_natCast, List.getElem?_eq_getElem h]
  rfl

/-! all times -/
def allT : List Tm := (List.range 8).flatMap fun (a : Nat) => (List.range 8).map fun (b : Nat) => (⟨(a : Int), (b : Int)⟩ : Tm)
theorem lwAll_ev : Ev (fun k => laws_lwAll.f k) allT := by
  refine Ev.of laws_lwAll.mono (k := 100) ?_
  kernel_rfl
theorem allT_len : allT.length = 64 := by decide
theorem allT_ok : ∀ x ∈ allT, 0 ≤ x.f0 ∧ x.f0 ≤ 7 ∧ 0 ≤ x.f1 ∧ x.f1 ≤ 7 := by
  intro x hx
  simp only [allT, List.mem_flatMap, List.mem_map, List.mem_range] at hx
  obtain ⟨a, ha, b, hb, rfl⟩ := hx
  simp only
  omega

theorem meet_loop (s0 s1 t0 t1 : Int) (hs : okT s0 s1 = true) (ht : okT t0 t1 = true) (l : List Tm) (hl : l.length ≤ 1048576) (d : Nat) : ∀ i : Nat, i + d = l.length →
    Ev (fun k => laws_FnTimeMeet.l0 k l (i : Int) s0 s1 t0 t1 (min s0 t0) (min s1 t1)) true := by
  have hs' := okT_true hs
  have ht' := okT_true ht
  induction d with
  | zero =>
    intro i hi
    refine Ev.step (fun k => by rw [laws_FnTimeMeet.l0]) ?_
    refine Ev.congr (fun k => if_neg (by omega)) (Ev.bind ⟨0, fun k _ => i_ok _ _⟩ ?_)
    rw [show okT (min s0 t0) (min s1 t1) = true from decide_eq_true (by omega)]
    exact Ev.now _
  | succ d ih =>
    intro i hi
    refine Ev.step (fun k => by rw [laws_FnTimeMeet.l0]) ?_
    refine Ev.congr (fun k => (if_pos (by omega)).trans (if_pos (by omega))) ?_
    generalize (rd_T26 l (i : Int)).f0 = u
    generalize (rd_T26 l (i : Int)).f1 = v
    rw [up1 (by omega : i < l.length) (by omega)]
    have key : leT u v (min s0 t0) (min s1 t1) = (leT u v s0 s1 && leT u v t0 t1) := by
      rw [Bool.eq_iff_iff, Bool.and_eq_true]
      constructor
      · intro h
        have := leT_true h
        exact ⟨leT_mk (by omega), leT_mk (by omega)⟩
      · rintro ⟨h1, h2⟩
        have := leT_true h1
        have := leT_true h2
        exact leT_mk (by omega)
    refine Ev.bind ⟨0, fun k _ => i_less _ _ _ _⟩ (Ev.bind ⟨0, fun k _ => i_less _ _ _ _⟩ ?_)
    rw [key]
    cases leT u v s0 s1 with
    | false => exact Ev.congr (fun k => (if_neg (by simp)).trans (if_neg (by simp))) (ih (i + 1) (by omega))
    | true => exact Ev.congr (fun k => if_pos rfl) (Ev.bind ⟨0, fun k _ => i_less _ _ _ _⟩ (Ev.congr (fun k => if_neg (by simp)) (ih (i + 1) (by omega))))
theorem FnTimeMeet : laws_FnTimeMeet.Pure := by
  intro l0 _ _ h0
  have b0 : ∀ x ∈ l0, 0 ≤ x ∧ x ≤ 255 := fun x hx => byte_wf (h0 x hx)
  refine EvP.rounds ?_
  unfold laws_FnTimeMeet.f spec_DrawTimeMeet.f
  refine EvP.ite (fun _ => EvP.ret rfl) (fun _ => ?_)
  refine EvP.bind (P := fun _ => True) (EvP.bind (less_p l0 b0) fun a _ => EvP.ret trivial) fun a _ => ?_
  obtain ⟨s0, s1, t0, t1⟩ := a
  refine EvP.let_ (i_meet _ _ _ _) (EvP.let_ (s_meet _ _ _ _) (EvP.neg (by simp) (EvP.let_ (s_ok _ _) ?_)))
  simp only
  cases hs : okT s0 s1 with
  | false =>
    refine EvP.neg (by simp) ?_
    refine EvP.step (fun k => by rw [laws_FnTimeMeet.j0]) ?_
    exact (EvP.pos rfl (EvP.let_ (s_meet _ _ _ _) (EvP.ret (by simp))))
  | true =>
    refine EvP.pos rfl (EvP.let_ (s_ok _ _) ?_)
    cases ht : okT t0 t1 with
    | false =>
      refine EvP.step (fun k => by rw [laws_FnTimeMeet.j0]) ?_
      exact (EvP.pos rfl (EvP.let_ (s_meet _ _ _ _) (EvP.ret (by simp))))
    | true =>
      refine EvP.step (fun k => by rw [laws_FnTimeMeet.j0]) ?_
      refine EvP.neg (by simp) ?_
      refine EvP.of_ev (Ev.bind lwAll_ev ?_) rfl
      have := meet_loop s0 s1 t0 t1 hs ht allT (by rw [allT_len]; omega) 64 0 (by rw [allT_len])
      simpa [meT, hs, ht] using this
end Go.Proofs.Ytjgfjhilmahkbaa.Pure
