/- The pure part of FnTimeLaws. -/
import Derived.Test.YtjgfjhilmahkbaaVFnTimeLawsx
namespace Go.Proofs.Ytjgfjhilmahkbaa.Pure
open Go.RowKit Go.Proofs.Ytjgfjhilmahkbaa.PFnTimeLaws Go.Proofs.YtjgfjhilmahkbaaW.PrintWords Go.Proofs.YtjgfjhilmahkbaaW.PrintLast Go.Proofs.YtjgfjhilmahkbaaW.PrintMore Go.Proofs.Ytjgfjhilmahkbaa.EvP
/-! the reader -/
theorem pick_p (l : List Int) (hl : ∀ x ∈ l, 0 ≤ x ∧ x ≤ 255) (hn : l.length ≤ 2000) (p n : Int) (hp : 0 ≤ p) (hp2 : p ≤ 1000000000) (h1 : 1 ≤ n) :
    EvP (fun k => spec_l6Rd_pick.f k l p n) (fun r => 0 ≤ r.1 ∧ r.1 < n ∧ r.2 = p + 1) := by
  have e1 : wrap64 (p + 1) = p + 1 := w64 (by omega) (by omega)
  have e2 : wrap64 (p + 1 - 1) = p := by rw [Int.add_sub_cancel]; exact w64 (by omega) (by omega)
  have key : ∃ v, 0 ≤ v ∧ v < n ∧ spec_l6Rd_pick.f 1 l p n = some (v, p + 1) := by
    unfold spec_l6Rd_pick.f
    rw [if_neg (by omega)]
    simp only [spec_l6Rd_pick.j0, e1, e2]
    by_cases h0 : (l.length : Int) = 0
    · refine ⟨0, by omega, by omega, ?_⟩
      rw [if_pos (by simp [h0])]
    · rw [if_neg (by simpa using h0)]
      by_cases h3 : p < (l.length : Int)
      · have hb := rd_byte hl p
        rw [if_pos h3, if_pos hp, if_neg (by omega), w64 (by omega) (by omega)]
        exact ⟨_, Int.tmod_nonneg _ hb.1, Int.tmod_lt_of_pos _ (by omega), rfl⟩
      · rw [if_neg h3, if_neg h0, if_pos (Int.tmod_nonneg _ hp), if_pos (Int.tmod_lt_of_pos _ (by omega))]
        have e7 : wrap64 (p * 7) = p * 7 := w64 (by omega) (by omega)
        have e73 : wrap64 (p * 7 + 3) = p * 7 + 3 := w64 (by omega) (by omega)
        rw [e7, e73, if_pos (Int.tmod_nonneg _ (by omega)), if_pos (Int.tmod_lt_of_pos _ (by omega)), if_neg (by omega)]
        have b1 := rd_byte hl (Int.tmod p (l.length : Int))
        have b2 := rd_byte hl (Int.tmod (p * 7 + 3) (l.length : Int))
        have hd0 : 0 ≤ Int.tdiv p (l.length : Int) := Int.tdiv_nonneg hp (by omega)
        have hd1 : Int.tdiv p (l.length : Int) ≤ p := by
          rw [Int.tdiv_eq_ediv_of_nonneg hp]
          exact Int.ediv_le_self _ hp
        generalize rd l (Int.tmod p (l.length : Int)) = u at *
        generalize rd l (Int.tmod (p * 7 + 3) (l.length : Int)) = v at *
        generalize Int.tdiv p (l.length : Int) = q at *
        have x1 : wrap64 u = u := w64 (by omega) (by omega)
        have x2 : wrap64 v = v := w64 (by omega) (by omega)
        have x3 : wrap64 q = q := w64 (by omega) (by omega)
        have x4 : wrap64 (u * 131) = u * 131 := w64 (by omega) (by omega)
        have x5 : wrap64 (v * 1117) = v * 1117 := w64 (by omega) (by omega)
        have x6 : wrap64 (p * 29) = p * 29 := w64 (by omega) (by omega)
        have x7 : wrap64 (q * 53) = q * 53 := w64 (by omega) (by omega)
        have x8 : wrap64 (u * 131 + v * 1117) = u * 131 + v * 1117 := w64 (by omega) (by omega)
        have x9 : wrap64 (u * 131 + v * 1117 + p * 29) = u * 131 + v * 1117 + p * 29 := w64 (by omega) (by omega)
        have x10 : wrap64 (u * 131 + v * 1117 + p * 29 + q * 53) = u * 131 + v * 1117 + p * 29 + q * 53 := w64 (by omega) (by omega)
        rw [x1, x2, x3, x4, x5, x6, x7, x8, x9, x10]
        have hz0 : 0 ≤ u * 131 + v * 1117 + p * 29 + q * 53 := by omega
        have hz1 : u * 131 + v * 1117 + p * 29 + q * 53 < 1000000000000 := by omega
        generalize u * 131 + v * 1117 + p * 29 + q * 53 = z at *
        have y0 : 0 ≤ Int.tdiv z 64 := Int.tdiv_nonneg hz0 (by omega)
        have y1 : Int.tdiv z 64 ≤ z := by
          rw [Int.tdiv_eq_ediv_of_nonneg hz0]
          exact Int.ediv_le_self _ hz0
        have x11 : wrap64 (Int.tdiv z 64) = Int.tdiv z 64 := w64 (by omega) (by omega)
        rw [x11]
        exact ⟨_, Int.tmod_nonneg _ (xor_nonneg _ _ hz0 (by omega) y0 (by omega)), Int.tmod_lt_of_pos _ (by omega), rfl⟩
  obtain ⟨v, h0, hv, hk⟩ := key
  exact EvP.mono_of (spec_l6Rd_pick.mono l p n) hk ⟨h0, hv, rfl⟩

theorem open_p (l : List Int) (hl : ∀ x ∈ l, 0 ≤ x ∧ x ≤ 255) : ∃ l', spec_l6Open.f l = some (l', 0) ∧ (∀ x ∈ l', 0 ≤ x ∧ x ≤ 255) ∧ l'.length ≤ 2000 := by
  unfold spec_l6Open.f
  by_cases h : (l.length : Int) > 2000
  · rw [if_pos h, if_pos (by omega)]
    exact ⟨_, rfl, fun x hx => hl x (List.mem_of_mem_take hx), by rw [List.length_take]; omega⟩
  · rw [if_neg h]
    exact ⟨_, rfl, hl, by omega⟩

theorem time_p (l : List Int) (hl : ∀ x ∈ l, 0 ≤ x ∧ x ≤ 255) (hn : l.length ≤ 2000) (p : Int) (hp : 0 ≤ p) (hp2 : p ≤ 900000000) :
    EvP (fun k => spec_l71Time.f k l p) (fun r => 0 ≤ r.1 ∧ r.1 ≤ 7 ∧ 0 ≤ r.2.1 ∧ r.2.1 ≤ 7 ∧ p ≤ r.2.2 ∧ r.2.2 ≤ p + 3) := by
  unfold spec_l71Time.f
  refine EvP.bind (pick_p l hl hn p 10 hp (by omega) (by omega)) fun a ha => EvP.ite (fun _ => ?_) (fun _ => ?_)
  all_goals
    refine EvP.bind (pick_p l hl hn a.2 _ (by omega) (by omega) (by omega)) fun b hb => EvP.bind (pick_p l hl hn b.2 _ (by omega) (by omega) (by omega)) fun c hc => EvP.ret ?_
    simp only
    omega
theorem odd_p (l : List Int) (hl : ∀ x ∈ l, 0 ≤ x ∧ x ≤ 255) (hn : l.length ≤ 2000) (p : Int) (hp : 0 ≤ p) (hp2 : p ≤ 800000000) :
    EvP (fun k => spec_l71Odd.f k l p) (fun r => -1 ≤ r.1 ∧ r.1 ≤ 8 ∧ -1 ≤ r.2.1 ∧ r.2.1 ≤ 8 ∧ p ≤ r.2.2 ∧ r.2.2 ≤ p + 5) := by
  have two : ∀ i : Int, 0 ≤ i → i < 2 → -1 ≤ rd [-1, 8] i ∧ rd [-1, 8] i ≤ 8 := fun i h0 h1 => by
    have : i = 0 ∨ i = 1 := by omega
    rcases this with rfl | rfl <;> decide
  unfold spec_l71Odd.f
  refine EvP.bind (time_p l hl hn p hp (by omega)) fun a ha => EvP.bind (pick_p l hl hn a.2.2 16 (by omega) (by omega) (by omega)) fun b hb => EvP.ite (fun _ => ?_) (fun _ => EvP.ite (fun _ => ?_) (fun _ => EvP.ret (by simp only; omega)))
  all_goals
    refine EvP.let_ rfl (EvP.bind (pick_p l hl hn b.2 2 (by omega) (by omega) (by omega)) fun c hc => EvP.pos hc.1 (EvP.pos (by simpa using hc.2.1) (EvP.ret ?_)))
    have := two c.1 hc.1 hc.2.1
    simp only
    omega

theorem less_p (l : List Int) (hl : ∀ x ∈ l, 0 ≤ x ∧ x ≤ 255) : EvP (fun k => spec_DrawTimeLess.f k l) (fun r => -1 ≤ r.1 ∧ r.1 ≤ 8 ∧ -1 ≤ r.2.1 ∧ r.2.1 ≤ 8 ∧ -1 ≤ r.2.2.1 ∧ r.2.2.1 ≤ 12 ∧ -1 ≤ r.2.2.2 ∧ r.2.2.2 ≤ 12) := by
  obtain ⟨l', ho, hl', hn⟩ := open_p l hl
  unfold spec_DrawTimeLess.f
  refine EvP.let_ ho (EvP.bind (odd_p l' hl' hn 0 (by omega) (by omega)) fun a ha => EvP.bind (pick_p l' hl' hn a.2.2 3 (by omega) (by omega) (by omega)) fun b hb => EvP.ite (fun _ => ?_) (fun _ => ?_))
  · refine EvP.bind (pick_p l' hl' hn b.2 3 (by omega) (by omega) (by omega)) fun c hc => EvP.bind (pick_p l' hl' hn c.2 3 (by omega) (by omega) (by omega)) fun d hd => EvP.ret ?_
    simp only
    rw [w64 (by omega) (by omega), w64 (by omega) (by omega)]
    omega
  · refine EvP.bind (odd_p l' hl' hn b.2 (by omega) (by omega)) fun c hc => EvP.ret ?_
    simp only
    omega

/-! what the functions on times say -/
def okT (a b : Int) : Bool := decide (0 ≤ a ∧ a ≤ 7 ∧ 0 ≤ b ∧ b ≤ 7)
def leT (a b c d : Int) : Bool := okT a b && okT c d && decide (a ≤ c ∧ b ≤ d)
theorem okT_true {a b : Int} (h : okT a b = true) : 0 ≤ a ∧ a ≤ 7 ∧ 0 ≤ b ∧ b ≤ 7 := of_decide_eq_true h
theorem leT_true {a b c d : Int} (h : leT a b c d = true) : (0 ≤ a ∧ a ≤ 7 ∧ 0 ≤ b ∧ b ≤ 7) ∧ (0 ≤ c ∧ c ≤ 7 ∧ 0 ≤ d ∧ d ≤ 7) ∧ a ≤ c ∧ b ≤ d := by simpa [leT, okT, and_assoc] using h
theorem leT_mk {a b c d : Int} (h : (0 ≤ a ∧ a ≤ 7 ∧ 0 ≤ b ∧ b ≤ 7) ∧ (0 ≤ c ∧ c ≤ 7 ∧ 0 ≤ d ∧ d ≤ 7) ∧ a ≤ c ∧ b ≤ d) : leT a b c d = true := by simpa [leT, okT, and_assoc] using h
theorem s_ok (a b : Int) : spec_TimeOk.f a b = some (okT a b) := by
  unfold spec_TimeOk.f spec_l6In.f okT
  by_cases h0 : 0 ≤ a <;> by_cases h1 : a ≤ 7 <;> by_cases h2 : 0 ≤ b <;> by_cases h3 : b ≤ 7 <;> simp [h0, h1, h2, h3]
theorem i_ok (a b : Int) : impl_TimeOk.f a b = some (okT a b) := by
  unfold impl_TimeOk.f okT
  by_cases h0 : 0 ≤ a <;> by_cases h1 : a ≤ 7 <;> by_cases h2 : 0 ≤ b <;> by_cases h3 : b ≤ 7 <;> simp [h0, h1, h2, h3]


theorem i_less (a b c d : Int) : impl_TimeLess.f a b c d = some (leT a b c d) := by
  unfold impl_TimeLess.f impl_below.f leT
  rw [i_ok, i_ok]
  cases okT a b <;> cases okT c d <;> by_cases h0 : a ≤ c <;> by_cases h1 : b ≤ d <;> simp [h0, h1]

def joT (a b c d : Int) : Int × Int := if okT a b && okT c d then (max a c, max b d) else (0, 0)
theorem s_join (a b c d : Int) : spec_TimeJoin.f a b c d = some (joT a b c d) := by
  unfold spec_TimeJoin.f joT
  rw [s_ok, s_ok, mx_def, mx_def]
  cases okT a b <;> cases okT c d <;> rfl
theorem i_join (a b c d : Int) : impl_TimeJoin.f a b c d = some (joT a b c d) := by
  unfold impl_TimeJoin.f joT
  rw [i_ok, i_ok, mx_def, mx_def]
  cases okT a b <;> cases okT c d <;> rfl

def meT (a b c d : Int) : Int × Int := if okT a b && okT c d then (min a c, min b d) else (0, 0)
theorem s_meet (a b c d : Int) : spec_TimeMeet.f a b c d = some (meT a b c d) := by
  unfold spec_TimeMeet.f meT
  rw [s_ok, s_ok, mn_def, mn_def]
  cases okT a b <;> cases okT c d <;> rfl
theorem i_meet (a b c d : Int) : impl_TimeMeet.f a b c d = some (meT a b c d) := by
  unfold impl_TimeMeet.f meT
  rw [i_ok, i_ok, mn_def, mn_def]
  cases okT a b <;> cases okT c d <;> rfl

theorem FnTimeLaws : laws_FnTimeLaws.Pure := by
  intro l0 _ _ h0
  have b0 : ∀ x ∈ l0, 0 ≤ x ∧ x ≤ 255 := fun x hx => byte_wf (h0 x hx)
  refine EvP.rounds ?_
  unfold laws_FnTimeLaws.f spec_DrawTimeJoin.f
  refine EvP.ite (fun _ => EvP.ret rfl) (fun _ => ?_)
  refine EvP.bind (P := fun _ => True) (EvP.bind (less_p l0 b0) fun a _ => EvP.ret trivial) fun a _ => ?_
  obtain ⟨s0, s1, t0, t1⟩ := a
  refine EvP.let_ (i_join _ _ _ _) (EvP.let_ (i_meet _ _ _ _) (EvP.let_ (s_join _ _ _ _) (EvP.neg (by simp) (EvP.let_ (s_meet _ _ _ _) (EvP.neg (by simp) (EvP.let_ (s_ok _ _) ?_))))))
  simp only
  have out : EvP (fun k => laws_FnTimeLaws.j0 k true s0 s1 t0 t1 (joT s0 s1 t0 t1).1 (joT s0 s1 t0 t1).2 (meT s0 s1 t0 t1).1 (meT s0 s1 t0 t1).2) (· = true) := by
    refine EvP.step (fun k => by rw [laws_FnTimeLaws.j0]) ?_
    exact EvP.pos rfl (EvP.let_ (s_join _ _ _ _) (EvP.pos (by simp) (EvP.let_ (s_meet _ _ _ _) (EvP.ret (by simp)))))
  cases hs : okT s0 s1 with
  | false => exact EvP.neg (by simp) out
  | true =>
    refine EvP.pos rfl (EvP.let_ (s_ok _ _) ?_)
    cases ht : okT t0 t1 with
    | false => exact out
    | true =>
      have hs' := okT_true hs
      have ht' := okT_true ht
      refine EvP.step (fun k => by rw [laws_FnTimeLaws.j0]) (EvP.neg (by simp) ?_)
      have ej : joT s0 s1 t0 t1 = (max s0 t0, max s1 t1) := by simp [joT, hs, ht]
      have em : meT s0 s1 t0 t1 = (min s0 t0, min s1 t1) := by simp [meT, hs, ht]
      have ej2 : joT t0 t1 s0 s1 = (max s0 t0, max s1 t1) := by simp [joT, hs, ht]; omega
      have em2 : meT t0 t1 s0 s1 = (min s0 t0, min s1 t1) := by simp [meT, hs, ht]; omega
      have om : okT (min s0 t0) (min s1 t1) = true := decide_eq_true (by omega)
      have oj : okT (max s0 t0) (max s1 t1) = true := decide_eq_true (by omega)
      have e3 : joT s0 s1 (min s0 t0) (min s1 t1) = (s0, s1) := by simp [joT, hs, om]; omega
      have e4 : meT s0 s1 (max s0 t0) (max s1 t1) = (s0, s1) := by simp [meT, hs, oj]; omega
      have e5 : joT s0 s1 s0 s1 = (s0, s1) := by simp [joT, hs]
      have e6 : leT s0 s1 t0 t1 = (max s0 t0 == t0 && max s1 t1 == t1) := by
        rw [Bool.eq_iff_iff]; simp [leT, hs, ht]; omega
      have e7 : leT s0 s1 t0 t1 = (min s0 t0 == s0 && min s1 t1 == s1) := by
        rw [Bool.eq_iff_iff]; simp [leT, hs, ht]; omega
      rw [ej, em]
      refine EvP.let_ ((i_join _ _ _ _).trans (congrArg some ej2)) (EvP.pos (by simp) ?_)
      refine EvP.let_ ((i_meet _ _ _ _).trans (congrArg some em2)) (EvP.pos (by simp) ?_)
      refine EvP.let_ ((i_join _ _ _ _).trans (congrArg some e3)) (EvP.pos (by simp) ?_)
      refine EvP.let_ ((i_meet _ _ _ _).trans (congrArg some e4)) (EvP.pos (by simp) ?_)
      refine EvP.let_ ((i_join _ _ _ _).trans (congrArg some e5)) (EvP.pos (by simp) ?_)
      refine EvP.let_ (i_less _ _ _ _) (EvP.pos (by rw [e6]; simp) ?_)
      exact EvP.let_ (i_less _ _ _ _) (EvP.ret (by rw [e7]; simp))
end Go.Proofs.Ytjgfjhilmahkbaa.Pure
