/- Functions that the law comes to: each as a plain Lean function, with the contract of the Go function. -/
import Derived.Test.YtpggfdjnebccnaaVFnBatchTimesw
import Derived.Test.YtpggfdjnebccnaaVFnBatchTimesp0
namespace Go.Proofs.Ytpggfdjnebccnaa.PFnBatchTimes
open Go.RowKit Go.Proofs.YtpggfdjnebccnaaW.PrintWords Go.Proofs.YtpggfdjnebccnaaW.PrintLast Go.Proofs.YtpggfdjnebccnaaW.PrintMore
attribute [local go_sem] max2_int min2_int max_two min_two max_three min_three max_four min_four
set_option linter.unusedVariables false
set_option linter.unusedSimpArgs false
attribute [local go_sem high] eqA36
def impl_TimeOk.f (a0_0 : Int) (a0_1 : Int) : Option (Bool) := if a0_0 ≥ 0 then (if a0_0 ≤ 7 then (if a0_1 ≥ 0 then (some (decide (a0_1 ≤ 7))) else (some false)) else (some false)) else (some false)
set_option maxHeartbeats 8000000 in
set_option maxRecDepth 100000 in
theorem impl_TimeOk.calls (a0_0 : Int) (a0_1 : Int) (r : Bool) (w : World) (h : impl_TimeOk.f a0_0 a0_1 = some r) :
  Calls Try.prog 61 #[.agg #[.int .i64 a0_0, .int .i64 a0_1]] w fun e w' => e = .returned (.bool r) ∧ Below w.heap.size w w' := by
 have hu36 := Try.underlying36
 have HB := am (Below.refl w.heap.size w)
 have H : (if a0_0 ≥ 0 then (if a0_0 ≤ 7 then (if a0_1 ≥ 0 then (some (decide (a0_1 ≤ 7))) else (some false)) else (some false)) else (some false)) = some r := h
 clear h
 by_cases c2 : a0_0 ≥ 0
 ·rw [if_pos c2] at H
  have c2b0 : decide (0 ≤ a0_0) = true := decide_eq_true c2
  clear c2
  by_cases c3 : a0_0 ≤ 7
  ·rw [if_pos c3] at H
   have c3b0 : decide (a0_0 ≤ 7) = true := decide_eq_true c3
   clear c3
   by_cases c4 : a0_1 ≥ 0
   ·rw [if_pos c4] at H
    have c4b0 : decide (0 ≤ a0_1) = true := decide_eq_true c4
    clear c4
    obtain rfl := Option.some.inj H
    go_enter Try.func61, Try.ntmps61
    go_wp2_with (first | ((with_reducible refine gate_dst (N := 1) rfl ?_); refine bE_ 1 #[.int .i64 a0_0, .int .i64 a0_1] 36 ?_; intro gb101 hg w5 hbox hb; have BK101 := am (hbox); have GW101 := am ((Q82 : w.heap.size ≤ gb101)); replace HB := am (below_step Q35 hb); have GE101 := GW101; clear hb hbox hg; obtain ⟨hcz6_0, hcz6_1, hfz6_0, hfz6_1⟩ := bx2_ BK101))
    go_ret
    exact ⟨Q9, Q41⟩
   ·rw [if_neg c4] at H
    have c4b0 : decide (0 ≤ a0_1) = false := decide_eq_false c4
    clear c4
    obtain rfl := Option.some.inj H
    go_enter Try.func61, Try.ntmps61
    go_wp2_with (first | ((with_reducible refine gate_dst (N := 1) rfl ?_); refine bE_ 1 #[.int .i64 a0_0, .int .i64 a0_1] 36 ?_; intro gb101 hg w7 hbox hb; have BK101 := am (hbox); have GW101 := am ((Q82 : w.heap.size ≤ gb101)); replace HB := am (below_step Q35 hb); have GE101 := GW101; clear hb hbox hg; obtain ⟨hcz8_0, hcz8_1, hfz8_0, hfz8_1⟩ := bx2_ BK101))
    go_ret
    exact ⟨Q9, Q41⟩
  ·rw [if_neg c3] at H
   have c3b0 : decide (a0_0 ≤ 7) = false := decide_eq_false c3
   clear c3
   obtain rfl := Option.some.inj H
   go_enter Try.func61, Try.ntmps61
   go_wp2_with (first | ((with_reducible refine gate_dst (N := 1) rfl ?_); refine bE_ 1 #[.int .i64 a0_0, .int .i64 a0_1] 36 ?_; intro gb101 hg w9 hbox hb; have BK101 := am (hbox); have GW101 := am ((Q82 : w.heap.size ≤ gb101)); replace HB := am (below_step Q35 hb); have GE101 := GW101; clear hb hbox hg; obtain ⟨hcz10_0, hcz10_1, hfz10_0, hfz10_1⟩ := bx2_ BK101))
   go_ret
   exact ⟨Q9, Q41⟩
 ·rw [if_neg c2] at H
  have c2b0 : decide (0 ≤ a0_0) = false := decide_eq_false c2
  clear c2
  obtain rfl := Option.some.inj H
  go_enter Try.func61, Try.ntmps61
  go_wp2_with (first | ((with_reducible refine gate_dst (N := 1) rfl ?_); refine bE_ 1 #[.int .i64 a0_0, .int .i64 a0_1] 36 ?_; intro gb101 hg w11 hbox hb; have BK101 := am (hbox); have GW101 := am ((Q82 : w.heap.size ≤ gb101)); replace HB := am (below_step Q35 hb); have GE101 := GW101; clear hb hbox hg; obtain ⟨hcz12_0, hcz12_1, hfz12_0, hfz12_1⟩ := bx2_ BK101))
  go_ret
  exact ⟨Q9, Q41⟩
def laws_lwTimes.l0 : Nat → List (S36) → List (S36) → Int → Option (Bool)
 | 0, _, _, _ => none
 | k + 1, x0, x1, x5 => if x5 < (x0.length : Int) then (if 0 ≤ x5 then (if x5 < (x1.length : Int) then (if (!(((rd_T36 x0 x5).f0) == ((rd_T36 x1 x5).f0)) || (!(((rd_T36 x0 x5).f1) == ((rd_T36 x1 x5).f1)))) = true then (some false) else (laws_lwTimes.l0 k x0 x1 (wrap64 (x5 + 1)))) else (none)) else (none)) else (some true)
def laws_lwTimes.f (k : Nat) (l0 : List (S36)) (l1 : List (S36)) : Option (Bool) := if (l0.length : Int) = (l1.length : Int) then (laws_lwTimes.l0 k l0 l1 0) else (some false)
set_option maxHeartbeats 8000000 in
set_option maxRecDepth 100000 in
theorem laws_lwTimes.calls (k : Nat) (A0 : Option Addr) (c0 : Nat) (l0 : List (S36)) (A1 : Option Addr) (c1 : Nat) (l1 : List (S36)) (r : Bool) (w : World) (hr0 : Kd.C k36 w A0 l0.length l0) (hc0 : l0.length ≤ c0) (hr1 : Kd.C k36 w A1 l1.length l1) (hc1 : l1.length ≤ c1) (h : laws_lwTimes.f k l0 l1 = some r) :
  Calls Try.prog 25 #[.slice A0 l0.length c0, .slice A1 l1.length c1] w fun e w' => e = .returned (.bool r) ∧ Drawn0 w w' := by
 have hu36 := Try.underlying36
 have HR0 := Aside0.mk hr0
 have HC0 := Aside0.mk hc0
 clear hr0 hc0
 have HR1 := Aside0.mk hr1
 have HC1 := Aside0.mk hc1
 clear hr1 hc1
 have H : (if (l0.length : Int) = (l1.length : Int) then (laws_lwTimes.l0 k l0 l1 0) else (some false)) = some r := h
 clear h
 by_cases c3 : (l0.length : Int) = (l1.length : Int)
 ·rw [if_pos c3] at H
  have c3b0 : ((l0.length : Int) == (l1.length : Int)) = true := beq_iff_eq.mpr c3
  have c3b1 : ((l0.length : Int) != (l1.length : Int)) = false := bne_eq_false_iff_eq.mpr c3
  have c3b2 : (l0.length == l1.length) = true := by first | simpa using c3 | (simp at c3 ⊢; omega)
  clear c3
  have H' := Aside0.mk H
  clear H
  go_enter Try.func25, Try.ntmps25
  go_wp2
  repeat (go_quiet (fail); try go_wp2)
  go_loopg [5] k (fun kq v5 w' => ∃ (x5_1 : Int), v5 = .int .i64 x5_1 ∧ Aside0 (laws_lwTimes.l0 kq l0 l1 x5_1 = some r) ∧ Aside0 (kq ≤ k) ∧ Drawn0 w w')
  case atStart => exact ⟨(0), Q4, H', ⟨Nat.le_refl _⟩, Q7⟩
  case round =>
   clear H'
   try clear c1
   try clear c2
   try clear p2
   try clear c3
   try clear c3b0
   try clear c3b1
   try clear c3b2
   obtain ⟨x5_1, rfl, HA, HK1, ⟨m1, rfl⟩⟩ := hrel
   cases gk with
   | zero => exact absurd HA.out (by simp [laws_lwTimes.l0])
   | succ k1 =>
    have H := HA.out
    clear HA
    simp only [laws_lwTimes.l0] at H
    by_cases c4 : x5_1 < (l0.length : Int)
    ·rw [if_pos c4] at H
     have c4b0 : decide (x5_1 < (l0.length : Int)) = true := decide_eq_true c4
     clear c4
     have c5 : 0 ≤ x5_1 := nn_ H
     rw [if_pos c5] at H
     have c5b0 : decide (0 ≤ x5_1) = true := decide_eq_true c5
     clear c5
     have c6 : x5_1 < (l1.length : Int) := nn_ H
     rw [if_pos c6] at H
     have c6b0 : decide (x5_1 < (l1.length : Int)) = true := decide_eq_true c6
     clear c6
     by_cases c7 : (!(((rd_T36 l0 x5_1).f0) == ((rd_T36 l1 x5_1).f0)) || (!(((rd_T36 l0 x5_1).f1) == ((rd_T36 l1 x5_1).f1)))) = true
     ·rw [if_pos c7] at H
      have c7b0 : (!(((rd_T36 l0 x5_1).f0) == ((rd_T36 l1 x5_1).f0)) || (!(((rd_T36 l0 x5_1).f1) == ((rd_T36 l1 x5_1).f1)))) = true := c7
      clear c7
      obtain rfl := Option.some.inj H
      have p104 : 0 ≤ (x5_1 : Int) := of_decide_eq_true Q5
      have q104 : x5_1 < (l0.length : Int) := of_decide_eq_true Q5
      obtain ⟨ad104, e104, hx104_0, hx104_1⟩ := at_T36 HR0.out x5_1 p104 q104
      cases e104
      replace p104 := eq_true p104
      replace q104 := eq_true q104
      have p105 : 0 ≤ (x5_1 : Int) := of_decide_eq_true Q5
      have q105 : x5_1 < (l1.length : Int) := of_decide_eq_true Q5
      obtain ⟨ad105, e105, hx105_0, hx105_1⟩ := at_T36 HR1.out x5_1 p105 q105
      cases e105
      replace p105 := eq_true p105
      replace q105 := eq_true q105
      go_wp2
      repeat (go_quiet (fail); try go_wp2)
      go_ret
      exact ⟨Q4, Q7⟩
     ·rw [if_neg c7] at H
      have c7b0 : (!(((rd_T36 l0 x5_1).f0) == ((rd_T36 l1 x5_1).f0)) || (!(((rd_T36 l0 x5_1).f1) == ((rd_T36 l1 x5_1).f1)))) = false := by simpa using c7
      clear c7
      have H' := Aside0.mk H
      clear H
      have p104 : 0 ≤ (x5_1 : Int) := of_decide_eq_true Q5
      have q104 : x5_1 < (l0.length : Int) := of_decide_eq_true Q5
      obtain ⟨ad104, e104, hx104_0, hx104_1⟩ := at_T36 HR0.out x5_1 p104 q104
      cases e104
      replace p104 := eq_true p104
      replace q104 := eq_true q104
      have p105 : 0 ≤ (x5_1 : Int) := of_decide_eq_true Q5
      have q105 : x5_1 < (l1.length : Int) := of_decide_eq_true Q5
      obtain ⟨ad105, e105, hx105_0, hx105_1⟩ := at_T36 HR1.out x5_1 p105 q105
      cases e105
      replace p105 := eq_true p105
      replace q105 := eq_true q105
      go_wp2
      repeat (go_quiet (fail); try go_wp2)
      go_roundg k1
      case measure => have := HK1.out; omega
      case rel => exact ⟨(wrap64 (x5_1 + 1)), Q4, H', ⟨Q2⟩, Q7⟩
    ·rw [if_neg c4] at H
     have c4b0 : decide (x5_1 < (l0.length : Int)) = false := decide_eq_false c4
     clear c4
     obtain rfl := Option.some.inj H
     go_wp2
     repeat (go_quiet (fail); try go_wp2)
     go_ret
     exact ⟨Q4, Q7⟩
 ·rw [if_neg c3] at H
  have c3b0 : ((l0.length : Int) == (l1.length : Int)) = false := beq_eq_false_iff_ne.mpr c3
  have c3b1 : ((l0.length : Int) != (l1.length : Int)) = true := bne_iff_ne.mpr c3
  have c3b2 : (l0.length == l1.length) = false := by first | simpa using c3 | (simp at c3 ⊢; omega)
  obtain rfl := Option.some.inj H
  go_enter Try.func25, Try.ntmps25
  go_wp2
  repeat (go_quiet (fail); try go_wp2)
  go_ret
  exact ⟨Q4, Q7⟩
def impl_FrontOk.l0 : Nat → List (S36) → List (S36) → Int → Int → Option (Bool)
 | 0, _, _, _, _ => none
 | k + 1, x0, x5, x6, x7 => if x7 < x6 then (if 0 ≤ x7 then (if x7 < (x5.length : Int) then ((impl_TimeOk.f ((rd_T36 x5 x7).f0) ((rd_T36 x5 x7).f1)).bind fun t108 => (if t108 = true then (if x7 > 0 then (if 0 ≤ (wrap64 (x7 - 1)) then (if (wrap64 (x7 - 1)) < (x0.length : Int) then (if ((rd_T36 x0 (wrap64 (x7 - 1))).f0) ≥ ((rd_T36 x5 x7).f0) then (some false) else (if ((rd_T36 x0 (wrap64 (x7 - 1))).f1) ≤ ((rd_T36 x5 x7).f1) then (some false) else (impl_FrontOk.l0 k x0 x5 x6 (wrap64 (x7 + 1))))) else (none)) else (none)) else (impl_FrontOk.l0 k x0 x5 x6 (wrap64 (x7 + 1)))) else (some false))) else (none)) else (none)) else (some true)
def impl_FrontOk.f (k : Nat) (l0 : List (S36)) : Option (Bool) := impl_FrontOk.l0 k l0 l0 (l0.length : Int) 0
def impl_FrontOk.T4 : Bool × List (List Nat × List Nat) := (true, [([], []), ([0], [0]), ([1], [1]), ([2, 1], [2]), ([3], [3]), ([4, 3], [3, 4]), ([5, 3, 3], [3, 5]), ([6], [6]), ([6], [6]), ([8, 6], [6, 8]), ([7, 9, 6], [6, 7, 9]), ([10, 6], [6, 10]), ([11, 6], [6, 11]), ([6], [6]), ([13, 6], [6, 13]), ([12, 14, 6], [6, 12, 14]), ([15, 6, 6], [6, 15]), ([16], [16]), ([16], [16]), ([18, 16], [16, 18]), ([17, 19, 16], [16, 17, 19]), ([20, 16], [16, 20]), ([21, 16], [16, 21]), ([16], [16]), ([23, 16], [16, 23]), ([22, 24, 16], [16, 22, 24]), ([16, 25, 6], [6, 16, 25]), ([6, 26, 3], [3, 6, 26]), ([3, 27], [3, 27])])
def impl_FrontOk.B4 : List Nat := [0, 1, 3, 7, 15, 31, 63, 127, 127, 383, 1023, 2047, 4095, 127, 8319, 32767, 65535, 131071, 131071, 393215, 1048575, 2097151, 4194303, 131071, 8519679, 33554431, 67108863, 134217727, 268435455]
theorem impl_FrontOk.tab4 : rtab .any (opsOf Try.f23 4) = impl_FrontOk.T4 := by kernel_rfl
theorem impl_FrontOk.bits4 : waitsOk impl_FrontOk.T4.2 impl_FrontOk.B4 = true := by kernel_rfl
set_option maxHeartbeats 8000000 in
set_option maxRecDepth 100000 in
theorem impl_FrontOk.calls (k : Nat) (A0 : Option Addr) (c0 : Nat) (l0 : List (S36)) (r : Bool) (w : World) (hr0 : Kd.C k36 w A0 l0.length l0) (hc0 : l0.length ≤ c0) (h : impl_FrontOk.f k l0 = some r) :
  Calls Try.prog 23 #[.slice A0 l0.length c0] w fun e w' => e = .returned (.bool r) ∧ Below w.heap.size w w' := by
 have hu36 := Try.underlying36
 have HR0 := Aside0.mk hr0
 have HC0 := Aside0.mk hc0
 clear hr0 hc0
 have HB := am (Below.refl w.heap.size w)
 have H : (impl_FrontOk.l0 k l0 l0 (l0.length : Int) 0) = some r := h
 clear h
 have H' := Aside0.mk H
 clear H
 go_enter Try.func23, Try.ntmps23
 go_wp2
 go_loopg [7] k (fun kq v7 w' => ∃ (x7_1 : Int), v7 = .int .i64 x7_1 ∧ Aside0 (impl_FrontOk.l0 kq l0 l0 (l0.length : Int) x7_1 = some r) ∧ Aside0 (kq ≤ k) ∧ Aside0 (Below w.heap.size w w'))
 case atStart => exact ⟨(0), Q4, H', ⟨Nat.le_refl _⟩, ⟨Q35⟩⟩
 case round =>
  clear H'
  obtain ⟨x7_1, rfl, HA, HK1, HB⟩ := hrel
  cases gk with
  | zero => exact absurd HA.out (by simp [impl_FrontOk.l0])
  | succ k1 =>
   have H := HA.out
   clear HA
   simp only [impl_FrontOk.l0] at H
   by_cases c2 : x7_1 < (l0.length : Int)
   ·rw [if_pos c2] at H
    have c2b0 : decide (x7_1 < (l0.length : Int)) = true := decide_eq_true c2
    clear c2
    have c3 : 0 ≤ x7_1 := nn_ H
    rw [if_pos c3] at H
    have c3b0 : decide (0 ≤ x7_1) = true := decide_eq_true c3
    clear c3
    have c4 : x7_1 < (l0.length : Int) := nn_ H
    rw [if_pos c4] at H
    have c4b0 : decide (x7_1 < (l0.length : Int)) = true := decide_eq_true c4
    clear c4
    replace H := Option.bind_eq_some_iff.mp H
    obtain ⟨t108, A50, H⟩ := H
    replace H : (if t108 = true then (if x7_1 > 0 then (if 0 ≤ (wrap64 (x7_1 - 1)) then (if (wrap64 (x7_1 - 1)) < (l0.length : Int) then (if ((rd_T36 l0 (wrap64 (x7_1 - 1))).f0) ≥ ((rd_T36 l0 x7_1).f0) then (some false) else (if ((rd_T36 l0 (wrap64 (x7_1 - 1))).f1) ≤ ((rd_T36 l0 x7_1).f1) then (some false) else (impl_FrontOk.l0 k1 l0 l0 (l0.length : Int) (wrap64 (x7_1 + 1))))) else (none)) else (none)) else (impl_FrontOk.l0 k1 l0 l0 (l0.length : Int) (wrap64 (x7_1 + 1)))) else (some false)) = some r := H
    have A5 := Aside0.mk A50
    clear A50
    by_cases c6 : t108 = true
    ·subst c6
     have H1 : (if x7_1 > 0 then (if 0 ≤ (wrap64 (x7_1 - 1)) then (if (wrap64 (x7_1 - 1)) < (l0.length : Int) then (if ((rd_T36 l0 (wrap64 (x7_1 - 1))).f0) ≥ ((rd_T36 l0 x7_1).f0) then (some false) else (if ((rd_T36 l0 (wrap64 (x7_1 - 1))).f1) ≤ ((rd_T36 l0 x7_1).f1) then (some false) else (impl_FrontOk.l0 k1 l0 l0 (l0.length : Int) (wrap64 (x7_1 + 1))))) else (none)) else (none)) else (impl_FrontOk.l0 k1 l0 l0 (l0.length : Int) (wrap64 (x7_1 + 1)))) = some r := by rw [if_pos rfl] at H; exact H
     clear H
     have H := H1
     clear H1
     by_cases c7 : x7_1 > 0
     ·rw [if_pos c7] at H
      have c7b0 : decide (0 < x7_1) = true := decide_eq_true c7
      clear c7
      obtain ⟨ji8, hji8⟩ : ∃ j_ : Int, (wrap64 (x7_1 - 1)) = j_ := ⟨_, rfl⟩
      replace H : (if 0 ≤ (ji8) then (if (ji8) < (l0.length : Int) then (if ((rd_T36 l0 (ji8)).f0) ≥ ((rd_T36 l0 x7_1).f0) then (some false) else (if ((rd_T36 l0 (ji8)).f1) ≤ ((rd_T36 l0 x7_1).f1) then (some false) else (impl_FrontOk.l0 k1 l0 l0 (l0.length : Int) (wrap64 (x7_1 + 1))))) else (none)) else (none)) = some r := by first | (rw [hji8] at H; exact H) | (simp only [hji8] at H ⊢; exact H)
      (try rw [hji8] at A5)
      have hji8w : (IntKind.i64.wrap (x7_1 - 1)) = ji8 := (i64_w _).trans hji8
      have c9 : 0 ≤ (ji8) := nn_ H
      rw [if_pos c9] at H
      have c9b0 : decide (0 ≤ (ji8)) = true := decide_eq_true c9
      clear c9
      have c10 : (ji8) < (l0.length : Int) := nn_ H
      rw [if_pos c10] at H
      have c10b0 : decide ((ji8) < (l0.length : Int)) = true := decide_eq_true c10
      clear c10
      by_cases c11 : ((rd_T36 l0 (ji8)).f0) ≥ ((rd_T36 l0 x7_1).f0)
      ·rw [if_pos c11] at H
       have c11b0 : decide (((rd_T36 l0 x7_1).f0) ≤ ((rd_T36 l0 (ji8)).f0)) = true := decide_eq_true c11
       clear c11
       obtain rfl := Option.some.inj H
       have p106 : 0 ≤ (x7_1 : Int) := of_decide_eq_true Q5
       have q106 : x7_1 < (l0.length : Int) := of_decide_eq_true Q5
       obtain ⟨ad106, e106, hx106_0, hx106_1⟩ := at_T36 HR0.out x7_1 p106 q106
       cases e106
       replace hx106_0 := (HB.out.cell (World.block_lt_of_cell? w _ hx106_0)).trans hx106_0
       replace hx106_1 := (HB.out.cell (World.block_lt_of_cell? w _ hx106_1)).trans hx106_1
       replace p106 := eq_true p106
       replace q106 := eq_true q106
       try go_wp2_with (first | ((with_reducible refine gate_dst (N := 4) rfl ?_); refine bE_ 4 #[.int .i64 0, .int .i64 0] 36 ?_; intro gb107 hg w12 hbox hb; have BK107 := am (hbox); have GW107 := am ((Q82 : w.heap.size ≤ gb107)); replace HB := am (below_step Q35 hb); have GE107 := GW107; clear hb hbox hg; obtain ⟨hcz13_0, hcz13_1, hfz13_0, hfz13_1⟩ := bx2_ BK107))
       have n0_ : Aside0 (((w12.setCell ⟨gb107, 0, none⟩ (.int .i64 ((rd_T36 l0 x7_1).f0))).setCell ⟨gb107, 1, none⟩ (.int .i64 ((rd_T36 l0 x7_1).f1))).heap[gb107]? = some (.cells #[.int .i64 ((rd_T36 l0 x7_1).f0), .int .i64 ((rd_T36 l0 x7_1).f1)] 36 (0, 0))) := ⟨Q79⟩
       have n1_ : Aside0 (Below w.heap.size w ((w12.setCell ⟨gb107, 0, none⟩ (.int .i64 ((rd_T36 l0 x7_1).f0))).setCell ⟨gb107, 1, none⟩ (.int .i64 ((rd_T36 l0 x7_1).f1)))) := ⟨Q42⟩
       (try clear BK107)
       (try clear HB)
       generalize ((w12.setCell ⟨gb107, 0, none⟩ (.int .i64 ((rd_T36 l0 x7_1).f0))).setCell ⟨gb107, 1, none⟩ (.int .i64 ((rd_T36 l0 x7_1).f1))) = w14 at n0_ n1_ ⊢
       have BK107 := n0_
       have HB := n1_
       clear n0_ n1_
       replace BK107 := am (blk_drew BK107.out)
       replace HB := am (below_drew1 HB.out)
       have p109 : 0 ≤ ((ji8) : Int) := of_decide_eq_true Q5
       have q109 : (ji8) < (l0.length : Int) := of_decide_eq_true Q5
       obtain ⟨ad109, e109, hx109_0, hx109_1⟩ := at_T36 HR0.out (ji8) p109 q109
       have hw109_1 := hx109_1
       have hw109_0 := hx109_0
       obtain rfl : ad106 = ad109 := (by injection e109)
       replace hx109_0 := (HB.out.cell (World.block_lt_of_cell? w _ hx109_0)).trans hx109_0
       replace hx109_1 := (HB.out.cell (World.block_lt_of_cell? w _ hx109_1)).trans hx109_1
       replace p109 := eq_true p109
       replace q109 := eq_true q109
       refine start_ (n := 29) (S := fun w' => w'.cell? ⟨gb107, 0, none⟩ = some (.int .i64 ((rd_T36 l0 x7_1).f0)) ∧ w'.cell? ⟨gb107, 1, none⟩ = some (.int .i64 ((rd_T36 l0 x7_1).f1)) ∧ w'.cell? (ad106.add (((ji8)).toNat * 2)) = some (.int .i64 ((rd_T36 l0 (ji8)).f0)) ∧ w'.cell? ⟨(ad106.add (((ji8)).toNat * 2)).block, (ad106.add (((ji8)).toNat * 2)).off + 1, none⟩ = some (.int .i64 ((rd_T36 l0 (ji8)).f1))) (ds := []) b29_0 Q1 rfl rfl ⟨(blk_cell BK107.out 0).trans rfl, (blk_cell BK107.out 1).trans rfl, ((HB.out.cell (World.block_lt_of_cell? w _ hw109_0)).trans hw109_0), ((HB.out.cell (World.block_lt_of_cell? w _ hw109_1)).trans hw109_1)⟩ (fun hHeld => ?_); refine with_tabW impl_FrontOk.tab4 impl_FrontOk.bits4 (fun HT_ HW_ => ?_)
       generalize w14.drew = w15 at BK107 HB hx109_0 hx109_1 hHeld ⊢
       refine tU_ 0 12 b29_1 hHeld ?_
       refine one_ (i := 1) (N := some 13) b29_2 rfl rfl (one_of HT_.out Q1) Q0 (fun K hK => ?_)
       refine goes_ Try.func61 Q1 rfl #[.agg #[.int .i64 ((rd_T36 l0 x7_1).f0), .int .i64 ((rd_T36 l0 x7_1).f1)]] (by rfl) rfl rfl Q37 ?_
       with_reducible refine (impl_TimeOk.calls ((rd_T36 l0 x7_1).f0) ((rd_T36 l0 x7_1).f1) true _ A5.out).mono ?_
       rintro e w16 ⟨rfl, hb⟩
       refine ⟨_, rfl, ?_⟩
       replace BK107 := am (blk_below (g := gb107) (o := .cells #[.int .i64 ((rd_T36 l0 x7_1).f0), .int .i64 ((rd_T36 l0 x7_1).f1)] 36 (0, 0)) Q23 hb)
       replace HB := am (below_step Q42 hb)
       (try clear hb)
       (try clear hb2)
       (try clear hk)
       (try clear hi)
       refine hK.out _ _ ⟨(blk_cell BK107.out 0).trans rfl, (blk_cell BK107.out 1).trans rfl, ((HB.out.cell (World.block_lt_of_cell? w _ hw109_0)).trans hw109_0), ((HB.out.cell (World.block_lt_of_cell? w _ hw109_1)).trans hw109_1)⟩ (fun hHeld => ?_)
       clear hK K
       refine norm_ (a' := ?_) ?_ ?_
       rotate_left
       ·show Act.put _ (some 13) _ = _
        simp only [Act.put, List.setIfInBounds_toArray, List.set_cons_zero, List.set_cons_succ, i64_w, i32_w]
        rfl
       refine pU_ 2 14 b29_3 ?_
       refine pU_ 3 15 b29_4 ?_
       refine pU_ 4 16 b29_5 ?_
       refine pU_ 5 17 b29_6 ?_
       refine pU_ 6 18 b29_7 ?_
       refine pU_ 7 19 b29_8 ?_
       refine pU_ 8 20 b29_9 ?_
       refine pU_ 9 21 b29_10 ?_
       refine pU_ 10 22 b29_11 ?_
       refine pU_ 11 23 b29_12 ?_
       refine pU_ 13 25 c13 ?_
       refine tU_ 12 24 b29_14 hHeld ?_
       refine tU_ 14 26 b29_15 hHeld ?_
       refine pU_ 15 27 b29_16 ?_
       refine pU_ 16 28 b29_17 ?_
       refine pV_ 17 29 b29_18 ?_
       refine pV_ 18 30 b29_19 ?_
       refine pV_ 19 31 b29_20 ?_
       refine pV_ 20 32 b29_21 ?_
       refine pV_ 21 33 b29_22 ?_
       refine pV_ 22 34 b29_23 ?_
       refine pV_ 23 35 b29_24 ?_
       refine pV_ 24 36 b29_25 ?_
       refine pV_ 25 37 b29_26 ?_
       refine pU_ 26 38 b29_27 ?_
       refine pU_ 27 39 b29_28 ?_
       refine pU_ 28 40 b29_29 ?_
       refine done_ (done_of HT_.out Q1) ?_
       try go_wp2
       go_ret
       exact ⟨by first | rfl | (simp [errW_none, errW_some] <;> rfl) | (simp only [← hji8]; first | rfl | (simp [errW_none, errW_some] <;> rfl)) | (simp [*, errW_none, errW_some] <;> rfl), Q42⟩
      ·rw [if_neg c11] at H
       have c11b0 : decide (((rd_T36 l0 x7_1).f0) ≤ ((rd_T36 l0 (ji8)).f0)) = false := decide_eq_false c11
       clear c11
       by_cases c17 : ((rd_T36 l0 (ji8)).f1) ≤ ((rd_T36 l0 x7_1).f1)
       ·rw [if_pos c17] at H
        have c17b0 : decide (((rd_T36 l0 (ji8)).f1) ≤ ((rd_T36 l0 x7_1).f1)) = true := decide_eq_true c17
        clear c17
        obtain rfl := Option.some.inj H
        have p106 : 0 ≤ (x7_1 : Int) := of_decide_eq_true Q5
        have q106 : x7_1 < (l0.length : Int) := of_decide_eq_true Q5
        obtain ⟨ad106, e106, hx106_0, hx106_1⟩ := at_T36 HR0.out x7_1 p106 q106
        cases e106
        replace hx106_0 := (HB.out.cell (World.block_lt_of_cell? w _ hx106_0)).trans hx106_0
        replace hx106_1 := (HB.out.cell (World.block_lt_of_cell? w _ hx106_1)).trans hx106_1
        replace p106 := eq_true p106
        replace q106 := eq_true q106
        try go_wp2_with (first | ((with_reducible refine gate_dst (N := 4) rfl ?_); refine bE_ 4 #[.int .i64 0, .int .i64 0] 36 ?_; intro gb107 hg w18 hbox hb; have BK107 := am (hbox); have GW107 := am ((Q82 : w.heap.size ≤ gb107)); replace HB := am (below_step Q35 hb); have GE107 := GW107; clear hb hbox hg; obtain ⟨hcz19_0, hcz19_1, hfz19_0, hfz19_1⟩ := bx2_ BK107))
        have n0_ : Aside0 (((w18.setCell ⟨gb107, 0, none⟩ (.int .i64 ((rd_T36 l0 x7_1).f0))).setCell ⟨gb107, 1, none⟩ (.int .i64 ((rd_T36 l0 x7_1).f1))).heap[gb107]? = some (.cells #[.int .i64 ((rd_T36 l0 x7_1).f0), .int .i64 ((rd_T36 l0 x7_1).f1)] 36 (0, 0))) := ⟨Q79⟩
        have n1_ : Aside0 (Below w.heap.size w ((w18.setCell ⟨gb107, 0, none⟩ (.int .i64 ((rd_T36 l0 x7_1).f0))).setCell ⟨gb107, 1, none⟩ (.int .i64 ((rd_T36 l0 x7_1).f1)))) := ⟨Q42⟩
        (try clear BK107)
        (try clear HB)
        generalize ((w18.setCell ⟨gb107, 0, none⟩ (.int .i64 ((rd_T36 l0 x7_1).f0))).setCell ⟨gb107, 1, none⟩ (.int .i64 ((rd_T36 l0 x7_1).f1))) = w20 at n0_ n1_ ⊢
        have BK107 := n0_
        have HB := n1_
        clear n0_ n1_
        replace BK107 := am (blk_drew BK107.out)
        replace HB := am (below_drew1 HB.out)
        have p109 : 0 ≤ ((ji8) : Int) := of_decide_eq_true Q5
        have q109 : (ji8) < (l0.length : Int) := of_decide_eq_true Q5
        obtain ⟨ad109, e109, hx109_0, hx109_1⟩ := at_T36 HR0.out (ji8) p109 q109
        have hw109_1 := hx109_1
        have hw109_0 := hx109_0
        obtain rfl : ad106 = ad109 := (by injection e109)
        replace hx109_0 := (HB.out.cell (World.block_lt_of_cell? w _ hx109_0)).trans hx109_0
        replace hx109_1 := (HB.out.cell (World.block_lt_of_cell? w _ hx109_1)).trans hx109_1
        replace p109 := eq_true p109
        replace q109 := eq_true q109
        have p110 : 0 ≤ ((ji8) : Int) := of_decide_eq_true Q5
        have q110 : (ji8) < (l0.length : Int) := of_decide_eq_true Q5
        obtain ⟨ad110, e110, hx110_0, hx110_1⟩ := at_T36 HR0.out (ji8) p110 q110
        have hw110_1 := hx110_1
        have hw110_0 := hx110_0
        obtain rfl : ad106 = ad110 := (by injection e110)
        replace hx110_0 := (HB.out.cell (World.block_lt_of_cell? w _ hx110_0)).trans hx110_0
        replace hx110_1 := (HB.out.cell (World.block_lt_of_cell? w _ hx110_1)).trans hx110_1
        replace p110 := eq_true p110
        replace q110 := eq_true q110
        refine start_ (n := 29) (S := fun w' => w'.cell? ⟨gb107, 0, none⟩ = some (.int .i64 ((rd_T36 l0 x7_1).f0)) ∧ w'.cell? ⟨gb107, 1, none⟩ = some (.int .i64 ((rd_T36 l0 x7_1).f1)) ∧ w'.cell? (ad106.add (((ji8)).toNat * 2)) = some (.int .i64 ((rd_T36 l0 (ji8)).f0)) ∧ w'.cell? ⟨(ad106.add (((ji8)).toNat * 2)).block, (ad106.add (((ji8)).toNat * 2)).off + 1, none⟩ = some (.int .i64 ((rd_T36 l0 (ji8)).f1)) ∧ w'.cell? (ad106.add (((ji8)).toNat * 2)) = some (.int .i64 ((rd_T36 l0 (ji8)).f0)) ∧ w'.cell? ⟨(ad106.add (((ji8)).toNat * 2)).block, (ad106.add (((ji8)).toNat * 2)).off + 1, none⟩ = some (.int .i64 ((rd_T36 l0 (ji8)).f1))) (ds := []) b29_0 Q1 rfl rfl ⟨(blk_cell BK107.out 0).trans rfl, (blk_cell BK107.out 1).trans rfl, ((HB.out.cell (World.block_lt_of_cell? w _ hw109_0)).trans hw109_0), ((HB.out.cell (World.block_lt_of_cell? w _ hw109_1)).trans hw109_1), ((HB.out.cell (World.block_lt_of_cell? w _ hw110_0)).trans hw110_0), ((HB.out.cell (World.block_lt_of_cell? w _ hw110_1)).trans hw110_1)⟩ (fun hHeld => ?_); refine with_tabW impl_FrontOk.tab4 impl_FrontOk.bits4 (fun HT_ HW_ => ?_)
        generalize w20.drew = w21 at BK107 HB hx109_0 hx109_1 hx110_0 hx110_1 hHeld ⊢
        refine tU_ 0 12 b29_1 hHeld ?_
        refine one_ (i := 1) (N := some 13) b29_2 rfl rfl (one_of HT_.out Q1) Q0 (fun K hK => ?_)
        refine goes_ Try.func61 Q1 rfl #[.agg #[.int .i64 ((rd_T36 l0 x7_1).f0), .int .i64 ((rd_T36 l0 x7_1).f1)]] (by rfl) rfl rfl Q37 ?_
        with_reducible refine (impl_TimeOk.calls ((rd_T36 l0 x7_1).f0) ((rd_T36 l0 x7_1).f1) true _ A5.out).mono ?_
        rintro e w22 ⟨rfl, hb⟩
        refine ⟨_, rfl, ?_⟩
        replace BK107 := am (blk_below (g := gb107) (o := .cells #[.int .i64 ((rd_T36 l0 x7_1).f0), .int .i64 ((rd_T36 l0 x7_1).f1)] 36 (0, 0)) Q23 hb)
        replace HB := am (below_step Q42 hb)
        (try clear hb)
        (try clear hb2)
        (try clear hk)
        (try clear hi)
        refine hK.out _ _ ⟨(blk_cell BK107.out 0).trans rfl, (blk_cell BK107.out 1).trans rfl, ((HB.out.cell (World.block_lt_of_cell? w _ hw109_0)).trans hw109_0), ((HB.out.cell (World.block_lt_of_cell? w _ hw109_1)).trans hw109_1), ((HB.out.cell (World.block_lt_of_cell? w _ hw110_0)).trans hw110_0), ((HB.out.cell (World.block_lt_of_cell? w _ hw110_1)).trans hw110_1)⟩ (fun hHeld => ?_)
        clear hK K
        refine norm_ (a' := ?_) ?_ ?_
        rotate_left
        ·show Act.put _ (some 13) _ = _
         simp only [Act.put, List.setIfInBounds_toArray, List.set_cons_zero, List.set_cons_succ, i64_w, i32_w]
         rfl
        refine pU_ 2 14 b29_3 ?_
        refine pU_ 3 15 b29_4 ?_
        refine pU_ 4 16 b29_5 ?_
        refine pU_ 5 17 b29_6 ?_
        refine pU_ 6 18 b29_7 ?_
        refine pU_ 7 19 b29_8 ?_
        refine pU_ 8 20 b29_9 ?_
        refine pU_ 9 21 b29_10 ?_
        refine pU_ 10 22 b29_11 ?_
        refine pU_ 11 23 b29_12 ?_
        refine pU_ 13 25 c13 ?_
        refine tU_ 12 24 b29_14 hHeld ?_
        refine tU_ 14 26 b29_15 hHeld ?_
        refine pU_ 15 27 b29_16 ?_
        refine pU_ 16 28 b29_17 ?_
        refine pU_ 17 29 b29_18 ?_
        refine pU_ 18 30 b29_19 ?_
        refine pU_ 19 31 b29_20 ?_
        refine pU_ 20 32 b29_21 ?_
        refine pU_ 21 33 b29_22 ?_
        refine pU_ 23 35 c30 ?_
        refine tU_ 22 34 b29_24 hHeld ?_
        refine tU_ 24 36 b29_25 hHeld ?_
        refine pU_ 25 37 b29_26 ?_
        refine pU_ 26 38 b29_27 ?_
        refine pU_ 27 39 b29_28 ?_
        refine pU_ 28 40 b29_29 ?_
        refine done_ (done_of HT_.out Q1) ?_
        try go_wp2
        go_ret
        exact ⟨by first | rfl | (simp [errW_none, errW_some] <;> rfl) | (simp only [← hji8]; first | rfl | (simp [errW_none, errW_some] <;> rfl)) | (simp [*, errW_none, errW_some] <;> rfl), Q42⟩
       ·rw [if_neg c17] at H
        have c17b0 : decide (((rd_T36 l0 (ji8)).f1) ≤ ((rd_T36 l0 x7_1).f1)) = false := decide_eq_false c17
        clear c17
        have H' := Aside0.mk H
        clear H
        have p106 : 0 ≤ (x7_1 : Int) := of_decide_eq_true Q5
        have q106 : x7_1 < (l0.length : Int) := of_decide_eq_true Q5
        obtain ⟨ad106, e106, hx106_0, hx106_1⟩ := at_T36 HR0.out x7_1 p106 q106
        cases e106
        replace hx106_0 := (HB.out.cell (World.block_lt_of_cell? w _ hx106_0)).trans hx106_0
        replace hx106_1 := (HB.out.cell (World.block_lt_of_cell? w _ hx106_1)).trans hx106_1
        replace p106 := eq_true p106
        replace q106 := eq_true q106
        try go_wp2_with (first | ((with_reducible refine gate_dst (N := 4) rfl ?_); refine bE_ 4 #[.int .i64 0, .int .i64 0] 36 ?_; intro gb107 hg w23 hbox hb; have BK107 := am (hbox); have GW107 := am ((Q82 : w.heap.size ≤ gb107)); replace HB := am (below_step Q35 hb); have GE107 := GW107; clear hb hbox hg; obtain ⟨hcz24_0, hcz24_1, hfz24_0, hfz24_1⟩ := bx2_ BK107))
        have n0_ : Aside0 (((w23.setCell ⟨gb107, 0, none⟩ (.int .i64 ((rd_T36 l0 x7_1).f0))).setCell ⟨gb107, 1, none⟩ (.int .i64 ((rd_T36 l0 x7_1).f1))).heap[gb107]? = some (.cells #[.int .i64 ((rd_T36 l0 x7_1).f0), .int .i64 ((rd_T36 l0 x7_1).f1)] 36 (0, 0))) := ⟨Q79⟩
        have n1_ : Aside0 (Below w.heap.size w ((w23.setCell ⟨gb107, 0, none⟩ (.int .i64 ((rd_T36 l0 x7_1).f0))).setCell ⟨gb107, 1, none⟩ (.int .i64 ((rd_T36 l0 x7_1).f1)))) := ⟨Q42⟩
        (try clear BK107)
        (try clear HB)
        generalize ((w23.setCell ⟨gb107, 0, none⟩ (.int .i64 ((rd_T36 l0 x7_1).f0))).setCell ⟨gb107, 1, none⟩ (.int .i64 ((rd_T36 l0 x7_1).f1))) = w25 at n0_ n1_ ⊢
        have BK107 := n0_
        have HB := n1_
        clear n0_ n1_
        replace BK107 := am (blk_drew BK107.out)
        replace HB := am (below_drew1 HB.out)
        have p109 : 0 ≤ ((ji8) : Int) := of_decide_eq_true Q5
        have q109 : (ji8) < (l0.length : Int) := of_decide_eq_true Q5
        obtain ⟨ad109, e109, hx109_0, hx109_1⟩ := at_T36 HR0.out (ji8) p109 q109
        have hw109_1 := hx109_1
        have hw109_0 := hx109_0
        obtain rfl : ad106 = ad109 := (by injection e109)
        replace hx109_0 := (HB.out.cell (World.block_lt_of_cell? w _ hx109_0)).trans hx109_0
        replace hx109_1 := (HB.out.cell (World.block_lt_of_cell? w _ hx109_1)).trans hx109_1
        replace p109 := eq_true p109
        replace q109 := eq_true q109
        have p110 : 0 ≤ ((ji8) : Int) := of_decide_eq_true Q5
        have q110 : (ji8) < (l0.length : Int) := of_decide_eq_true Q5
        obtain ⟨ad110, e110, hx110_0, hx110_1⟩ := at_T36 HR0.out (ji8) p110 q110
        have hw110_1 := hx110_1
        have hw110_0 := hx110_0
        obtain rfl : ad106 = ad110 := (by injection e110)
        replace hx110_0 := (HB.out.cell (World.block_lt_of_cell? w _ hx110_0)).trans hx110_0
        replace hx110_1 := (HB.out.cell (World.block_lt_of_cell? w _ hx110_1)).trans hx110_1
        replace p110 := eq_true p110
        replace q110 := eq_true q110
        refine start_ (n := 29) (S := fun w' => w'.cell? ⟨gb107, 0, none⟩ = some (.int .i64 ((rd_T36 l0 x7_1).f0)) ∧ w'.cell? ⟨gb107, 1, none⟩ = some (.int .i64 ((rd_T36 l0 x7_1).f1)) ∧ w'.cell? (ad106.add (((ji8)).toNat * 2)) = some (.int .i64 ((rd_T36 l0 (ji8)).f0)) ∧ w'.cell? ⟨(ad106.add (((ji8)).toNat * 2)).block, (ad106.add (((ji8)).toNat * 2)).off + 1, none⟩ = some (.int .i64 ((rd_T36 l0 (ji8)).f1)) ∧ w'.cell? (ad106.add (((ji8)).toNat * 2)) = some (.int .i64 ((rd_T36 l0 (ji8)).f0)) ∧ w'.cell? ⟨(ad106.add (((ji8)).toNat * 2)).block, (ad106.add (((ji8)).toNat * 2)).off + 1, none⟩ = some (.int .i64 ((rd_T36 l0 (ji8)).f1))) (ds := []) b29_0 Q1 rfl rfl ⟨(blk_cell BK107.out 0).trans rfl, (blk_cell BK107.out 1).trans rfl, ((HB.out.cell (World.block_lt_of_cell? w _ hw109_0)).trans hw109_0), ((HB.out.cell (World.block_lt_of_cell? w _ hw109_1)).trans hw109_1), ((HB.out.cell (World.block_lt_of_cell? w _ hw110_0)).trans hw110_0), ((HB.out.cell (World.block_lt_of_cell? w _ hw110_1)).trans hw110_1)⟩ (fun hHeld => ?_); refine with_tabW impl_FrontOk.tab4 impl_FrontOk.bits4 (fun HT_ HW_ => ?_)
        generalize w25.drew = w26 at BK107 HB hx109_0 hx109_1 hx110_0 hx110_1 hHeld ⊢
        refine tU_ 0 12 b29_1 hHeld ?_
        refine one_ (i := 1) (N := some 13) b29_2 rfl rfl (one_of HT_.out Q1) Q0 (fun K hK => ?_)
        refine goes_ Try.func61 Q1 rfl #[.agg #[.int .i64 ((rd_T36 l0 x7_1).f0), .int .i64 ((rd_T36 l0 x7_1).f1)]] (by rfl) rfl rfl Q37 ?_
        with_reducible refine (impl_TimeOk.calls ((rd_T36 l0 x7_1).f0) ((rd_T36 l0 x7_1).f1) true _ A5.out).mono ?_
        rintro e w27 ⟨rfl, hb⟩
        refine ⟨_, rfl, ?_⟩
        replace BK107 := am (blk_below (g := gb107) (o := .cells #[.int .i64 ((rd_T36 l0 x7_1).f0), .int .i64 ((rd_T36 l0 x7_1).f1)] 36 (0, 0)) Q23 hb)
        replace HB := am (below_step Q42 hb)
        (try clear hb)
        (try clear hb2)
        (try clear hk)
        (try clear hi)
        refine hK.out _ _ ⟨(blk_cell BK107.out 0).trans rfl, (blk_cell BK107.out 1).trans rfl, ((HB.out.cell (World.block_lt_of_cell? w _ hw109_0)).trans hw109_0), ((HB.out.cell (World.block_lt_of_cell? w _ hw109_1)).trans hw109_1), ((HB.out.cell (World.block_lt_of_cell? w _ hw110_0)).trans hw110_0), ((HB.out.cell (World.block_lt_of_cell? w _ hw110_1)).trans hw110_1)⟩ (fun hHeld => ?_)
        clear hK K
        refine norm_ (a' := ?_) ?_ ?_
        rotate_left
        ·show Act.put _ (some 13) _ = _
         simp only [Act.put, List.setIfInBounds_toArray, List.set_cons_zero, List.set_cons_succ, i64_w, i32_w]
         rfl
        refine pU_ 2 14 b29_3 ?_
        refine pU_ 3 15 b29_4 ?_
        refine pU_ 4 16 b29_5 ?_
        refine pU_ 5 17 b29_6 ?_
        refine pU_ 6 18 b29_7 ?_
        refine pU_ 7 19 b29_8 ?_
        refine pU_ 8 20 b29_9 ?_
        refine pU_ 9 21 b29_10 ?_
        refine pU_ 10 22 b29_11 ?_
        refine pU_ 11 23 b29_12 ?_
        refine pU_ 13 25 c13 ?_
        refine tU_ 12 24 b29_14 hHeld ?_
        refine tU_ 14 26 b29_15 hHeld ?_
        refine pU_ 15 27 b29_16 ?_
        refine pU_ 16 28 b29_17 ?_
        refine pU_ 17 29 b29_18 ?_
        refine pU_ 18 30 b29_19 ?_
        refine pU_ 19 31 b29_20 ?_
        refine pU_ 20 32 b29_21 ?_
        refine pU_ 21 33 b29_22 ?_
        refine pU_ 23 35 c30 ?_
        refine tU_ 22 34 b29_24 hHeld ?_
        refine tU_ 24 36 b29_25 hHeld ?_
        refine pU_ 25 37 b29_26 ?_
        refine pU_ 26 38 b29_27 ?_
        refine pU_ 27 39 b29_28 ?_
        refine pU_ 28 40 b29_29 ?_
        refine done_ (done_of HT_.out Q1) ?_
        try go_wp2
        go_roundg k1
        case measure => have := HK1.out; omega
        case rel => exact ⟨(wrap64 (x7_1 + 1)), Q4, H', ⟨Q2⟩, ⟨Q42⟩⟩
     ·rw [if_neg c7] at H
      have c7b0 : decide (0 < x7_1) = false := decide_eq_false c7
      clear c7
      have H' := Aside0.mk H
      clear H
      have p106 : 0 ≤ (x7_1 : Int) := of_decide_eq_true Q5
      have q106 : x7_1 < (l0.length : Int) := of_decide_eq_true Q5
      obtain ⟨ad106, e106, hx106_0, hx106_1⟩ := at_T36 HR0.out x7_1 p106 q106
      cases e106
      replace hx106_0 := (HB.out.cell (World.block_lt_of_cell? w _ hx106_0)).trans hx106_0
      replace hx106_1 := (HB.out.cell (World.block_lt_of_cell? w _ hx106_1)).trans hx106_1
      replace p106 := eq_true p106
      replace q106 := eq_true q106
      try go_wp2_with (first | ((with_reducible refine gate_dst (N := 4) rfl ?_); refine bE_ 4 #[.int .i64 0, .int .i64 0] 36 ?_; intro gb107 hg w28 hbox hb; have BK107 := am (hbox); have GW107 := am ((Q82 : w.heap.size ≤ gb107)); replace HB := am (below_step Q35 hb); have GE107 := GW107; clear hb hbox hg; obtain ⟨hcz29_0, hcz29_1, hfz29_0, hfz29_1⟩ := bx2_ BK107))
      have n0_ : Aside0 (((w28.setCell ⟨gb107, 0, none⟩ (.int .i64 ((rd_T36 l0 x7_1).f0))).setCell ⟨gb107, 1, none⟩ (.int .i64 ((rd_T36 l0 x7_1).f1))).heap[gb107]? = some (.cells #[.int .i64 ((rd_T36 l0 x7_1).f0), .int .i64 ((rd_T36 l0 x7_1).f1)] 36 (0, 0))) := ⟨Q79⟩
      have n1_ : Aside0 (Below w.heap.size w ((w28.setCell ⟨gb107, 0, none⟩ (.int .i64 ((rd_T36 l0 x7_1).f0))).setCell ⟨gb107, 1, none⟩ (.int .i64 ((rd_T36 l0 x7_1).f1)))) := ⟨Q42⟩
      (try clear BK107)
      (try clear HB)
      generalize ((w28.setCell ⟨gb107, 0, none⟩ (.int .i64 ((rd_T36 l0 x7_1).f0))).setCell ⟨gb107, 1, none⟩ (.int .i64 ((rd_T36 l0 x7_1).f1))) = w30 at n0_ n1_ ⊢
      have BK107 := n0_
      have HB := n1_
      clear n0_ n1_
      replace BK107 := am (blk_drew BK107.out)
      replace HB := am (below_drew1 HB.out)
      refine start_ (n := 29) (S := fun w' => w'.cell? ⟨gb107, 0, none⟩ = some (.int .i64 ((rd_T36 l0 x7_1).f0)) ∧ w'.cell? ⟨gb107, 1, none⟩ = some (.int .i64 ((rd_T36 l0 x7_1).f1))) (ds := []) b29_0 Q1 rfl rfl ⟨(blk_cell BK107.out 0).trans rfl, (blk_cell BK107.out 1).trans rfl⟩ (fun hHeld => ?_); refine with_tabW impl_FrontOk.tab4 impl_FrontOk.bits4 (fun HT_ HW_ => ?_)
      generalize w30.drew = w31 at BK107 HB hHeld ⊢
      refine tU_ 0 12 b29_1 hHeld ?_
      refine one_ (i := 1) (N := some 13) b29_2 rfl rfl (one_of HT_.out Q1) Q0 (fun K hK => ?_)
      refine goes_ Try.func61 Q1 rfl #[.agg #[.int .i64 ((rd_T36 l0 x7_1).f0), .int .i64 ((rd_T36 l0 x7_1).f1)]] (by rfl) rfl rfl Q37 ?_
      with_reducible refine (impl_TimeOk.calls ((rd_T36 l0 x7_1).f0) ((rd_T36 l0 x7_1).f1) true _ A5.out).mono ?_
      rintro e w32 ⟨rfl, hb⟩
      refine ⟨_, rfl, ?_⟩
      replace BK107 := am (blk_below (g := gb107) (o := .cells #[.int .i64 ((rd_T36 l0 x7_1).f0), .int .i64 ((rd_T36 l0 x7_1).f1)] 36 (0, 0)) Q23 hb)
      replace HB := am (below_step Q42 hb)
      (try clear hb)
      (try clear hb2)
      (try clear hk)
      (try clear hi)
      refine hK.out _ _ ⟨(blk_cell BK107.out 0).trans rfl, (blk_cell BK107.out 1).trans rfl⟩ (fun hHeld => ?_)
      clear hK K
      refine norm_ (a' := ?_) ?_ ?_
      rotate_left
      ·show Act.put _ (some 13) _ = _
       simp only [Act.put, List.setIfInBounds_toArray, List.set_cons_zero, List.set_cons_succ, i64_w, i32_w]
       rfl
      refine pU_ 2 14 b29_3 ?_
      refine pU_ 3 15 b29_4 ?_
      refine pU_ 4 16 b29_5 ?_
      refine pU_ 5 17 b29_6 ?_
      refine pU_ 6 18 b29_7 ?_
      refine pV_ 7 19 b29_8 ?_
      refine pV_ 8 20 b29_9 ?_
      refine pV_ 9 21 b29_10 ?_
      refine pV_ 10 22 b29_11 ?_
      refine pV_ 11 23 b29_12 ?_
      refine pV_ 12 24 b29_13 ?_
      refine pV_ 13 25 b29_14 ?_
      refine pV_ 14 26 b29_15 ?_
      refine pV_ 15 27 b29_16 ?_
      refine pV_ 16 28 b29_17 ?_
      refine pV_ 17 29 b29_18 ?_
      refine pV_ 18 30 b29_19 ?_
      refine pV_ 19 31 b29_20 ?_
      refine pV_ 20 32 b29_21 ?_
      refine pV_ 21 33 b29_22 ?_
      refine pV_ 22 34 b29_23 ?_
      refine pV_ 23 35 b29_24 ?_
      refine pV_ 24 36 b29_25 ?_
      refine pV_ 25 37 b29_26 ?_
      refine pV_ 26 38 b29_27 ?_
      refine pU_ 27 39 b29_28 ?_
      refine pU_ 28 40 b29_29 ?_
      refine done_ (done_of HT_.out Q1) ?_
      try go_wp2
      go_roundg k1
      case measure => have := HK1.out; omega
      case rel => exact ⟨(wrap64 (x7_1 + 1)), Q4, H', ⟨Q2⟩, ⟨Q42⟩⟩
    ·replace c6 := Bool.eq_false_iff.mpr c6
     subst c6
     have H1 : (some false) = some r := by rw [if_neg (show ¬ (false = true) by decide)] at H; exact H
     clear H
     have H := H1
     clear H1
     obtain rfl := Option.some.inj H
     have p106 : 0 ≤ (x7_1 : Int) := of_decide_eq_true Q5
     have q106 : x7_1 < (l0.length : Int) := of_decide_eq_true Q5
     obtain ⟨ad106, e106, hx106_0, hx106_1⟩ := at_T36 HR0.out x7_1 p106 q106
     cases e106
     replace hx106_0 := (HB.out.cell (World.block_lt_of_cell? w _ hx106_0)).trans hx106_0
     replace hx106_1 := (HB.out.cell (World.block_lt_of_cell? w _ hx106_1)).trans hx106_1
     replace p106 := eq_true p106
     replace q106 := eq_true q106
     try go_wp2_with (first | ((with_reducible refine gate_dst (N := 4) rfl ?_); refine bE_ 4 #[.int .i64 0, .int .i64 0] 36 ?_; intro gb107 hg w33 hbox hb; have BK107 := am (hbox); have GW107 := am ((Q82 : w.heap.size ≤ gb107)); replace HB := am (below_step Q35 hb); have GE107 := GW107; clear hb hbox hg; obtain ⟨hcz34_0, hcz34_1, hfz34_0, hfz34_1⟩ := bx2_ BK107))
     have n0_ : Aside0 (((w33.setCell ⟨gb107, 0, none⟩ (.int .i64 ((rd_T36 l0 x7_1).f0))).setCell ⟨gb107, 1, none⟩ (.int .i64 ((rd_T36 l0 x7_1).f1))).heap[gb107]? = some (.cells #[.int .i64 ((rd_T36 l0 x7_1).f0), .int .i64 ((rd_T36 l0 x7_1).f1)] 36 (0, 0))) := ⟨Q79⟩
     have n1_ : Aside0 (Below w.heap.size w ((w33.setCell ⟨gb107, 0, none⟩ (.int .i64 ((rd_T36 l0 x7_1).f0))).setCell ⟨gb107, 1, none⟩ (.int .i64 ((rd_T36 l0 x7_1).f1)))) := ⟨Q42⟩
     (try clear BK107)
     (try clear HB)
     generalize ((w33.setCell ⟨gb107, 0, none⟩ (.int .i64 ((rd_T36 l0 x7_1).f0))).setCell ⟨gb107, 1, none⟩ (.int .i64 ((rd_T36 l0 x7_1).f1))) = w35 at n0_ n1_ ⊢
     have BK107 := n0_
     have HB := n1_
     clear n0_ n1_
     replace BK107 := am (blk_drew BK107.out)
     replace HB := am (below_drew1 HB.out)
     refine start_ (n := 29) (S := fun w' => w'.cell? ⟨gb107, 0, none⟩ = some (.int .i64 ((rd_T36 l0 x7_1).f0)) ∧ w'.cell? ⟨gb107, 1, none⟩ = some (.int .i64 ((rd_T36 l0 x7_1).f1))) (ds := []) b29_0 Q1 rfl rfl ⟨(blk_cell BK107.out 0).trans rfl, (blk_cell BK107.out 1).trans rfl⟩ (fun hHeld => ?_); refine with_tabW impl_FrontOk.tab4 impl_FrontOk.bits4 (fun HT_ HW_ => ?_)
     generalize w35.drew = w36 at BK107 HB hHeld ⊢
     refine tU_ 0 12 b29_1 hHeld ?_
     refine one_ (i := 1) (N := some 13) b29_2 rfl rfl (one_of HT_.out Q1) Q0 (fun K hK => ?_)
     refine goes_ Try.func61 Q1 rfl #[.agg #[.int .i64 ((rd_T36 l0 x7_1).f0), .int .i64 ((rd_T36 l0 x7_1).f1)]] (by rfl) rfl rfl Q37 ?_
     with_reducible refine (impl_TimeOk.calls ((rd_T36 l0 x7_1).f0) ((rd_T36 l0 x7_1).f1) false _ A5.out).mono ?_
     rintro e w37 ⟨rfl, hb⟩
     refine ⟨_, rfl, ?_⟩
     replace BK107 := am (blk_below (g := gb107) (o := .cells #[.int .i64 ((rd_T36 l0 x7_1).f0), .int .i64 ((rd_T36 l0 x7_1).f1)] 36 (0, 0)) Q23 hb)
     replace HB := am (below_step Q42 hb)
     (try clear hb)
     (try clear hb2)
     (try clear hk)
     (try clear hi)
     refine hK.out _ _ ⟨(blk_cell BK107.out 0).trans rfl, (blk_cell BK107.out 1).trans rfl⟩ (fun hHeld => ?_)
     clear hK K
     refine norm_ (a' := ?_) ?_ ?_
     rotate_left
     ·show Act.put _ (some 13) _ = _
      simp only [Act.put, List.setIfInBounds_toArray, List.set_cons_zero, List.set_cons_succ, i64_w, i32_w]
      rfl
     refine pU_ 2 14 b29_3 ?_
     refine pU_ 3 15 b29_4 ?_
     refine pV_ 4 16 b29_5 ?_
     refine pV_ 5 17 b29_6 ?_
     refine pV_ 6 18 b29_7 ?_
     refine pV_ 7 19 b29_8 ?_
     refine pV_ 8 20 b29_9 ?_
     refine pV_ 9 21 b29_10 ?_
     refine pV_ 10 22 b29_11 ?_
     refine pV_ 11 23 b29_12 ?_
     refine pV_ 12 24 b29_13 ?_
     refine pV_ 13 25 b29_14 ?_
     refine pV_ 14 26 b29_15 ?_
     refine pV_ 15 27 b29_16 ?_
     refine pV_ 16 28 b29_17 ?_
     refine pV_ 17 29 b29_18 ?_
     refine pV_ 18 30 b29_19 ?_
     refine pV_ 19 31 b29_20 ?_
     refine pV_ 20 32 b29_21 ?_
     refine pV_ 21 33 b29_22 ?_
     refine pV_ 22 34 b29_23 ?_
     refine pV_ 23 35 b29_24 ?_
     refine pV_ 24 36 b29_25 ?_
     refine pV_ 25 37 b29_26 ?_
     refine pV_ 26 38 b29_27 ?_
     refine pV_ 27 39 b29_28 ?_
     refine pU_ 28 40 b29_29 ?_
     refine done_ (done_of HT_.out Q1) ?_
     try go_wp2
     go_ret
     exact ⟨Q9, Q42⟩
   ·rw [if_neg c2] at H
    have c2b0 : decide (x7_1 < (l0.length : Int)) = false := decide_eq_false c2
    clear c2
    obtain rfl := Option.some.inj H
    go_wp2
    go_ret
    exact ⟨Q9, Q35⟩
def impl_below.f (a0_0 : Int) (a0_1 : Int) (a1_0 : Int) (a1_1 : Int) : Option (Bool) := if a0_0 ≤ a1_0 then (some (decide (a0_1 ≤ a1_1))) else (some false)
set_option maxHeartbeats 8000000 in
set_option maxRecDepth 100000 in
theorem impl_below.calls (a0_0 : Int) (a0_1 : Int) (a1_0 : Int) (a1_1 : Int) (r : Bool) (w : World) (h : impl_below.f a0_0 a0_1 a1_0 a1_1 = some r) :
  Calls Try.prog 73 #[.agg #[.int .i64 a0_0, .int .i64 a0_1], .agg #[.int .i64 a1_0, .int .i64 a1_1]] w fun e w' => e = .returned (.bool r) ∧ Below w.heap.size w w' := by
 have hu36 := Try.underlying36
 have HB := am (Below.refl w.heap.size w)
 have H : (if a0_0 ≤ a1_0 then (some (decide (a0_1 ≤ a1_1))) else (some false)) = some r := h
 clear h
 by_cases c3 : a0_0 ≤ a1_0
 ·rw [if_pos c3] at H
  have c3b0 : decide (a0_0 ≤ a1_0) = true := decide_eq_true c3
  clear c3
  obtain rfl := Option.some.inj H
  go_enter Try.func73, Try.ntmps73
  go_wp2_with (first | ((with_reducible refine gate_dst (N := 2) rfl ?_); refine bE_ 2 #[.int .i64 a0_0, .int .i64 a0_1] 36 ?_; intro gb111 hg w4 hbox hb; have BK111 := am (hbox); have GW111 := am ((Q82 : w.heap.size ≤ gb111)); replace HB := am (below_step Q35 hb); have GE111 := GW111; clear hb hbox hg) | ((with_reducible refine gate_dst (N := 3) rfl ?_); refine bE_ 3 #[.int .i64 a1_0, .int .i64 a1_1] 36 ?_; intro gb112 hg w5 hbox hb; have BK112 := am (hbox); have GW112 := am ((by rw [hg]; exact (below_size Q43) : w.heap.size ≤ gb112)); replace HB := am (below_step Q43 hb); have NB111_112 := am ((by rw [hg]; exact Nat.ne_of_lt (blk_lt (g := gb111) (o := .cells #[.int .i64 a0_0, .int .i64 a0_1] 36 (0, 0)) Q24) : gb111 ≠ gb112)); have NB112_111 := am ((by rw [hg]; exact Nat.ne_of_gt (blk_lt (g := gb111) (o := .cells #[.int .i64 a0_0, .int .i64 a0_1] 36 (0, 0)) Q24) : gb112 ≠ gb111)); replace BK111 := am (blk_below (g := gb111) (o := .cells #[.int .i64 a0_0, .int .i64 a0_1] 36 (0, 0)) Q24 hb); have GE112 := GW112; clear hb hbox hg; have hnb6 := NB111_112.out; have hnc6 := NB112_111.out; obtain ⟨hcz7_0, hcz7_1, hfz7_0, hfz7_1⟩ := bx2_ BK111; obtain ⟨hcz8_0, hcz8_1, hfz8_0, hfz8_1⟩ := bx2_ BK112))
  go_ret
  exact ⟨Q9, by repeat (first | (with_reducible first | exact HB.out | apply below_alloc | apply pw_below_drewN | apply below_drew1 | refine below_set ?_ GE111.out | refine below_set ?_ GE112.out) | exact HB.out)⟩
 ·rw [if_neg c3] at H
  have c3b0 : decide (a0_0 ≤ a1_0) = false := decide_eq_false c3
  clear c3
  obtain rfl := Option.some.inj H
  go_enter Try.func73, Try.ntmps73
  go_wp2_with (first | ((with_reducible refine gate_dst (N := 2) rfl ?_); refine bE_ 2 #[.int .i64 a0_0, .int .i64 a0_1] 36 ?_; intro gb111 hg w9 hbox hb; have BK111 := am (hbox); have GW111 := am ((Q82 : w.heap.size ≤ gb111)); replace HB := am (below_step Q35 hb); have GE111 := GW111; clear hb hbox hg) | ((with_reducible refine gate_dst (N := 3) rfl ?_); refine bE_ 3 #[.int .i64 a1_0, .int .i64 a1_1] 36 ?_; intro gb112 hg w10 hbox hb; have BK112 := am (hbox); have GW112 := am ((by rw [hg]; exact (below_size Q43) : w.heap.size ≤ gb112)); replace HB := am (below_step Q43 hb); have NB111_112 := am ((by rw [hg]; exact Nat.ne_of_lt (blk_lt (g := gb111) (o := .cells #[.int .i64 a0_0, .int .i64 a0_1] 36 (0, 0)) Q24) : gb111 ≠ gb112)); have NB112_111 := am ((by rw [hg]; exact Nat.ne_of_gt (blk_lt (g := gb111) (o := .cells #[.int .i64 a0_0, .int .i64 a0_1] 36 (0, 0)) Q24) : gb112 ≠ gb111)); replace BK111 := am (blk_below (g := gb111) (o := .cells #[.int .i64 a0_0, .int .i64 a0_1] 36 (0, 0)) Q24 hb); have GE112 := GW112; clear hb hbox hg; have hnb11 := NB111_112.out; have hnc11 := NB112_111.out; obtain ⟨hcz12_0, hcz12_1, hfz12_0, hfz12_1⟩ := bx2_ BK111; obtain ⟨hcz13_0, hcz13_1, hfz13_0, hfz13_1⟩ := bx2_ BK112))
  go_ret
  exact ⟨Q9, by repeat (first | (with_reducible first | exact HB.out | apply below_alloc | apply pw_below_drewN | apply below_drew1 | refine below_set ?_ GE111.out | refine below_set ?_ GE112.out) | exact HB.out)⟩
def impl_beyond.l0 : Nat → List (S36) → Int → Int → Int → Int → Option (Bool)
 | 0, _, _, _, _, _ => none
 | k + 1, x7, x8, x9, x114000, x114001 => if x9 < x8 then (if 0 ≤ x9 then (if x9 < (x7.length : Int) then ((impl_below.f ((rd_T36 x7 x9).f0) ((rd_T36 x7 x9).f1) x114000 x114001).bind fun t116 => (if t116 = true then (some true) else (impl_beyond.l0 k x7 x8 (wrap64 (x9 + 1)) x114000 x114001))) else (none)) else (none)) else (some false)
def impl_beyond.f (k : Nat) (l0 : List (S36)) (a1_0 : Int) (a1_1 : Int) : Option (Bool) := impl_beyond.l0 k l0 (l0.length : Int) 0 a1_0 a1_1
set_option maxHeartbeats 8000000 in
set_option maxRecDepth 100000 in
theorem impl_beyond.calls (k : Nat) (A0 : Option Addr) (c0 : Nat) (l0 : List (S36)) (a1_0 : Int) (a1_1 : Int) (r : Bool) (w : World) (hr0 : Kd.C k36 w A0 l0.length l0) (hc0 : l0.length ≤ c0) (h : impl_beyond.f k l0 a1_0 a1_1 = some r) :
  Calls Try.prog 72 #[.slice A0 l0.length c0, .agg #[.int .i64 a1_0, .int .i64 a1_1]] w fun e w' => e = .returned (.bool r) ∧ Below w.heap.size w w' := by
 have hu36 := Try.underlying36
 have HR0 := Aside0.mk hr0
 have HC0 := Aside0.mk hc0
 clear hr0 hc0
 have HB := am (Below.refl w.heap.size w)
 have H : (impl_beyond.l0 k l0 (l0.length : Int) 0 a1_0 a1_1) = some r := h
 clear h
 have H' := Aside0.mk H
 clear H
 go_enter Try.func72, Try.ntmps72
 go_wp2_with (first | ((with_reducible refine gate_dst (N := 3) rfl ?_); refine bE_ 3 #[.int .i64 a1_0, .int .i64 a1_1] 36 ?_; intro gb113 hg w3 hbox hb; have BK113 := am (hbox); have GW113 := am ((Q82 : w.heap.size ≤ gb113)); replace HB := am (below_step Q35 hb); have GE113 := GW113; clear hb hbox hg))
 go_loopg [9] k (fun kq v9 w' => ∃ (x9_1 : Int), v9 = .int .i64 x9_1 ∧ Aside0 (impl_beyond.l0 kq l0 (l0.length : Int) x9_1 a1_0 a1_1 = some r) ∧ Aside0 (kq ≤ k) ∧ Aside0 (w'.heap[gb113]? = some (.cells #[.int .i64 a1_0, .int .i64 a1_1] 36 (0, 0))) ∧ Aside0 (Below w.heap.size w w'))
 case atStart => exact ⟨(0), Q4, H', ⟨Nat.le_refl _⟩, ⟨Q25⟩, ⟨Q44⟩⟩
 case round =>
  clear H'
  try clear p2
  obtain ⟨x9_1, rfl, HA, HK1, BK113, HB⟩ := hrel
  cases gk with
  | zero => exact absurd HA.out (by simp [impl_beyond.l0])
  | succ k1 =>
   have H := HA.out
   clear HA
   simp only [impl_beyond.l0] at H
   by_cases c4 : x9_1 < (l0.length : Int)
   ·rw [if_pos c4] at H
    have c4b0 : decide (x9_1 < (l0.length : Int)) = true := decide_eq_true c4
    clear c4
    have c5 : 0 ≤ x9_1 := nn_ H
    rw [if_pos c5] at H
    have c5b0 : decide (0 ≤ x9_1) = true := decide_eq_true c5
    clear c5
    have c6 : x9_1 < (l0.length : Int) := nn_ H
    rw [if_pos c6] at H
    have c6b0 : decide (x9_1 < (l0.length : Int)) = true := decide_eq_true c6
    clear c6
    replace H := Option.bind_eq_some_iff.mp H
    obtain ⟨t116, A70, H⟩ := H
    replace H : (if t116 = true then (some true) else (impl_beyond.l0 k1 l0 (l0.length : Int) (wrap64 (x9_1 + 1)) a1_0 a1_1)) = some r := H
    have A7 := Aside0.mk A70
    clear A70
    by_cases c8 : t116 = true
    ·subst c8
     have H1 : (some true) = some r := by rw [if_pos rfl] at H; exact H
     clear H
     have H := H1
     clear H1
     obtain rfl := Option.some.inj H
     have p114 : 0 ≤ (x9_1 : Int) := of_decide_eq_true Q5
     have q114 : x9_1 < (l0.length : Int) := of_decide_eq_true Q5
     obtain ⟨ad114, e114, hx114_0, hx114_1⟩ := at_T36 HR0.out x9_1 p114 q114
     cases e114
     replace hx114_0 := (HB.out.cell (World.block_lt_of_cell? w _ hx114_0)).trans hx114_0
     replace hx114_1 := (HB.out.cell (World.block_lt_of_cell? w _ hx114_1)).trans hx114_1
     replace p114 := eq_true p114
     replace q114 := eq_true q114
     go_wp2_with (first | ((with_reducible refine gate_dst (N := 6) rfl ?_); refine bE_ 6 #[.int .i64 0, .int .i64 0] 36 ?_; intro gb115 hg w9 hbox hb; have BK115 := am (hbox); have GW115 := am ((by rw [hg]; exact (below_size Q44) : w.heap.size ≤ gb115)); replace HB := am (below_step Q44 hb); have NB113_115 := am ((by rw [hg]; exact Nat.ne_of_lt (blk_lt (g := gb113) (o := .cells #[.int .i64 a1_0, .int .i64 a1_1] 36 (0, 0)) Q25) : gb113 ≠ gb115)); have NB115_113 := am ((by rw [hg]; exact Nat.ne_of_gt (blk_lt (g := gb113) (o := .cells #[.int .i64 a1_0, .int .i64 a1_1] 36 (0, 0)) Q25) : gb115 ≠ gb113)); replace BK113 := am (blk_below (g := gb113) (o := .cells #[.int .i64 a1_0, .int .i64 a1_1] 36 (0, 0)) Q25 hb); have GE115 := GW115; clear hb hbox hg; have hnb10 := NB115_113.out; have hnc10 := NB113_115.out; obtain ⟨hcz11_0, hcz11_1, hfz11_0, hfz11_1⟩ := bx2_ BK115; obtain ⟨hcz12_0, hcz12_1, hfz12_0, hfz12_1⟩ := bx2_ BK113) | ((with_reducible refine gate_callee (f := 73) rfl ?_); refine goesL_ (some 15) rfl rfl Try.func73 Q1 rfl #[.agg #[.int .i64 ((rd_T36 l0 x9_1).f0), .int .i64 ((rd_T36 l0 x9_1).f1)], .agg #[.int .i64 a1_0, .int .i64 a1_1]] rfl Q37 ?_; (with_reducible refine (impl_below.calls ((rd_T36 l0 x9_1).f0) ((rd_T36 l0 x9_1).f1) a1_0 a1_1 true _ A7.out).mono ?_); rintro e w13 ⟨rfl, hb⟩; refine ⟨_, rfl, ?_⟩; replace BK113 := am (blk_below (g := gb113) (o := .cells #[.int .i64 a1_0, .int .i64 a1_1] 36 (0, 0)) (by (with_reducible repeat (first | refine blk_drewN ?_ _ | refine blk_drew ?_ | refine blk_alloc ?_ _)); refine blk_far ?_ NB113_115.out _; (with_reducible repeat (first | refine blk_drewN ?_ _ | refine blk_drew ?_ | refine blk_alloc ?_ _)); refine blk_far ?_ NB113_115.out _; (with_reducible repeat (first | refine blk_drewN ?_ _ | refine blk_drew ?_ | refine blk_alloc ?_ _)); exact BK113.out) hb); replace BK115 := am (blk_below (g := gb115) (o := .cells #[.int .i64 ((rd_T36 l0 x9_1).f0), .int .i64 ((rd_T36 l0 x9_1).f1)] 36 (0, 0)) (by (with_reducible repeat (first | refine blk_drewN ?_ _ | refine blk_drew ?_ | refine blk_alloc ?_ _)); refine blk_put (cs := #[.int .i64 ((rd_T36 l0 x9_1).f0), .int .i64 0]) ?_ 1 _ rfl; (with_reducible repeat (first | refine blk_drewN ?_ _ | refine blk_drew ?_ | refine blk_alloc ?_ _)); refine blk_put (cs := #[.int .i64 0, .int .i64 0]) ?_ 0 _ rfl; (with_reducible repeat (first | refine blk_drewN ?_ _ | refine blk_drew ?_ | refine blk_alloc ?_ _)); exact BK115.out) hb); replace HB := am (below_step Q65 hb); (try clear hb)))
     go_ret
     exact ⟨Q9, Q65⟩
    ·replace c8 := Bool.eq_false_iff.mpr c8
     subst c8
     have H1 : (impl_beyond.l0 k1 l0 (l0.length : Int) (wrap64 (x9_1 + 1)) a1_0 a1_1) = some r := by rw [if_neg (show ¬ (false = true) by decide)] at H; exact H
     clear H
     have H := H1
     clear H1
     have H' := Aside0.mk H
     clear H
     have p114 : 0 ≤ (x9_1 : Int) := of_decide_eq_true Q5
     have q114 : x9_1 < (l0.length : Int) := of_decide_eq_true Q5
     obtain ⟨ad114, e114, hx114_0, hx114_1⟩ := at_T36 HR0.out x9_1 p114 q114
     cases e114
     replace hx114_0 := (HB.out.cell (World.block_lt_of_cell? w _ hx114_0)).trans hx114_0
     replace hx114_1 := (HB.out.cell (World.block_lt_of_cell? w _ hx114_1)).trans hx114_1
     replace p114 := eq_true p114
     replace q114 := eq_true q114
     go_wp2_with (first | ((with_reducible refine gate_dst (N := 6) rfl ?_); refine bE_ 6 #[.int .i64 0, .int .i64 0] 36 ?_; intro gb115 hg w14 hbox hb; have BK115 := am (hbox); have GW115 := am ((by rw [hg]; exact (below_size Q44) : w.heap.size ≤ gb115)); replace HB := am (below_step Q44 hb); have NB113_115 := am ((by rw [hg]; exact Nat.ne_of_lt (blk_lt (g := gb113) (o := .cells #[.int .i64 a1_0, .int .i64 a1_1] 36 (0, 0)) Q25) : gb113 ≠ gb115)); have NB115_113 := am ((by rw [hg]; exact Nat.ne_of_gt (blk_lt (g := gb113) (o := .cells #[.int .i64 a1_0, .int .i64 a1_1] 36 (0, 0)) Q25) : gb115 ≠ gb113)); replace BK113 := am (blk_below (g := gb113) (o := .cells #[.int .i64 a1_0, .int .i64 a1_1] 36 (0, 0)) Q25 hb); have GE115 := GW115; clear hb hbox hg; have hnb15 := NB115_113.out; have hnc15 := NB113_115.out; obtain ⟨hcz16_0, hcz16_1, hfz16_0, hfz16_1⟩ := bx2_ BK115; obtain ⟨hcz17_0, hcz17_1, hfz17_0, hfz17_1⟩ := bx2_ BK113) | ((with_reducible refine gate_callee (f := 73) rfl ?_); refine goesL_ (some 15) rfl rfl Try.func73 Q1 rfl #[.agg #[.int .i64 ((rd_T36 l0 x9_1).f0), .int .i64 ((rd_T36 l0 x9_1).f1)], .agg #[.int .i64 a1_0, .int .i64 a1_1]] rfl Q37 ?_; (with_reducible refine (impl_below.calls ((rd_T36 l0 x9_1).f0) ((rd_T36 l0 x9_1).f1) a1_0 a1_1 false _ A7.out).mono ?_); rintro e w18 ⟨rfl, hb⟩; refine ⟨_, rfl, ?_⟩; replace BK113 := am (blk_below (g := gb113) (o := .cells #[.int .i64 a1_0, .int .i64 a1_1] 36 (0, 0)) (by (with_reducible repeat (first | refine blk_drewN ?_ _ | refine blk_drew ?_ | refine blk_alloc ?_ _)); refine blk_far ?_ NB113_115.out _; (with_reducible repeat (first | refine blk_drewN ?_ _ | refine blk_drew ?_ | refine blk_alloc ?_ _)); refine blk_far ?_ NB113_115.out _; (with_reducible repeat (first | refine blk_drewN ?_ _ | refine blk_drew ?_ | refine blk_alloc ?_ _)); exact BK113.out) hb); replace BK115 := am (blk_below (g := gb115) (o := .cells #[.int .i64 ((rd_T36 l0 x9_1).f0), .int .i64 ((rd_T36 l0 x9_1).f1)] 36 (0, 0)) (by (with_reducible repeat (first | refine blk_drewN ?_ _ | refine blk_drew ?_ | refine blk_alloc ?_ _)); refine blk_put (cs := #[.int .i64 ((rd_T36 l0 x9_1).f0), .int .i64 0]) ?_ 1 _ rfl; (with_reducible repeat (first | refine blk_drewN ?_ _ | refine blk_drew ?_ | refine blk_alloc ?_ _)); refine blk_put (cs := #[.int .i64 0, .int .i64 0]) ?_ 0 _ rfl; (with_reducible repeat (first | refine blk_drewN ?_ _ | refine blk_drew ?_ | refine blk_alloc ?_ _)); exact BK115.out) hb); replace HB := am (below_step Q65 hb); (try clear hb)))
     go_roundg k1
     case measure => have := HK1.out; omega
     case rel => exact ⟨(wrap64 (x9_1 + 1)), Q4, H', ⟨Q2⟩, ⟨Q25⟩, ⟨Q65⟩⟩
   ·rw [if_neg c4] at H
    have c4b0 : decide (x9_1 < (l0.length : Int)) = false := decide_eq_false c4
    clear c4
    obtain rfl := Option.some.inj H
    go_wp2
    go_ret
    exact ⟨Q9, Q44⟩
def impl_FrontCovers.f (k : Nat) (l0 : List (S36)) (a1_0 : Int) (a1_1 : Int) : Option (Bool) := (impl_FrontOk.f k l0).bind fun t118 => (if t118 = true then ((impl_TimeOk.f a1_0 a1_1).bind fun t119 => (if t119 = true then ((impl_beyond.f k l0 a1_0 a1_1).bind fun t120 => (some t120)) else (some false))) else (some false))
set_option maxHeartbeats 8000000 in
set_option maxRecDepth 100000 in
theorem impl_FrontCovers.calls (k : Nat) (A0 : Option Addr) (c0 : Nat) (l0 : List (S36)) (a1_0 : Int) (a1_1 : Int) (r : Bool) (w : World) (hr0 : Kd.C k36 w A0 l0.length l0) (hc0 : l0.length ≤ c0) (h : impl_FrontCovers.f k l0 a1_0 a1_1 = some r) :
  Calls Try.prog 27 #[.slice A0 l0.length c0, .agg #[.int .i64 a1_0, .int .i64 a1_1]] w fun e w' => e = .returned (.bool r) ∧ Below w.heap.size w w' := by
 have hu36 := Try.underlying36
 have HR0 := Aside0.mk hr0
 have HC0 := Aside0.mk hc0
 clear hr0 hc0
 have HB := am (Below.refl w.heap.size w)
 have H : ((impl_FrontOk.f k l0).bind fun t118 => (if t118 = true then ((impl_TimeOk.f a1_0 a1_1).bind fun t119 => (if t119 = true then ((impl_beyond.f k l0 a1_0 a1_1).bind fun t120 => (some t120)) else (some false))) else (some false))) = some r := h
 clear h
 replace H := Option.bind_eq_some_iff.mp H
 obtain ⟨t118, A30, H⟩ := H
 replace H : (if t118 = true then ((impl_TimeOk.f a1_0 a1_1).bind fun t119 => (if t119 = true then ((impl_beyond.f k l0 a1_0 a1_1).bind fun t120 => (some t120)) else (some false))) else (some false)) = some r := H
 have A3 := Aside0.mk A30
 clear A30
 by_cases c4 : t118 = true
 ·subst c4
  have H1 : ((impl_TimeOk.f a1_0 a1_1).bind fun t119 => (if t119 = true then ((impl_beyond.f k l0 a1_0 a1_1).bind fun t120 => (some t120)) else (some false))) = some r := by rw [if_pos rfl] at H; exact H
  clear H
  have H := H1
  clear H1
  replace H := Option.bind_eq_some_iff.mp H
  obtain ⟨t119, A50, H⟩ := H
  replace H : (if t119 = true then ((impl_beyond.f k l0 a1_0 a1_1).bind fun t120 => (some t120)) else (some false)) = some r := H
  have A5 := Aside0.mk A50
  clear A50
  by_cases c6 : t119 = true
  ·subst c6
   have H1 : ((impl_beyond.f k l0 a1_0 a1_1).bind fun t120 => (some t120)) = some r := by rw [if_pos rfl] at H; exact H
   clear H
   have H := H1
   clear H1
   replace H := Option.bind_eq_some_iff.mp H
   obtain ⟨t120, A70, H⟩ := H
   replace H : (some t120) = some r := H
   have A7 := Aside0.mk A70
   clear A70
   obtain rfl := Option.some.inj H
   go_enter Try.func27, Try.ntmps27
   go_wp2_with (first | ((with_reducible refine gate_dst (N := 3) rfl ?_); refine bE_ 3 #[.int .i64 a1_0, .int .i64 a1_1] 36 ?_; intro gb117 hg w8 hbox hb; have BK117 := am (hbox); have GW117 := am ((Q82 : w.heap.size ≤ gb117)); replace HB := am (below_step Q35 hb); have GE117 := GW117; clear hb hbox hg) | ((with_reducible refine gate_callee (f := 23) rfl ?_); refine goesL_ (some 6) rfl rfl Try.func23 Q1 rfl #[.slice A0 l0.length c0] rfl Q37 ?_; (with_reducible refine (impl_FrontOk.calls k _ _ l0 true _ ?side1 ?side2 A3.out).mono ?_); (case side1 => exact Q53); (case side2 => exact HC0.out); rintro e w9 ⟨rfl, hb⟩; refine ⟨_, rfl, ?_⟩; replace BK117 := am (blk_below (g := gb117) (o := .cells #[.int .i64 a1_0, .int .i64 a1_1] 36 (0, 0)) Q26 hb); replace HB := am (below_step Q45 hb); (try clear hb); obtain ⟨hcz10_0, hcz10_1, hfz10_0, hfz10_1⟩ := bx2_ BK117) | (go_at_call 61; (with_reducible refine (impl_TimeOk.calls a1_0 a1_1 true _ A5.out).mono ?_); rintro e w11 ⟨rfl, hb⟩; replace BK117 := am (blk_below (g := gb117) (o := .cells #[.int .i64 a1_0, .int .i64 a1_1] 36 (0, 0)) Q26 hb); replace HB := am (below_step Q45 hb); (try clear hb); obtain ⟨hcz12_0, hcz12_1, hfz12_0, hfz12_1⟩ := bx2_ BK117) | (go_at_call 72; (with_reducible refine (impl_beyond.calls k _ _ l0 a1_0 a1_1 t120 _ ?side1 ?side2 A7.out).mono ?_); (case side1 => exact Q53); (case side2 => exact HC0.out); rintro e w13 ⟨rfl, hb⟩; replace BK117 := am (blk_below (g := gb117) (o := .cells #[.int .i64 a1_0, .int .i64 a1_1] 36 (0, 0)) Q26 hb); replace HB := am (below_step Q45 hb); (try clear hb)))
   go_ret
   exact ⟨Q9, Q45⟩
  ·replace c6 := Bool.eq_false_iff.mpr c6
   subst c6
   have H1 : (some false) = some r := by rw [if_neg (show ¬ (false = true) by decide)] at H; exact H
   clear H
   have H := H1
   clear H1
   obtain rfl := Option.some.inj H
   go_enter Try.func27, Try.ntmps27
   go_wp2_with (first | ((with_reducible refine gate_dst (N := 3) rfl ?_); refine bE_ 3 #[.int .i64 a1_0, .int .i64 a1_1] 36 ?_; intro gb117 hg w14 hbox hb; have BK117 := am (hbox); have GW117 := am ((Q82 : w.heap.size ≤ gb117)); replace HB := am (below_step Q35 hb); have GE117 := GW117; clear hb hbox hg) | ((with_reducible refine gate_callee (f := 23) rfl ?_); refine goesL_ (some 6) rfl rfl Try.func23 Q1 rfl #[.slice A0 l0.length c0] rfl Q37 ?_; (with_reducible refine (impl_FrontOk.calls k _ _ l0 true _ ?side1 ?side2 A3.out).mono ?_); (case side1 => exact Q53); (case side2 => exact HC0.out); rintro e w15 ⟨rfl, hb⟩; refine ⟨_, rfl, ?_⟩; replace BK117 := am (blk_below (g := gb117) (o := .cells #[.int .i64 a1_0, .int .i64 a1_1] 36 (0, 0)) Q26 hb); replace HB := am (below_step Q45 hb); (try clear hb); obtain ⟨hcz16_0, hcz16_1, hfz16_0, hfz16_1⟩ := bx2_ BK117) | (go_at_call 61; (with_reducible refine (impl_TimeOk.calls a1_0 a1_1 false _ A5.out).mono ?_); rintro e w17 ⟨rfl, hb⟩; replace BK117 := am (blk_below (g := gb117) (o := .cells #[.int .i64 a1_0, .int .i64 a1_1] 36 (0, 0)) Q26 hb); replace HB := am (below_step Q45 hb); (try clear hb)))
   go_ret
   exact ⟨Q9, Q45⟩
 ·replace c4 := Bool.eq_false_iff.mpr c4
  subst c4
  have H1 : (some false) = some r := by rw [if_neg (show ¬ (false = true) by decide)] at H; exact H
  clear H
  have H := H1
  clear H1
  obtain rfl := Option.some.inj H
  go_enter Try.func27, Try.ntmps27
  go_wp2_with (first | ((with_reducible refine gate_dst (N := 3) rfl ?_); refine bE_ 3 #[.int .i64 a1_0, .int .i64 a1_1] 36 ?_; intro gb117 hg w18 hbox hb; have BK117 := am (hbox); have GW117 := am ((Q82 : w.heap.size ≤ gb117)); replace HB := am (below_step Q35 hb); have GE117 := GW117; clear hb hbox hg) | ((with_reducible refine gate_callee (f := 23) rfl ?_); refine goesL_ (some 6) rfl rfl Try.func23 Q1 rfl #[.slice A0 l0.length c0] rfl Q37 ?_; (with_reducible refine (impl_FrontOk.calls k _ _ l0 false _ ?side1 ?side2 A3.out).mono ?_); (case side1 => exact Q53); (case side2 => exact HC0.out); rintro e w19 ⟨rfl, hb⟩; refine ⟨_, rfl, ?_⟩; replace BK117 := am (blk_below (g := gb117) (o := .cells #[.int .i64 a1_0, .int .i64 a1_1] 36 (0, 0)) Q26 hb); replace HB := am (below_step Q45 hb); (try clear hb)))
  go_ret
  exact ⟨Q9, Q45⟩
mutual
def laws_lwAll.l0 : Nat → List (S36) → Int → Option ((List (S36)))
 | 0, _, _ => none
 | k + 1, x1, x2 => if x2 ≤ 7 then (laws_lwAll.l1 k x1 x2 0) else (some x1)
def laws_lwAll.l1 : Nat → List (S36) → Int → Int → Option ((List (S36)))
 | 0, _, _, _ => none
 | k + 1, x1, x2, x3 => if x3 ≤ 7 then (if x1.length < 8796093022208 then (laws_lwAll.l1 k (x1 ++ [(⟨x2, x3⟩ : S36)]) x2 (wrap64 (x3 + 1))) else (none)) else (laws_lwAll.l0 k x1 (wrap64 (x2 + 1)))
end
def laws_lwAll.f (k : Nat)  : Option ((List (S36))) := laws_lwAll.l0 k (([] : List (S36))) 0
theorem laws_lwAll.mono_l : ∀ k, (∀ y0 y1, LeO (laws_lwAll.l0 k y0 y1) (laws_lwAll.l0 (k + 1) y0 y1)) ∧ (∀ y0 y1 y2, LeO (laws_lwAll.l1 k y0 y1 y2) (laws_lwAll.l1 (k + 1) y0 y1 y2))
 | 0 => ⟨fun _ _ r h => by simp [laws_lwAll.l0] at h, fun _ _ _ r h => by simp [laws_lwAll.l1] at h⟩
 | k + 1 => by
  obtain ⟨ih0, ih1⟩ := laws_lwAll.mono_l k
  refine ⟨?_, ?_⟩
  ·intro y0 y1
   unfold laws_lwAll.l0
   repeat' first
   | (with_reducible exact ih0 _ _)
   | (with_reducible exact ih1 _ _ _)
   | (with_reducible exact LeO.refl _)
   | (with_reducible exact LeO.none _)
   | (with_reducible refine LeO.ite ?_ ?_)
   | (with_reducible refine LeO.bind ?_ (fun _ => ?_))
   | exact ih0 _ _
   | exact ih1 _ _ _
   | exact LeO.none _
   | refine LeO.ite ?_ ?_
   | refine LeO.bind ?_ (fun _ => ?_)
  ·intro y0 y1 y2
   unfold laws_lwAll.l1
   repeat' first
   | (with_reducible exact ih0 _ _)
   | (with_reducible exact ih1 _ _ _)
   | (with_reducible exact LeO.refl _)
   | (with_reducible exact LeO.none _)
   | (with_reducible refine LeO.ite ?_ ?_)
   | (with_reducible refine LeO.bind ?_ (fun _ => ?_))
   | exact ih0 _ _
   | exact ih1 _ _ _
   | exact LeO.none _
   | refine LeO.ite ?_ ?_
   | refine LeO.bind ?_ (fun _ => ?_)
theorem laws_lwAll.mono : ∀ k, LeO (laws_lwAll.f k ) (laws_lwAll.f (k + 1) ) := by
 intro  k
 obtain ⟨ih0, ih1⟩ := laws_lwAll.mono_l k
 unfold laws_lwAll.f
 repeat' first
   | (with_reducible exact ih0 _ _)
   | (with_reducible exact ih1 _ _ _)
   | (with_reducible exact LeO.refl _)
   | (with_reducible exact LeO.none _)
   | (with_reducible refine LeO.ite ?_ ?_)
   | (with_reducible refine LeO.bind ?_ (fun _ => ?_))
   | exact ih0 _ _
   | exact ih1 _ _ _
   | exact LeO.none _
   | refine LeO.ite ?_ ?_
   | refine LeO.bind ?_ (fun _ => ?_)
set_option maxHeartbeats 8000000 in
set_option maxRecDepth 100000 in
theorem laws_lwAll.calls (k : Nat)  (r : List (S36)) (w : World) (h : laws_lwAll.f k  = some r) :
  Calls Try.prog 32 #[] w fun e w' => ∃ v0_ : Value, e = .returned (v0_) ∧ Kd.R k36 36 w' w.heap.size (fun _ => True) v0_ r ∧ Below w.heap.size w w' := by
 have hu36 := Try.underlying36
 have HB := am (Below.refl w.heap.size w)
 have H : (laws_lwAll.l0 k (([] : List (S36))) 0) = some r := h
 clear h
 obtain ⟨y121, hy_⟩ : ∃ y_ : List (S36), y_ = (([] : List (S36))) := ⟨_, rfl⟩
 replace H : (laws_lwAll.l0 k y121 0) = some r := Q74
 have Ny121 := Aside0.mk hy_
 clear hy_
 have H' := Aside0.mk H
 clear H
 go_enter Try.func32, Try.ntmps32
 go_wp2_with (first | ((with_reducible refine gate_dst (N := 4) rfl ?_); refine Kd.R_lit k36 _ 36 ?hg (N := 4) ?hd (xs := ([] : List (S36))) (inner := []) (ok := fun _ => True) (okp := fun _ => True) ?hr ?hp (fun _ hk => hk) trivial (Below.refl _ _) (Nat.le_refl _) (by simp) ?_; (case hd => rfl); (case hg => rfl); (case hr => first | (go_simp; done) | (go_simp; rfl)); (case hp => exact (Reps.none _ _)); intro v122 w1 ho2 hb hg_ hnew_; clear hg_ hnew_; (first | rw [← Ny121.out] at ho2 | (simp only [Int.reduceToNat] at ho2; rw [← Ny121.out] at ho2)); have HO123 := am (Kd.R_lower ho2 (below_size Q35)); replace HB := am (below_step Q35 hb); clear hb ho2))
 go_loopg [1, 2] k (fun kq v1 v2 w' => ∃ (x1_1 : List (S36)) (x2_1 : Int), v2 = .int .i64 x2_1 ∧ Aside0 (laws_lwAll.l0 kq x1_1 x2_1 = some r) ∧ Aside0 (kq ≤ k) ∧ Aside0 (Kd.R k36 36 w' w.heap.size (fun _ => True) v1 x1_1) ∧ Aside0 (Below w.heap.size w w'))
 case atStart => exact ⟨(y121), (0), Q4, H', ⟨Nat.le_refl _⟩, ⟨by (with_reducible repeat (first | apply Kd.R_alloc | apply Kd.R_drewN | apply Kd.R_drew)); exact HO123.out⟩, ⟨Q35⟩⟩
 case round =>
  clear H'
  try clear p2
  obtain ⟨x1_1, x2_1, rfl, HA, HK1, HO_1, HB⟩ := hrel
  cases gk with
  | zero => exact absurd HA.out (by simp [laws_lwAll.l0])
  | succ k1 =>
   have H := HA.out
   clear HA
   simp only [laws_lwAll.l0] at H
   by_cases c3 : x2_1 ≤ 7
   ·rw [if_pos c3] at H
    have c3b0 : decide (x2_1 ≤ 7) = true := decide_eq_true c3
    clear c3
    have H' := Aside0.mk H
    clear H
    go_wp2
    go_loopg [1, 3] k1 (fun kq v1 v3 w' => ∃ (x1_2 : List (S36)) (x3_2 : Int), v3 = .int .i64 x3_2 ∧ Aside0 (laws_lwAll.l1 kq x1_2 x2_1 x3_2 = some r) ∧ Aside0 (kq ≤ k1) ∧ Aside0 (Kd.R k36 36 w' w.heap.size (fun _ => True) v1 x1_2) ∧ Aside0 (Below w.heap.size w w'))
    case atStart => exact ⟨(x1_1), (0), Q4, H', ⟨Nat.le_refl _⟩, ⟨Q11⟩, ⟨Q35⟩⟩
    case round =>
     clear H'
     try clear p2
     try clear c3
     try clear c3b0
     try clear p2
     obtain ⟨x1_2, x3_2, rfl, HA, HK2, HO_1, HB⟩ := hrel
     cases gk with
     | zero => exact absurd HA.out (by simp [laws_lwAll.l1])
     | succ k2 =>
      have H := HA.out
      clear HA
      simp only [laws_lwAll.l1] at H
      by_cases c4 : x3_2 ≤ 7
      ·rw [if_pos c4] at H
       have c4b0 : decide (x3_2 ≤ 7) = true := decide_eq_true c4
       clear c4
       have c5 : x1_2.length < 8796093022208 := nn_ H
       rw [if_pos c5] at H
       have LMc5 := Aside0.mk c5
       clear c5
       obtain ⟨y124, hy_⟩ : ∃ y_ : List (S36), y_ = (x1_2 ++ [(⟨x2_1, x3_2⟩ : S36)]) := ⟨_, rfl⟩
       replace H : (laws_lwAll.l1 k2 y124 x2_1 (wrap64 (x3_2 + 1))) = some r := Q74
       have Ny124 := Aside0.mk hy_
       clear hy_
       have H' := Aside0.mk H
       clear H
       go_wp2_with (first | ((with_reducible refine gate_builtin (b := .append) (xs := #[.tmp 13, .tmp 17]) rfl ?_); at_builtin; refine Kd.R_append k36 (w0 := w) w.heap.size rfl (.tmp 13) (.tmp 17) 24 36 (.agg #[(.int .i64 0), (.int .i64 0)]) 16 rfl Try.underlying24 info36 rfl Q0 (by omega) u1 x1_2 (⟨x2_1, x3_2⟩ : S36) [.int .i64 x2_1, .int .i64 x3_2] (fun _ => True) (fun _ => False) rfl rfl ?aP (fun _ hk => hk.elim) ?aF ?aO ?aB ?aS ?aL ?_; (case aP => exact k36_mkM _ _ _ (⟨x2_1, x3_2⟩ : S36)); (case aB => exact Q35); (case aF => exact (fun _ _ => trivial)); (case aO => exact Q11); (case aS => exact (below_size Q35)); (case aL => have := LMc5.out; omega); intro v125 w6 ho hb hg hat; rw [← Ny124.out] at ho; replace HB := am (hb); have HO126 := am (ho); clear HO_1; clear ho hb hg hat))
       go_roundg k2
       case measure => have := HK1.out; have := HK2.out; omega
       case rel => exact ⟨(y124), (wrap64 (x3_2 + 1)), Q4, H', ⟨by have := HK1.out; have := HK2.out; omega⟩, ⟨by (with_reducible repeat (first | apply Kd.R_alloc | apply Kd.R_drewN | apply Kd.R_drew)); exact HO126.out⟩, ⟨Q35⟩⟩
      ·rw [if_neg c4] at H
       have c4b0 : decide (x3_2 ≤ 7) = false := decide_eq_false c4
       clear c4
       have H' := Aside0.mk H
       clear H
       go_wp2
       go_roundg k2
       case measure => have := HK1.out; have := HK2.out; omega
       case rel => exact ⟨(x1_2), (wrap64 (x2_1 + 1)), Q4, H', ⟨by have := HK1.out; have := HK2.out; omega⟩, ⟨Q11⟩, ⟨Q35⟩⟩
   ·rw [if_neg c3] at H
    have c3b0 : decide (x2_1 ≤ 7) = false := decide_eq_false c3
    clear c3
    obtain rfl := Option.some.inj H
    go_wp2
    go_ret
    exact ⟨_, Q9, Q11, Q35⟩
def spec_l6In.f (a0 : Int) (a1 : Int) (a2 : Int) : Option (Bool) := if a0 ≥ a1 then (some (decide (a0 ≤ a2))) else (some false)
set_option maxHeartbeats 8000000 in
set_option maxRecDepth 100000 in
theorem spec_l6In.calls (a0 : Int) (a1 : Int) (a2 : Int) (r : Bool) (w : World) (h : spec_l6In.f a0 a1 a2 = some r) :
  Calls Try.prog 84 #[.int .i64 a0, .int .i64 a1, .int .i64 a2] w fun e w' => e = .returned (.bool r) ∧ Drawn0 w w' := by
 have H : (if a0 ≥ a1 then (some (decide (a0 ≤ a2))) else (some false)) = some r := h
 clear h
 by_cases c4 : a0 ≥ a1
 ·rw [if_pos c4] at H
  have c4b0 : decide (a1 ≤ a0) = true := decide_eq_true c4
  clear c4
  obtain rfl := Option.some.inj H
  go_enter Try.func84, Try.ntmps84
  go_wp2
  go_ret
  exact ⟨Q4, Q7⟩
 ·rw [if_neg c4] at H
  have c4b0 : decide (a1 ≤ a0) = false := decide_eq_false c4
  clear c4
  obtain rfl := Option.some.inj H
  go_enter Try.func84, Try.ntmps84
  go_wp2
  go_ret
  exact ⟨Q4, Q7⟩
def spec_TimeOk.f (a0_0 : Int) (a0_1 : Int) : Option (Bool) := (spec_l6In.f a0_0 0 7).bind fun t128 => (if t128 = true then ((spec_l6In.f a0_1 0 7).bind fun t129 => (some t129)) else (some false))
set_option maxHeartbeats 8000000 in
set_option maxRecDepth 100000 in
theorem spec_TimeOk.calls (a0_0 : Int) (a0_1 : Int) (r : Bool) (w : World) (h : spec_TimeOk.f a0_0 a0_1 = some r) :
  Calls Try.prog 70 #[.agg #[.int .i64 a0_0, .int .i64 a0_1]] w fun e w' => e = .returned (.bool r) ∧ Below w.heap.size w w' := by
 have hu36 := Try.underlying36
 have HB := am (Below.refl w.heap.size w)
 have H : ((spec_l6In.f a0_0 0 7).bind fun t128 => (if t128 = true then ((spec_l6In.f a0_1 0 7).bind fun t129 => (some t129)) else (some false))) = some r := h
 clear h
 replace H := Option.bind_eq_some_iff.mp H
 obtain ⟨t128, A20, H⟩ := H
 replace H : (if t128 = true then ((spec_l6In.f a0_1 0 7).bind fun t129 => (some t129)) else (some false)) = some r := H
 have A2 := Aside0.mk A20
 clear A20
 by_cases c3 : t128 = true
 ·subst c3
  have H1 : ((spec_l6In.f a0_1 0 7).bind fun t129 => (some t129)) = some r := by rw [if_pos rfl] at H; exact H
  clear H
  have H := H1
  clear H1
  replace H := Option.bind_eq_some_iff.mp H
  obtain ⟨t129, A40, H⟩ := H
  replace H : (some t129) = some r := H
  have A4 := Aside0.mk A40
  clear A40
  obtain rfl := Option.some.inj H
  go_enter Try.func70, Try.ntmps70
  go_wp2_with (first | ((with_reducible refine gate_dst (N := 1) rfl ?_); refine bE_ 1 #[.int .i64 a0_0, .int .i64 a0_1] 36 ?_; intro gb127 hg w5 hbox hb; have BK127 := am (hbox); have GW127 := am ((Q82 : w.heap.size ≤ gb127)); replace HB := am (below_step Q35 hb); have GE127 := GW127; clear hb hbox hg; obtain ⟨hcz6_0, hcz6_1, hfz6_0, hfz6_1⟩ := bx2_ BK127) | ((with_reducible refine gate_callee (f := 84) rfl ?_); refine goesL_ (some 5) rfl rfl Try.func84 Q1 rfl #[.int .i64 a0_0, .int .i64 0, .int .i64 7] rfl Q37 ?_; (with_reducible refine (spec_l6In.calls a0_0 0 7 true _ A2.out).mono ?_); rintro e w' ⟨rfl, ⟨nd, rfl⟩⟩; refine ⟨_, rfl, ?_⟩) | (go_at_call 84; (with_reducible refine (spec_l6In.calls a0_1 0 7 t129 _ A4.out).mono ?_); rintro e w' ⟨rfl, ⟨nd, rfl⟩⟩))
  go_ret
  exact ⟨Q9, by repeat (first | (with_reducible first | exact HB.out | apply below_alloc | apply pw_below_drewN | apply below_drew1 | refine below_set ?_ GE127.out) | exact HB.out)⟩
 ·replace c3 := Bool.eq_false_iff.mpr c3
  subst c3
  have H1 : (some false) = some r := by rw [if_neg (show ¬ (false = true) by decide)] at H; exact H
  clear H
  have H := H1
  clear H1
  obtain rfl := Option.some.inj H
  go_enter Try.func70, Try.ntmps70
  go_wp2_with (first | ((with_reducible refine gate_dst (N := 1) rfl ?_); refine bE_ 1 #[.int .i64 a0_0, .int .i64 a0_1] 36 ?_; intro gb127 hg w7 hbox hb; have BK127 := am (hbox); have GW127 := am ((Q82 : w.heap.size ≤ gb127)); replace HB := am (below_step Q35 hb); have GE127 := GW127; clear hb hbox hg; obtain ⟨hcz8_0, hcz8_1, hfz8_0, hfz8_1⟩ := bx2_ BK127) | ((with_reducible refine gate_callee (f := 84) rfl ?_); refine goesL_ (some 5) rfl rfl Try.func84 Q1 rfl #[.int .i64 a0_0, .int .i64 0, .int .i64 7] rfl Q37 ?_; (with_reducible refine (spec_l6In.calls a0_0 0 7 false _ A2.out).mono ?_); rintro e w' ⟨rfl, ⟨nd, rfl⟩⟩; refine ⟨_, rfl, ?_⟩))
  go_ret
  exact ⟨Q9, by repeat (first | (with_reducible first | exact HB.out | apply below_alloc | apply pw_below_drewN | apply below_drew1 | refine below_set ?_ GE127.out) | exact HB.out)⟩
def spec_l2Row.f (a0_0 : Int) (a0_1 : Int) (a0_2 : Int) (a0_3 : Int) (a0_4 : Int) : Option (Bool) := (spec_l6In.f a0_0 0 3).bind fun t131 => (if t131 = true then ((spec_l6In.f a0_1 0 99).bind fun t132 => (if t132 = true then ((spec_TimeOk.f a0_2 a0_3).bind fun t133 => (if t133 = true then ((spec_l6In.f a0_4 (-99999) 99999).bind fun t134 => (some t134)) else (some false))) else (some false))) else (some false))
set_option maxHeartbeats 8000000 in
set_option maxRecDepth 100000 in
theorem spec_l2Row.calls (a0_0 : Int) (a0_1 : Int) (a0_2 : Int) (a0_3 : Int) (a0_4 : Int) (r : Bool) (w : World) (h : spec_l2Row.f a0_0 a0_1 a0_2 a0_3 a0_4 = some r) :
  Calls Try.prog 91 #[.agg #[.int .i64 a0_0, .int .i64 a0_1, .int .i64 a0_2, .int .i64 a0_3, .int .i64 a0_4]] w fun e w' => e = .returned (.bool r) ∧ Below w.heap.size w w' := by
 have hu90 := Try.underlying90
 have hu36 := Try.underlying36
 have HB := am (Below.refl w.heap.size w)
 have H : ((spec_l6In.f a0_0 0 3).bind fun t131 => (if t131 = true then ((spec_l6In.f a0_1 0 99).bind fun t132 => (if t132 = true then ((spec_TimeOk.f a0_2 a0_3).bind fun t133 => (if t133 = true then ((spec_l6In.f a0_4 (-99999) 99999).bind fun t134 => (some t134)) else (some false))) else (some false))) else (some false))) = some r := h
 clear h
 replace H := Option.bind_eq_some_iff.mp H
 obtain ⟨t131, A20, H⟩ := H
 replace H : (if t131 = true then ((spec_l6In.f a0_1 0 99).bind fun t132 => (if t132 = true then ((spec_TimeOk.f a0_2 a0_3).bind fun t133 => (if t133 = true then ((spec_l6In.f a0_4 (-99999) 99999).bind fun t134 => (some t134)) else (some false))) else (some false))) else (some false)) = some r := H
 have A2 := Aside0.mk A20
 clear A20
 by_cases c3 : t131 = true
 ·subst c3
  have H1 : ((spec_l6In.f a0_1 0 99).bind fun t132 => (if t132 = true then ((spec_TimeOk.f a0_2 a0_3).bind fun t133 => (if t133 = true then ((spec_l6In.f a0_4 (-99999) 99999).bind fun t134 => (some t134)) else (some false))) else (some false))) = some r := by rw [if_pos rfl] at H; exact H
  clear H
  have H := H1
  clear H1
  replace H := Option.bind_eq_some_iff.mp H
  obtain ⟨t132, A40, H⟩ := H
  replace H : (if t132 = true then ((spec_TimeOk.f a0_2 a0_3).bind fun t133 => (if t133 = true then ((spec_l6In.f a0_4 (-99999) 99999).bind fun t134 => (some t134)) else (some false))) else (some false)) = some r := H
  have A4 := Aside0.mk A40
  clear A40
  by_cases c5 : t132 = true
  ·subst c5
   have H1 : ((spec_TimeOk.f a0_2 a0_3).bind fun t133 => (if t133 = true then ((spec_l6In.f a0_4 (-99999) 99999).bind fun t134 => (some t134)) else (some false))) = some r := by rw [if_pos rfl] at H; exact H
   clear H
   have H := H1
   clear H1
   replace H := Option.bind_eq_some_iff.mp H
   obtain ⟨t133, A60, H⟩ := H
   replace H : (if t133 = true then ((spec_l6In.f a0_4 (-99999) 99999).bind fun t134 => (some t134)) else (some false)) = some r := H
   have A6 := Aside0.mk A60
   clear A60
   by_cases c7 : t133 = true
   ·subst c7
    have H1 : ((spec_l6In.f a0_4 (-99999) 99999).bind fun t134 => (some t134)) = some r := by rw [if_pos rfl] at H; exact H
    clear H
    have H := H1
    clear H1
    replace H := Option.bind_eq_some_iff.mp H
    obtain ⟨t134, A80, H⟩ := H
    replace H : (some t134) = some r := H
    have A8 := Aside0.mk A80
    clear A80
    obtain rfl := Option.some.inj H
    go_enter Try.func91, Try.ntmps91
    go_wp2_with (first | ((with_reducible refine gate_dst (N := 1) rfl ?_); refine bE_ 1 #[.int .i64 a0_0, .int .i64 a0_1, .int .i64 a0_2, .int .i64 a0_3, .int .i64 a0_4] 90 ?_; intro gb130 hg w9 hbox hb; have BK130 := am (hbox); have GW130 := am ((Q82 : w.heap.size ≤ gb130)); replace HB := am (below_step Q35 hb); have GE130 := GW130; clear hb hbox hg; obtain ⟨hcz10_0, hcz10_1, hcz10_2, hcz10_3, hcz10_4, hfz10_0, hfz10_1, hfz10_2, hfz10_3, hfz10_4⟩ := bx5_ BK130) | ((with_reducible refine gate_callee (f := 84) rfl ?_); refine goesL_ (some 5) rfl rfl Try.func84 Q1 rfl #[.int .i64 a0_0, .int .i64 0, .int .i64 3] rfl Q37 ?_; (with_reducible refine (spec_l6In.calls a0_0 0 3 true _ A2.out).mono ?_); rintro e w' ⟨rfl, ⟨nd, rfl⟩⟩; refine ⟨_, rfl, ?_⟩) | (go_at_call 84; (with_reducible refine (spec_l6In.calls a0_1 0 99 true _ A4.out).mono ?_); rintro e w' ⟨rfl, ⟨nd, rfl⟩⟩) | (go_at_call 70; (with_reducible refine (spec_TimeOk.calls a0_2 a0_3 true _ A6.out).mono ?_); rintro e w11 ⟨rfl, hb⟩; replace BK130 := am (blk_below (g := gb130) (o := .cells #[.int .i64 a0_0, .int .i64 a0_1, .int .i64 a0_2, .int .i64 a0_3, .int .i64 a0_4] 90 (0, 0)) (by (with_reducible repeat (first | refine blk_drewN ?_ _ | refine blk_drew ?_ | refine blk_alloc ?_ _)); exact BK130.out) hb); replace HB := am (below_step Q46 hb); (try clear hb); obtain ⟨hcz12_0, hcz12_1, hcz12_2, hcz12_3, hcz12_4, hfz12_0, hfz12_1, hfz12_2, hfz12_3, hfz12_4⟩ := bx5_ BK130) | (go_at_call 84; (with_reducible refine (spec_l6In.calls a0_4 (-99999) 99999 t134 _ A8.out).mono ?_); rintro e w' ⟨rfl, ⟨nd, rfl⟩⟩))
    go_ret
    exact ⟨Q9, Q46⟩
   ·replace c7 := Bool.eq_false_iff.mpr c7
    subst c7
    have H1 : (some false) = some r := by rw [if_neg (show ¬ (false = true) by decide)] at H; exact H
    clear H
    have H := H1
    clear H1
    obtain rfl := Option.some.inj H
    go_enter Try.func91, Try.ntmps91
    go_wp2_with (first | ((with_reducible refine gate_dst (N := 1) rfl ?_); refine bE_ 1 #[.int .i64 a0_0, .int .i64 a0_1, .int .i64 a0_2, .int .i64 a0_3, .int .i64 a0_4] 90 ?_; intro gb130 hg w13 hbox hb; have BK130 := am (hbox); have GW130 := am ((Q82 : w.heap.size ≤ gb130)); replace HB := am (below_step Q35 hb); have GE130 := GW130; clear hb hbox hg; obtain ⟨hcz14_0, hcz14_1, hcz14_2, hcz14_3, hcz14_4, hfz14_0, hfz14_1, hfz14_2, hfz14_3, hfz14_4⟩ := bx5_ BK130) | ((with_reducible refine gate_callee (f := 84) rfl ?_); refine goesL_ (some 5) rfl rfl Try.func84 Q1 rfl #[.int .i64 a0_0, .int .i64 0, .int .i64 3] rfl Q37 ?_; (with_reducible refine (spec_l6In.calls a0_0 0 3 true _ A2.out).mono ?_); rintro e w' ⟨rfl, ⟨nd, rfl⟩⟩; refine ⟨_, rfl, ?_⟩) | (go_at_call 84; (with_reducible refine (spec_l6In.calls a0_1 0 99 true _ A4.out).mono ?_); rintro e w' ⟨rfl, ⟨nd, rfl⟩⟩) | (go_at_call 70; (with_reducible refine (spec_TimeOk.calls a0_2 a0_3 false _ A6.out).mono ?_); rintro e w15 ⟨rfl, hb⟩; replace BK130 := am (blk_below (g := gb130) (o := .cells #[.int .i64 a0_0, .int .i64 a0_1, .int .i64 a0_2, .int .i64 a0_3, .int .i64 a0_4] 90 (0, 0)) (by (with_reducible repeat (first | refine blk_drewN ?_ _ | refine blk_drew ?_ | refine blk_alloc ?_ _)); exact BK130.out) hb); replace HB := am (below_step Q46 hb); (try clear hb)))
    go_ret
    exact ⟨Q9, Q46⟩
  ·replace c5 := Bool.eq_false_iff.mpr c5
   subst c5
   have H1 : (some false) = some r := by rw [if_neg (show ¬ (false = true) by decide)] at H; exact H
   clear H
   have H := H1
   clear H1
   obtain rfl := Option.some.inj H
   go_enter Try.func91, Try.ntmps91
   go_wp2_with (first | ((with_reducible refine gate_dst (N := 1) rfl ?_); refine bE_ 1 #[.int .i64 a0_0, .int .i64 a0_1, .int .i64 a0_2, .int .i64 a0_3, .int .i64 a0_4] 90 ?_; intro gb130 hg w16 hbox hb; have BK130 := am (hbox); have GW130 := am ((Q82 : w.heap.size ≤ gb130)); replace HB := am (below_step Q35 hb); have GE130 := GW130; clear hb hbox hg; obtain ⟨hcz17_0, hcz17_1, hcz17_2, hcz17_3, hcz17_4, hfz17_0, hfz17_1, hfz17_2, hfz17_3, hfz17_4⟩ := bx5_ BK130) | ((with_reducible refine gate_callee (f := 84) rfl ?_); refine goesL_ (some 5) rfl rfl Try.func84 Q1 rfl #[.int .i64 a0_0, .int .i64 0, .int .i64 3] rfl Q37 ?_; (with_reducible refine (spec_l6In.calls a0_0 0 3 true _ A2.out).mono ?_); rintro e w' ⟨rfl, ⟨nd, rfl⟩⟩; refine ⟨_, rfl, ?_⟩) | (go_at_call 84; (with_reducible refine (spec_l6In.calls a0_1 0 99 false _ A4.out).mono ?_); rintro e w' ⟨rfl, ⟨nd, rfl⟩⟩))
   go_ret
   exact ⟨Q9, Q46⟩
 ·replace c3 := Bool.eq_false_iff.mpr c3
  subst c3
  have H1 : (some false) = some r := by rw [if_neg (show ¬ (false = true) by decide)] at H; exact H
  clear H
  have H := H1
  clear H1
  obtain rfl := Option.some.inj H
  go_enter Try.func91, Try.ntmps91
  go_wp2_with (first | ((with_reducible refine gate_dst (N := 1) rfl ?_); refine bE_ 1 #[.int .i64 a0_0, .int .i64 a0_1, .int .i64 a0_2, .int .i64 a0_3, .int .i64 a0_4] 90 ?_; intro gb130 hg w18 hbox hb; have BK130 := am (hbox); have GW130 := am ((Q82 : w.heap.size ≤ gb130)); replace HB := am (below_step Q35 hb); have GE130 := GW130; clear hb hbox hg; obtain ⟨hcz19_0, hcz19_1, hcz19_2, hcz19_3, hcz19_4, hfz19_0, hfz19_1, hfz19_2, hfz19_3, hfz19_4⟩ := bx5_ BK130) | ((with_reducible refine gate_callee (f := 84) rfl ?_); refine goesL_ (some 5) rfl rfl Try.func84 Q1 rfl #[.int .i64 a0_0, .int .i64 0, .int .i64 3] rfl Q37 ?_; (with_reducible refine (spec_l6In.calls a0_0 0 3 false _ A2.out).mono ?_); rintro e w' ⟨rfl, ⟨nd, rfl⟩⟩; refine ⟨_, rfl, ?_⟩))
  go_ret
  exact ⟨Q9, Q46⟩
def spec_RowsOk.l0 : Nat → List (S90) → Int → Option (Bool)
 | 0, _, _ => none
 | k + 1, x0, x3 => if x3 < (x0.length : Int) then (if 0 ≤ x3 then ((spec_l2Row.f ((rd_T90 x0 x3).f0) ((rd_T90 x0 x3).f1) ((rd_T90 x0 x3).f2.f0) ((rd_T90 x0 x3).f2.f1) ((rd_T90 x0 x3).f3)).bind fun t136 => (if t136 = true then (spec_RowsOk.l0 k x0 (wrap64 (x3 + 1))) else (some false))) else (none)) else (some true)
def spec_RowsOk.f (k : Nat) (l0 : List (S90)) : Option (Bool) := if (l0.length : Int) > 400 then (some false) else (spec_RowsOk.l0 k l0 0)
set_option maxHeartbeats 8000000 in
set_option maxRecDepth 100000 in
theorem spec_RowsOk.calls (k : Nat) (A0 : Option Addr) (c0 : Nat) (l0 : List (S90)) (r : Bool) (w : World) (hr0 : Kd.C k90 w A0 l0.length l0) (hc0 : l0.length ≤ c0) (h : spec_RowsOk.f k l0 = some r) :
  Calls Try.prog 56 #[.slice A0 l0.length c0] w fun e w' => e = .returned (.bool r) ∧ Below w.heap.size w w' := by
 have hu90 := Try.underlying90
 have HR0 := Aside0.mk hr0
 have HC0 := Aside0.mk hc0
 clear hr0 hc0
 have HB := am (Below.refl w.heap.size w)
 have H : (if (l0.length : Int) > 400 then (some false) else (spec_RowsOk.l0 k l0 0)) = some r := h
 clear h
 by_cases c2 : (l0.length : Int) > 400
 ·rw [if_pos c2] at H
  have c2b0 : decide (400 < (l0.length : Int)) = true := decide_eq_true c2
  have c2b1 : decide (400 < l0.length) = true := decide_eq_true (by omega)
  clear c2
  obtain rfl := Option.some.inj H
  go_enter Try.func56, Try.ntmps56
  go_wp2
  go_ret
  exact ⟨Q9, Q35⟩
 ·rw [if_neg c2] at H
  have c2b0 : decide (400 < (l0.length : Int)) = false := decide_eq_false c2
  have c2b1 : decide (400 < l0.length) = false := decide_eq_false (by omega)
  clear c2
  have H' := Aside0.mk H
  clear H
  go_enter Try.func56, Try.ntmps56
  go_wp2
  go_loopg [3] k (fun kq v3 w' => ∃ (x3_1 : Int), v3 = .int .i64 x3_1 ∧ Aside0 (spec_RowsOk.l0 kq l0 x3_1 = some r) ∧ Aside0 (kq ≤ k) ∧ Aside0 (Below w.heap.size w w'))
  case atStart => exact ⟨(0), Q4, H', ⟨Nat.le_refl _⟩, ⟨Q35⟩⟩
  case round =>
   clear H'
   try clear c2
   try clear c2b0
   try clear c2b1
   try clear p2
   obtain ⟨x3_1, rfl, HA, HK1, HB⟩ := hrel
   cases gk with
   | zero => exact absurd HA.out (by simp [spec_RowsOk.l0])
   | succ k1 =>
    have H := HA.out
    clear HA
    simp only [spec_RowsOk.l0] at H
    by_cases c3 : x3_1 < (l0.length : Int)
    ·rw [if_pos c3] at H
     have c3b0 : decide (x3_1 < (l0.length : Int)) = true := decide_eq_true c3
     clear c3
     have c4 : 0 ≤ x3_1 := nn_ H
     rw [if_pos c4] at H
     have c4b0 : decide (0 ≤ x3_1) = true := decide_eq_true c4
     clear c4
     replace H := Option.bind_eq_some_iff.mp H
     obtain ⟨t136, A50, H⟩ := H
     replace H : (if t136 = true then (spec_RowsOk.l0 k1 l0 (wrap64 (x3_1 + 1))) else (some false)) = some r := H
     have A5 := Aside0.mk A50
     clear A50
     by_cases c6 : t136 = true
     ·subst c6
      have H1 : (spec_RowsOk.l0 k1 l0 (wrap64 (x3_1 + 1))) = some r := by rw [if_pos rfl] at H; exact H
      clear H
      have H := H1
      clear H1
      have H' := Aside0.mk H
      clear H
      have p135 : 0 ≤ (x3_1 : Int) := of_decide_eq_true Q5
      have q135 : x3_1 < (l0.length : Int) := of_decide_eq_true Q5
      obtain ⟨ad135, e135, hx135_0, hx135_1, hx135_2, hx135_3, hx135_4⟩ := at_T90 HR0.out x3_1 p135 q135
      cases e135
      replace hx135_0 := (HB.out.cell (World.block_lt_of_cell? w _ hx135_0)).trans hx135_0
      replace hx135_1 := (HB.out.cell (World.block_lt_of_cell? w _ hx135_1)).trans hx135_1
      replace hx135_2 := (HB.out.cell (World.block_lt_of_cell? w _ hx135_2)).trans hx135_2
      replace hx135_3 := (HB.out.cell (World.block_lt_of_cell? w _ hx135_3)).trans hx135_3
      replace hx135_4 := (HB.out.cell (World.block_lt_of_cell? w _ hx135_4)).trans hx135_4
      replace p135 := eq_true p135
      replace q135 := eq_true q135
      go_wp2_with (first | ((with_reducible refine gate_callee (f := 91) rfl ?_); refine goesL_ (some 17) rfl rfl Try.func91 Q1 rfl #[.agg #[.int .i64 ((rd_T90 l0 x3_1).f0), .int .i64 ((rd_T90 l0 x3_1).f1), .int .i64 ((rd_T90 l0 x3_1).f2.f0), .int .i64 ((rd_T90 l0 x3_1).f2.f1), .int .i64 ((rd_T90 l0 x3_1).f3)]] rfl Q37 ?_; (with_reducible refine (spec_l2Row.calls ((rd_T90 l0 x3_1).f0) ((rd_T90 l0 x3_1).f1) ((rd_T90 l0 x3_1).f2.f0) ((rd_T90 l0 x3_1).f2.f1) ((rd_T90 l0 x3_1).f3) true _ A5.out).mono ?_); rintro e w7 ⟨rfl, hb⟩; refine ⟨_, rfl, ?_⟩; replace HB := am (below_step Q35 hb); (try clear hb)))
      go_roundg k1
      case measure => have := HK1.out; omega
      case rel => exact ⟨(wrap64 (x3_1 + 1)), Q4, H', ⟨Q2⟩, ⟨Q35⟩⟩
     ·replace c6 := Bool.eq_false_iff.mpr c6
      subst c6
      have H1 : (some false) = some r := by rw [if_neg (show ¬ (false = true) by decide)] at H; exact H
      clear H
      have H := H1
      clear H1
      obtain rfl := Option.some.inj H
      have p135 : 0 ≤ (x3_1 : Int) := of_decide_eq_true Q5
      have q135 : x3_1 < (l0.length : Int) := of_decide_eq_true Q5
      obtain ⟨ad135, e135, hx135_0, hx135_1, hx135_2, hx135_3, hx135_4⟩ := at_T90 HR0.out x3_1 p135 q135
      cases e135
      replace hx135_0 := (HB.out.cell (World.block_lt_of_cell? w _ hx135_0)).trans hx135_0
      replace hx135_1 := (HB.out.cell (World.block_lt_of_cell? w _ hx135_1)).trans hx135_1
      replace hx135_2 := (HB.out.cell (World.block_lt_of_cell? w _ hx135_2)).trans hx135_2
      replace hx135_3 := (HB.out.cell (World.block_lt_of_cell? w _ hx135_3)).trans hx135_3
      replace hx135_4 := (HB.out.cell (World.block_lt_of_cell? w _ hx135_4)).trans hx135_4
      replace p135 := eq_true p135
      replace q135 := eq_true q135
      go_wp2_with (first | ((with_reducible refine gate_callee (f := 91) rfl ?_); refine goesL_ (some 17) rfl rfl Try.func91 Q1 rfl #[.agg #[.int .i64 ((rd_T90 l0 x3_1).f0), .int .i64 ((rd_T90 l0 x3_1).f1), .int .i64 ((rd_T90 l0 x3_1).f2.f0), .int .i64 ((rd_T90 l0 x3_1).f2.f1), .int .i64 ((rd_T90 l0 x3_1).f3)]] rfl Q37 ?_; (with_reducible refine (spec_l2Row.calls ((rd_T90 l0 x3_1).f0) ((rd_T90 l0 x3_1).f1) ((rd_T90 l0 x3_1).f2.f0) ((rd_T90 l0 x3_1).f2.f1) ((rd_T90 l0 x3_1).f3) false _ A5.out).mono ?_); rintro e w8 ⟨rfl, hb⟩; refine ⟨_, rfl, ?_⟩; replace HB := am (below_step Q35 hb); (try clear hb)))
      go_ret
      exact ⟨Q9, Q35⟩
    ·rw [if_neg c3] at H
     have c3b0 : decide (x3_1 < (l0.length : Int)) = false := decide_eq_false c3
     clear c3
     obtain rfl := Option.some.inj H
     go_wp2
     go_ret
     exact ⟨Q9, Q35⟩
mutual
def spec_BatchTimes.l0 : Nat → List (S90) → List (S36) → Int → Option ((List (S36)))
 | 0, _, _, _ => none
 | k + 1, x0, x3, x4 => if x4 ≤ 7 then ((spec_RowsOk.f k x0).bind fun t140 => (spec_BatchTimes.j1 k x0 x3 x4 t140)) else (spec_BatchTimes.j1 k x0 x3 x4 false)
def spec_BatchTimes.j1 : Nat → List (S90) → List (S36) → Int → Bool → Option ((List (S36)))
 | 0, _, _, _, _ => none
 | k + 1, x0, x3, x4, x14 => if x14 = true then (spec_BatchTimes.l1 k x0 x3 x4 0) else (some x3)
def spec_BatchTimes.l1 : Nat → List (S90) → List (S36) → Int → Int → Option ((List (S36)))
 | 0, _, _, _, _ => none
 | k + 1, x0, x3, x4, x5 => if x5 ≤ 7 then (spec_BatchTimes.l2 k x0 x3 x4 x5 0 x4 x5) else (spec_BatchTimes.l0 k x0 x3 (wrap64 (x4 + 1)))
def spec_BatchTimes.l2 : Nat → List (S90) → List (S36) → Int → Int → Int → Int → Int → Option ((List (S36)))
 | 0, _, _, _, _, _, _, _ => none
 | k + 1, x0, x3, x4, x5, x7, x142000, x142001 => if x7 < (x0.length : Int) then (if 0 ≤ x7 then (if (((rd_T90 x0 x7).f2.f0) == x142000 && (((rd_T90 x0 x7).f2.f1) == x142001)) = true then (if x3.length < 8796093022208 then (spec_BatchTimes.l1 k x0 (x3 ++ [(⟨x142000, x142001⟩ : S36)]) x4 (wrap64 (x5 + 1))) else (none)) else (spec_BatchTimes.l2 k x0 x3 x4 x5 (wrap64 (x7 + 1)) x142000 x142001)) else (none)) else (spec_BatchTimes.l1 k x0 x3 x4 (wrap64 (x5 + 1)))
end
def spec_BatchTimes.f (k : Nat) (l0 : List (S90)) : Option ((List (S36))) := spec_BatchTimes.l0 k l0 (([] : List (S36))) 0
set_option maxHeartbeats 8000000 in
set_option maxRecDepth 100000 in
theorem spec_BatchTimes.calls (k : Nat) (A0 : Option Addr) (c0 : Nat) (l0 : List (S90)) (r : List (S36)) (w : World) (hr0 : Kd.C k90 w A0 l0.length l0) (hc0 : l0.length ≤ c0) (h : spec_BatchTimes.f k l0 = some r) :
  Calls Try.prog 50 #[.slice A0 l0.length c0] w fun e w' => ∃ v0_ : Value, e = .returned (v0_) ∧ Kd.R k36 36 w' w.heap.size (fun _ => True) v0_ r ∧ Below w.heap.size w w' := by
 have hu36 := Try.underlying36
 have HR0 := Aside0.mk hr0
 have HC0 := Aside0.mk hc0
 clear hr0 hc0
 have HB := am (Below.refl w.heap.size w)
 have H : (spec_BatchTimes.l0 k l0 (([] : List (S36))) 0) = some r := h
 clear h
 obtain ⟨y137, hy_⟩ : ∃ y_ : List (S36), y_ = (([] : List (S36))) := ⟨_, rfl⟩
 replace H : (spec_BatchTimes.l0 k l0 y137 0) = some r := Q74
 have Ny137 := Aside0.mk hy_
 clear hy_
 have H' := Aside0.mk H
 clear H
 go_enter Try.func50, Try.ntmps50
 go_wp2_with (first | ((with_reducible refine gate_dst (N := 8) rfl ?_); refine Kd.R_lit k36 _ 36 ?hg (N := 8) ?hd (xs := ([] : List (S36))) (inner := []) (ok := fun _ => True) (okp := fun _ => True) ?hr ?hp (fun _ hk => hk) trivial (Below.refl _ _) (Nat.le_refl _) (by simp) ?_; (case hd => rfl); (case hg => rfl); (case hr => first | (go_simp; done) | (go_simp; rfl)); (case hp => exact (Reps.none _ _)); intro v138 w2 ho3 hb hg_ hnew_; clear hg_ hnew_; (first | rw [← Ny137.out] at ho3 | (simp only [Int.reduceToNat] at ho3; rw [← Ny137.out] at ho3)); have HO139 := am (Kd.R_lower ho3 (below_size Q35)); replace HB := am (below_step Q35 hb); clear hb ho3))
 repeat (go_quiet (first | ((with_reducible refine gate_dst (N := 8) rfl ?_); refine Kd.R_lit k36 _ 36 ?hg (N := 8) ?hd (xs := ([] : List (S36))) (inner := []) (ok := fun _ => True) (okp := fun _ => True) ?hr ?hp (fun _ hk => hk) trivial (Below.refl _ _) (Nat.le_refl _) (by simp) ?_; (case hd => rfl); (case hg => rfl); (case hr => first | (go_simp; done) | (go_simp; rfl)); (case hp => exact (Reps.none _ _)); intro v138 w2 ho3 hb hg_ hnew_; clear hg_ hnew_; (first | rw [← Ny137.out] at ho3 | (simp only [Int.reduceToNat] at ho3; rw [← Ny137.out] at ho3)); have HO139 := am (Kd.R_lower ho3 (below_size Q35)); replace HB := am (below_step Q35 hb); clear hb ho3)); try go_wp2_with (first | ((with_reducible refine gate_dst (N := 8) rfl ?_); refine Kd.R_lit k36 _ 36 ?hg (N := 8) ?hd (xs := ([] : List (S36))) (inner := []) (ok := fun _ => True) (okp := fun _ => True) ?hr ?hp (fun _ hk => hk) trivial (Below.refl _ _) (Nat.le_refl _) (by simp) ?_; (case hd => rfl); (case hg => rfl); (case hr => first | (go_simp; done) | (go_simp; rfl)); (case hp => exact (Reps.none _ _)); intro v138 w2 ho3 hb hg_ hnew_; clear hg_ hnew_; (first | rw [← Ny137.out] at ho3 | (simp only [Int.reduceToNat] at ho3; rw [← Ny137.out] at ho3)); have HO139 := am (Kd.R_lower ho3 (below_size Q35)); replace HB := am (below_step Q35 hb); clear hb ho3)))
 go_loopg [3, 4] k (fun kq v3 v4 w' => ∃ (x3_1 : List (S36)) (x4_1 : Int), v4 = .int .i64 x4_1 ∧ Aside0 (spec_BatchTimes.l0 kq l0 x3_1 x4_1 = some r) ∧ Aside0 (kq ≤ k) ∧ Aside0 (Kd.R k36 36 w' w.heap.size (fun _ => True) v3 x3_1) ∧ Aside0 (Below w.heap.size w w'))
 case atStart => exact ⟨(y137), (0), Q4, H', ⟨Nat.le_refl _⟩, ⟨by (with_reducible repeat (first | apply Kd.R_alloc | apply Kd.R_drewN | apply Kd.R_drew)); exact HO139.out⟩, ⟨Q35⟩⟩
 case round =>
  clear H'
  try clear p2
  obtain ⟨x3_1, x4_1, rfl, HA, HK1, HO_3, HB⟩ := hrel
  cases gk with
  | zero => exact absurd HA.out (by simp [spec_BatchTimes.l0])
  | succ k1 =>
   have H := HA.out
   clear HA
   simp only [spec_BatchTimes.l0] at H
   have HC4 := Aside0.mk H
   clear H
   go_upto_region 3 with (fail)
   repeat (go_quiet (fail); go_upto_region 3 with (fail))
   go_cut [14] (fun v14 wc => ∃ (kq : Nat) (x14_3 : Bool), v14 = .bool x14_3 ∧ Aside0 (spec_BatchTimes.j1 kq l0 x3_1 x4_1 x14_3 = some r) ∧ Aside0 (kq ≤ k1) ∧ Aside0 (Kd.R k36 36 wc w.heap.size (fun _ => True) u3 x3_1) ∧ Aside0 (Below w.heap.size w wc))
   case first =>
    have H := HC4.out
    clear HC4
    by_cases c5 : x4_1 ≤ 7
    ·rw [if_pos c5] at H
     have c5b0 : decide (x4_1 ≤ 7) = true := decide_eq_true c5
     clear c5
     (first | rw [c5b0] | (simp only [i64_w, i32_w]; rw [c5b0]) | skip)
     replace H := Option.bind_eq_some_iff.mp H
     obtain ⟨t140, A60, H⟩ := H
     replace H : (spec_BatchTimes.j1 k1 l0 x3_1 x4_1 t140) = some r := H
     have A6 := Aside0.mk A60
     clear A60
     have H' := Aside0.mk H
     clear H
     go_wp2_with (first | (go_at_call 56; (with_reducible refine (spec_RowsOk.calls k1 _ _ l0 t140 _ ?side1 ?side2 A6.out).mono ?_); (case side1 => exact Q53); (case side2 => exact HC0.out); rintro e w7 ⟨rfl, hb⟩; replace HO_3 := am (Kd.R_below Q12 hb); replace HB := am (below_step Q35 hb); (try clear hb)))
     repeat (go_quiet (first | (go_at_call 56; (with_reducible refine (spec_RowsOk.calls k1 _ _ l0 t140 _ ?side1 ?side2 A6.out).mono ?_); (case side1 => exact Q53); (case side2 => exact HC0.out); rintro e w7 ⟨rfl, hb⟩; replace HO_3 := am (Kd.R_below Q12 hb); replace HB := am (below_step Q35 hb); (try clear hb))); try go_wp2_with (first | (go_at_call 56; (with_reducible refine (spec_RowsOk.calls k1 _ _ l0 t140 _ ?side1 ?side2 A6.out).mono ?_); (case side1 => exact Q53); (case side2 => exact HC0.out); rintro e w7 ⟨rfl, hb⟩; replace HO_3 := am (Kd.R_below Q12 hb); replace HB := am (below_step Q35 hb); (try clear hb))))
     go_meet
     case rel => exact ⟨_, (t140), Q4, H', ⟨Q6⟩, ⟨Q12⟩, ⟨Q35⟩⟩
    ·rw [if_neg c5] at H
     have c5b0 : decide (x4_1 ≤ 7) = false := decide_eq_false c5
     clear c5
     (first | rw [c5b0] | (simp only [i64_w, i32_w]; rw [c5b0]) | skip)
     have H' := Aside0.mk H
     clear H
     go_wp2
     repeat (go_quiet (fail); try go_wp2)
     go_meet
     case rel => exact ⟨_, (false), Q4, H', ⟨Q6⟩, ⟨Q12⟩, ⟨Q35⟩⟩
   case rest =>
    clear HC4
    try clear p2
    try clear c5
    try clear c5b0
    try clear p2
    obtain ⟨kq, x14_3, rfl, HA, HJ3, HO_3, HB⟩ := hcut
    cases kq with
    | zero => exact absurd HA.out (by simp [spec_BatchTimes.j1])
    | succ kj3 =>
     have H := HA.out
     clear HA
     simp only [spec_BatchTimes.j1] at H
     by_cases c8 : x14_3 = true
     ·subst c8
      have H1 : (spec_BatchTimes.l1 kj3 l0 x3_1 x4_1 0) = some r := by rw [if_pos rfl] at H; exact H
      clear H
      have H := H1
      clear H1
      have H' := Aside0.mk H
      clear H
      go_wp2
      repeat (go_quiet (fail); try go_wp2)
      go_loopg [3, 5] kj3 (fun kq v3 v5 w' => ∃ (x3_3 : List (S36)) (x5_3 : Int), v5 = .int .i64 x5_3 ∧ Aside0 (spec_BatchTimes.l1 kq l0 x3_3 x4_1 x5_3 = some r) ∧ Aside0 (kq ≤ kj3) ∧ Aside0 (Kd.R k36 36 w' w.heap.size (fun _ => True) v3 x3_3) ∧ Aside0 (Below w.heap.size w w'))
      case atStart => exact ⟨(x3_1), (0), Q4, H', ⟨Nat.le_refl _⟩, ⟨Q12⟩, ⟨Q35⟩⟩
      case round =>
       clear H'
       try clear p2
       try clear c5
       try clear c5b0
       try clear c8
       try clear p2
       obtain ⟨x3_3, x5_3, rfl, HA, HK3, HO_3, HB⟩ := hrel
       cases gk with
       | zero => exact absurd HA.out (by simp [spec_BatchTimes.l1])
       | succ k3 =>
        have H := HA.out
        clear HA
        simp only [spec_BatchTimes.l1] at H
        by_cases c9 : x5_3 ≤ 7
        ·rw [if_pos c9] at H
         have c9b0 : decide (x5_3 ≤ 7) = true := decide_eq_true c9
         clear c9
         have H' := Aside0.mk H
         clear H
         go_wp2_with (first | ((with_reducible refine gate_dst (N := 6) rfl ?_); refine bE_ 6 #[.int .i64 0, .int .i64 0] 36 ?_; intro gb141 hg w10 hbox hb; replace HO_3 := am (Kd.R_below (Kd.R_elderB Q12 gb141 (Nat.le_of_eq hg.symm)) hb); have BK141 := am (hbox); have GW141 := am ((Q82 : w.heap.size ≤ gb141)); replace HB := am (below_step Q35 hb); have GE141 := GW141; clear hb hbox hg; obtain ⟨hcz11_0, hcz11_1, hfz11_0, hfz11_1⟩ := bx2_ BK141))
         repeat (go_quiet (first | ((with_reducible refine gate_dst (N := 6) rfl ?_); refine bE_ 6 #[.int .i64 0, .int .i64 0] 36 ?_; intro gb141 hg w10 hbox hb; replace HO_3 := am (Kd.R_below (Kd.R_elderB Q12 gb141 (Nat.le_of_eq hg.symm)) hb); have BK141 := am (hbox); have GW141 := am ((Q82 : w.heap.size ≤ gb141)); replace HB := am (below_step Q35 hb); have GE141 := GW141; clear hb hbox hg; obtain ⟨hcz11_0, hcz11_1, hfz11_0, hfz11_1⟩ := bx2_ BK141)); try go_wp2_with (first | ((with_reducible refine gate_dst (N := 6) rfl ?_); refine bE_ 6 #[.int .i64 0, .int .i64 0] 36 ?_; intro gb141 hg w10 hbox hb; replace HO_3 := am (Kd.R_below (Kd.R_elderB Q12 gb141 (Nat.le_of_eq hg.symm)) hb); have BK141 := am (hbox); have GW141 := am ((Q82 : w.heap.size ≤ gb141)); replace HB := am (below_step Q35 hb); have GE141 := GW141; clear hb hbox hg; obtain ⟨hcz11_0, hcz11_1, hfz11_0, hfz11_1⟩ := bx2_ BK141)))
         go_loopg [3, 7] k3 (fun kq v3 v7 w' => ∃ (x3_4 : List (S36)) (x7_4 : Int), v7 = .int .i64 x7_4 ∧ Aside0 (spec_BatchTimes.l2 kq l0 x3_4 x4_1 x5_3 x7_4 x4_1 x5_3 = some r) ∧ Aside0 (kq ≤ k3) ∧ Aside0 (Kd.R k36 36 w' w.heap.size (fun k_ => k_ ≠ gb141) v3 x3_4) ∧ Aside0 (w'.heap[gb141]? = some (.cells #[.int .i64 x4_1, .int .i64 x5_3] 36 (0, 0))) ∧ Aside0 (Below w.heap.size w w'))
         case atStart => exact ⟨(x3_3), (0), Q4, H', ⟨Nat.le_refl _⟩, ⟨by (with_reducible repeat (first | apply Kd.R_alloc | apply Kd.R_drewN | apply Kd.R_drew)); exact Kd.R_mono (Kd.R_far (p := ⟨gb141, 1, none⟩) (Kd.R_far (p := ⟨gb141, 0, none⟩) (Kd.R_mono HO_3.out (fun k_ hk => (⟨hk, hk.2⟩ : _ ∧ k_ ≠ gb141))) (fun _ hk => hk.2) (.int .i64 x4_1)) (fun _ hk => hk.2) (.int .i64 x5_3)) (fun _ hk => hk.1.2)⟩, ⟨by (with_reducible repeat (first | refine blk_drewN ?_ _ | refine blk_drew ?_ | refine blk_alloc ?_ _)); refine blk_put (cs := #[.int .i64 x4_1, .int .i64 0]) ?_ 1 _ rfl; (with_reducible repeat (first | refine blk_drewN ?_ _ | refine blk_drew ?_ | refine blk_alloc ?_ _)); refine blk_put (cs := #[.int .i64 0, .int .i64 0]) ?_ 0 _ rfl; (with_reducible repeat (first | refine blk_drewN ?_ _ | refine blk_drew ?_ | refine blk_alloc ?_ _)); exact BK141.out⟩, ⟨Q47⟩⟩
         case round =>
          clear H'
          try clear p2
          try clear c5
          try clear c5b0
          try clear c8
          try clear c9
          try clear c9b0
          try clear hcz11_0
          try clear hcz11_1
          try clear hfz11_0
          try clear hfz11_1
          try clear p2
          obtain ⟨x3_4, x7_4, rfl, HA, HK4, HO_3, BK141, HB⟩ := hrel
          cases gk with
          | zero => exact absurd HA.out (by simp [spec_BatchTimes.l2])
          | succ k4 =>
           have H := HA.out
           clear HA
           simp only [spec_BatchTimes.l2] at H
           by_cases c12 : x7_4 < (l0.length : Int)
           ·rw [if_pos c12] at H
            have c12b0 : decide (x7_4 < (l0.length : Int)) = true := decide_eq_true c12
            clear c12
            have c13 : 0 ≤ x7_4 := nn_ H
            rw [if_pos c13] at H
            have c13b0 : decide (0 ≤ x7_4) = true := decide_eq_true c13
            clear c13
            by_cases c14 : (((rd_T90 l0 x7_4).f2.f0) == x4_1 && (((rd_T90 l0 x7_4).f2.f1) == x5_3)) = true
            ·rw [if_pos c14] at H
             have c14b0 : (((rd_T90 l0 x7_4).f2.f0) == x4_1 && (((rd_T90 l0 x7_4).f2.f1) == x5_3)) = true := c14
             (try (have c14b1 : decide (((rd_T90 l0 x7_4).f2.f0) = x4_1 && (((rd_T90 l0 x7_4).f2.f1) == x5_3)) = true := by simpa using c14))
             (try (have c14b2 : (((rd_T90 l0 x7_4).f2.f0) == x4_1 && (((rd_T90 l0 x7_4).f2.f1) == x5_3)) = true := by simpa using c14))
             clear c14
             have c15 : x3_4.length < 8796093022208 := nn_ H
             rw [if_pos c15] at H
             have LMc15 := Aside0.mk c15
             clear c15
             obtain ⟨y143, hy_⟩ : ∃ y_ : List (S36), y_ = (x3_4 ++ [(⟨x4_1, x5_3⟩ : S36)]) := ⟨_, rfl⟩
             replace H : (spec_BatchTimes.l1 k4 l0 y143 x4_1 (wrap64 (x5_3 + 1))) = some r := Q74
             have Ny143 := Aside0.mk hy_
             clear hy_
             have H' := Aside0.mk H
             clear H
             have p142 : 0 ≤ (x7_4 : Int) := of_decide_eq_true Q5
             have q142 : x7_4 < (l0.length : Int) := of_decide_eq_true Q5
             obtain ⟨ad142, e142, hx142_0, hx142_1, hx142_2, hx142_3, hx142_4⟩ := at_T90 HR0.out x7_4 p142 q142
             cases e142
             replace hx142_0 := (HB.out.cell (World.block_lt_of_cell? w _ hx142_0)).trans hx142_0
             replace hx142_1 := (HB.out.cell (World.block_lt_of_cell? w _ hx142_1)).trans hx142_1
             replace hx142_2 := (HB.out.cell (World.block_lt_of_cell? w _ hx142_2)).trans hx142_2
             replace hx142_3 := (HB.out.cell (World.block_lt_of_cell? w _ hx142_3)).trans hx142_3
             replace hx142_4 := (HB.out.cell (World.block_lt_of_cell? w _ hx142_4)).trans hx142_4
             replace p142 := eq_true p142
             replace q142 := eq_true q142
             have hcz16_0 : wr.cell? ⟨gb141, 0, none⟩ = some (.int .i64 x4_1) := (blk_cell BK141.out 0).trans rfl
             have hcz16_1 : wr.cell? ⟨gb141, 1, none⟩ = some (.int .i64 x5_3) := (blk_cell BK141.out 1).trans rfl
             have hfz16_0 := blk_frozen BK141.out 0
             have hfz16_1 := blk_frozen BK141.out 1
             go_wp2_with (first | ((with_reducible refine gate_builtin (b := .append) (xs := #[.tmp 37, .tmp 39]) rfl ?_); at_builtin; refine Kd.R_append k36 (w0 := w) w.heap.size rfl (.tmp 37) (.tmp 39) 24 36 (.agg #[(.int .i64 0), (.int .i64 0)]) 16 rfl Try.underlying24 info36 rfl Q0 (by omega) u3 x3_4 (⟨x4_1, x5_3⟩ : S36) [.int .i64 x4_1, .int .i64 x5_3] (fun k_ => k_ ≠ gb141) (fun _ => False) rfl rfl ?aP (fun _ hk => hk.elim) ?aF ?aO ?aB ?aS ?aL ?_; (case aP => exact k36_mkM _ _ _ (⟨x4_1, x5_3⟩ : S36)); (case aB => exact Q47); (case aF => exact (fun k_ hk => Kd.freshB (g := gb141) (o := .cells #[.int .i64 x4_1, .int .i64 x5_3] 36 (0, 0)) Q27 k_ hk)); (case aO => exact Q12); (case aS => exact (below_size Q47)); (case aL => have := LMc15.out; omega); intro v144 w17 ho hb hg hat; rw [← Ny143.out] at ho; replace BK141 := am (blk_grown (g := gb141) (o := .cells #[.int .i64 x4_1, .int .i64 x5_3] 36 (0, 0)) Q27 hg (Kd.R_away HO_3.out (fun _ hk => hk))); replace HB := am (hb); have HO145 := am (ho); clear HO_3; clear ho hb hg hat))
             repeat (go_quiet (first | ((with_reducible refine gate_builtin (b := .append) (xs := #[.tmp 37, .tmp 39]) rfl ?_); at_builtin; refine Kd.R_append k36 (w0 := w) w.heap.size rfl (.tmp 37) (.tmp 39) 24 36 (.agg #[(.int .i64 0), (.int .i64 0)]) 16 rfl Try.underlying24 info36 rfl Q0 (by omega) u3 x3_4 (⟨x4_1, x5_3⟩ : S36) [.int .i64 x4_1, .int .i64 x5_3] (fun k_ => k_ ≠ gb141) (fun _ => False) rfl rfl ?aP (fun _ hk => hk.elim) ?aF ?aO ?aB ?aS ?aL ?_; (case aP => exact k36_mkM _ _ _ (⟨x4_1, x5_3⟩ : S36)); (case aB => exact Q47); (case aF => exact (fun k_ hk => Kd.freshB (g := gb141) (o := .cells #[.int .i64 x4_1, .int .i64 x5_3] 36 (0, 0)) Q27 k_ hk)); (case aO => exact Q12); (case aS => exact (below_size Q47)); (case aL => have := LMc15.out; omega); intro v144 w17 ho hb hg hat; rw [← Ny143.out] at ho; replace BK141 := am (blk_grown (g := gb141) (o := .cells #[.int .i64 x4_1, .int .i64 x5_3] 36 (0, 0)) Q27 hg (Kd.R_away HO_3.out (fun _ hk => hk))); replace HB := am (hb); have HO145 := am (ho); clear HO_3; clear ho hb hg hat)); try go_wp2_with (first | ((with_reducible refine gate_builtin (b := .append) (xs := #[.tmp 37, .tmp 39]) rfl ?_); at_builtin; refine Kd.R_append k36 (w0 := w) w.heap.size rfl (.tmp 37) (.tmp 39) 24 36 (.agg #[(.int .i64 0), (.int .i64 0)]) 16 rfl Try.underlying24 info36 rfl Q0 (by omega) u3 x3_4 (⟨x4_1, x5_3⟩ : S36) [.int .i64 x4_1, .int .i64 x5_3] (fun k_ => k_ ≠ gb141) (fun _ => False) rfl rfl ?aP (fun _ hk => hk.elim) ?aF ?aO ?aB ?aS ?aL ?_; (case aP => exact k36_mkM _ _ _ (⟨x4_1, x5_3⟩ : S36)); (case aB => exact Q47); (case aF => exact (fun k_ hk => Kd.freshB (g := gb141) (o := .cells #[.int .i64 x4_1, .int .i64 x5_3] 36 (0, 0)) Q27 k_ hk)); (case aO => exact Q12); (case aS => exact (below_size Q47)); (case aL => have := LMc15.out; omega); intro v144 w17 ho hb hg hat; rw [← Ny143.out] at ho; replace BK141 := am (blk_grown (g := gb141) (o := .cells #[.int .i64 x4_1, .int .i64 x5_3] 36 (0, 0)) Q27 hg (Kd.R_away HO_3.out (fun _ hk => hk))); replace HB := am (hb); have HO145 := am (ho); clear HO_3; clear ho hb hg hat)))
             go_roundg k4
             case measure => have := HK1.out; have := HJ3.out; have := HK3.out; have := HK4.out; omega
             case rel => exact ⟨(y143), (wrap64 (x5_3 + 1)), Q4, H', ⟨Q8⟩, ⟨by (with_reducible repeat (first | apply Kd.R_alloc | apply Kd.R_drewN | apply Kd.R_drew)); exact Kd.R_mono HO145.out (fun _ hk => trivial)⟩, ⟨Q47⟩⟩
            ·rw [if_neg c14] at H
             have c14b0 : (((rd_T90 l0 x7_4).f2.f0) == x4_1 && (((rd_T90 l0 x7_4).f2.f1) == x5_3)) = false := by simpa using c14
             (try (have c14b1 : decide (((rd_T90 l0 x7_4).f2.f0) = x4_1 && (((rd_T90 l0 x7_4).f2.f1) == x5_3)) = false := by simpa using c14))
             (try (have c14b2 : (((rd_T90 l0 x7_4).f2.f0) == x4_1 && (((rd_T90 l0 x7_4).f2.f1) == x5_3)) = false := by simpa using c14))
             (try (have c14b3 : ¬ (((rd_T90 l0 x7_4).f2.f0) = x4_1 && (((rd_T90 l0 x7_4).f2.f1) == x5_3)) := by simpa using c14))
             clear c14
             have H' := Aside0.mk H
             clear H
             have p142 : 0 ≤ (x7_4 : Int) := of_decide_eq_true Q5
             have q142 : x7_4 < (l0.length : Int) := of_decide_eq_true Q5
             obtain ⟨ad142, e142, hx142_0, hx142_1, hx142_2, hx142_3, hx142_4⟩ := at_T90 HR0.out x7_4 p142 q142
             cases e142
             replace hx142_0 := (HB.out.cell (World.block_lt_of_cell? w _ hx142_0)).trans hx142_0
             replace hx142_1 := (HB.out.cell (World.block_lt_of_cell? w _ hx142_1)).trans hx142_1
             replace hx142_2 := (HB.out.cell (World.block_lt_of_cell? w _ hx142_2)).trans hx142_2
             replace hx142_3 := (HB.out.cell (World.block_lt_of_cell? w _ hx142_3)).trans hx142_3
             replace hx142_4 := (HB.out.cell (World.block_lt_of_cell? w _ hx142_4)).trans hx142_4
             replace p142 := eq_true p142
             replace q142 := eq_true q142
             have hcz18_0 : wr.cell? ⟨gb141, 0, none⟩ = some (.int .i64 x4_1) := (blk_cell BK141.out 0).trans rfl
             have hcz18_1 : wr.cell? ⟨gb141, 1, none⟩ = some (.int .i64 x5_3) := (blk_cell BK141.out 1).trans rfl
             have hfz18_0 := blk_frozen BK141.out 0
             have hfz18_1 := blk_frozen BK141.out 1
             go_wp2
             repeat (go_quiet (fail); try go_wp2)
             go_roundg k4
             case measure => have := HK1.out; have := HJ3.out; have := HK3.out; have := HK4.out; omega
             case rel => exact ⟨(x3_4), (wrap64 (x7_4 + 1)), Q4, H', ⟨Q8⟩, ⟨Q12⟩, ⟨Q27⟩, ⟨Q47⟩⟩
           ·rw [if_neg c12] at H
            have c12b0 : decide (x7_4 < (l0.length : Int)) = false := decide_eq_false c12
            clear c12
            have H' := Aside0.mk H
            clear H
            go_wp2
            repeat (go_quiet (fail); try go_wp2)
            go_roundg k4
            case measure => have := HK1.out; have := HJ3.out; have := HK3.out; have := HK4.out; omega
            case rel => exact ⟨(x3_4), (wrap64 (x5_3 + 1)), Q4, H', ⟨Q8⟩, ⟨by (with_reducible repeat (first | apply Kd.R_alloc | apply Kd.R_drewN | apply Kd.R_drew)); exact Kd.R_mono HO_3.out (fun _ hk => trivial)⟩, ⟨Q47⟩⟩
        ·rw [if_neg c9] at H
         have c9b0 : decide (x5_3 ≤ 7) = false := decide_eq_false c9
         clear c9
         have H' := Aside0.mk H
         clear H
         go_wp2
         repeat (go_quiet (fail); try go_wp2)
         go_roundg k3
         case measure => have := HK1.out; have := HJ3.out; have := HK3.out; omega
         case rel => exact ⟨(x3_3), (wrap64 (x4_1 + 1)), Q4, H', ⟨by have := HK1.out; have := HJ3.out; have := HK3.out; omega⟩, ⟨Q12⟩, ⟨Q35⟩⟩
     ·replace c8 := Bool.eq_false_iff.mpr c8
      subst c8
      have H1 : (some x3_1) = some r := by rw [if_neg (show ¬ (false = true) by decide)] at H; exact H
      clear H
      have H := H1
      clear H1
      obtain rfl := Option.some.inj H
      go_wp2
      repeat (go_quiet (fail); try go_wp2)
      go_ret
      exact ⟨_, Q9, Q12, Q35⟩
def impl_RowsOk.l0 : Nat → List (S90) → List (S90) → Int → Int → Option (Bool)
 | 0, _, _, _, _ => none
 | k + 1, x0, x5, x6, x7 => if x7 < x6 then (if 0 ≤ x7 then (if x7 < (x5.length : Int) then (if ((rd_T90 x5 x7).f0) < 0 then (some false) else (if ((rd_T90 x5 x7).f0) ≥ 4 then (some false) else (if ((rd_T90 x5 x7).f1) < 0 then (some false) else (if ((rd_T90 x5 x7).f1) ≥ 100 then (some false) else ((impl_TimeOk.f ((rd_T90 x5 x7).f2.f0) ((rd_T90 x5 x7).f2.f1)).bind fun t148 => (if t148 = true then (if ((rd_T90 x5 x7).f3) < (-99999) then (some false) else (if ((rd_T90 x5 x7).f3) > 99999 then (some false) else (impl_RowsOk.l0 k x0 x5 x6 (wrap64 (x7 + 1))))) else (some false))))))) else (none)) else (none)) else (some (decide ((x0.length : Int) ≤ 400)))
def impl_RowsOk.f (k : Nat) (l0 : List (S90)) : Option (Bool) := impl_RowsOk.l0 k l0 l0 (l0.length : Int) 0
set_option maxHeartbeats 8000000 in
set_option maxRecDepth 100000 in
theorem impl_RowsOk.calls (k : Nat) (A0 : Option Addr) (c0 : Nat) (l0 : List (S90)) (r : Bool) (w : World) (hr0 : Kd.C k90 w A0 l0.length l0) (hc0 : l0.length ≤ c0) (h : impl_RowsOk.f k l0 = some r) :
  Calls Try.prog 87 #[.slice A0 l0.length c0] w fun e w' => e = .returned (.bool r) ∧ Below w.heap.size w w' := by
 have hu90 := Try.underlying90
 have hu36 := Try.underlying36
 have HR0 := Aside0.mk hr0
 have HC0 := Aside0.mk hc0
 clear hr0 hc0
 have HB := am (Below.refl w.heap.size w)
 have H : (impl_RowsOk.l0 k l0 l0 (l0.length : Int) 0) = some r := h
 clear h
 have H' := Aside0.mk H
 clear H
 go_enter Try.func87, Try.ntmps87
 go_wp2
 go_loopg [7] k (fun kq v7 w' => ∃ (x7_1 : Int), v7 = .int .i64 x7_1 ∧ Aside0 (impl_RowsOk.l0 kq l0 l0 (l0.length : Int) x7_1 = some r) ∧ Aside0 (kq ≤ k) ∧ Aside0 (Below w.heap.size w w'))
 case atStart => exact ⟨(0), Q4, H', ⟨Nat.le_refl _⟩, ⟨Q35⟩⟩
 case round =>
  clear H'
  obtain ⟨x7_1, rfl, HA, HK1, HB⟩ := hrel
  cases gk with
  | zero => exact absurd HA.out (by simp [impl_RowsOk.l0])
  | succ k1 =>
   have H := HA.out
   clear HA
   simp only [impl_RowsOk.l0] at H
   by_cases c2 : x7_1 < (l0.length : Int)
   ·rw [if_pos c2] at H
    have c2b0 : decide (x7_1 < (l0.length : Int)) = true := decide_eq_true c2
    clear c2
    have c3 : 0 ≤ x7_1 := nn_ H
    rw [if_pos c3] at H
    have c3b0 : decide (0 ≤ x7_1) = true := decide_eq_true c3
    clear c3
    have c4 : x7_1 < (l0.length : Int) := nn_ H
    rw [if_pos c4] at H
    have c4b0 : decide (x7_1 < (l0.length : Int)) = true := decide_eq_true c4
    clear c4
    by_cases c5 : ((rd_T90 l0 x7_1).f0) < 0
    ·rw [if_pos c5] at H
     have c5b0 : decide (((rd_T90 l0 x7_1).f0) < 0) = true := decide_eq_true c5
     clear c5
     obtain rfl := Option.some.inj H
     have p146 : 0 ≤ (x7_1 : Int) := of_decide_eq_true Q5
     have q146 : x7_1 < (l0.length : Int) := of_decide_eq_true Q5
     obtain ⟨ad146, e146, hx146_0, hx146_1, hx146_2, hx146_3, hx146_4⟩ := at_T90 HR0.out x7_1 p146 q146
     cases e146
     replace hx146_0 := (HB.out.cell (World.block_lt_of_cell? w _ hx146_0)).trans hx146_0
     replace hx146_1 := (HB.out.cell (World.block_lt_of_cell? w _ hx146_1)).trans hx146_1
     replace hx146_2 := (HB.out.cell (World.block_lt_of_cell? w _ hx146_2)).trans hx146_2
     replace hx146_3 := (HB.out.cell (World.block_lt_of_cell? w _ hx146_3)).trans hx146_3
     replace hx146_4 := (HB.out.cell (World.block_lt_of_cell? w _ hx146_4)).trans hx146_4
     replace p146 := eq_true p146
     replace q146 := eq_true q146
     go_wp2_with (first | ((with_reducible refine gate_dst (N := 4) rfl ?_); refine bE_ 4 #[.int .i64 0, .int .i64 0, .int .i64 0, .int .i64 0, .int .i64 0] 90 ?_; intro gb147 hg w6 hbox hb; have BK147 := am (hbox); have GW147 := am ((Q82 : w.heap.size ≤ gb147)); replace HB := am (below_step Q35 hb); have GE147 := GW147; clear hb hbox hg; obtain ⟨hcz7_0, hcz7_1, hcz7_2, hcz7_3, hcz7_4, hfz7_0, hfz7_1, hfz7_2, hfz7_3, hfz7_4⟩ := bx5_ BK147))
     go_ret
     exact ⟨Q9, Q48⟩
    ·rw [if_neg c5] at H
     have c5b0 : decide (((rd_T90 l0 x7_1).f0) < 0) = false := decide_eq_false c5
     clear c5
     by_cases c8 : ((rd_T90 l0 x7_1).f0) ≥ 4
     ·rw [if_pos c8] at H
      have c8b0 : decide (4 ≤ ((rd_T90 l0 x7_1).f0)) = true := decide_eq_true c8
      clear c8
      obtain rfl := Option.some.inj H
      have p146 : 0 ≤ (x7_1 : Int) := of_decide_eq_true Q5
      have q146 : x7_1 < (l0.length : Int) := of_decide_eq_true Q5
      obtain ⟨ad146, e146, hx146_0, hx146_1, hx146_2, hx146_3, hx146_4⟩ := at_T90 HR0.out x7_1 p146 q146
      cases e146
      replace hx146_0 := (HB.out.cell (World.block_lt_of_cell? w _ hx146_0)).trans hx146_0
      replace hx146_1 := (HB.out.cell (World.block_lt_of_cell? w _ hx146_1)).trans hx146_1
      replace hx146_2 := (HB.out.cell (World.block_lt_of_cell? w _ hx146_2)).trans hx146_2
      replace hx146_3 := (HB.out.cell (World.block_lt_of_cell? w _ hx146_3)).trans hx146_3
      replace hx146_4 := (HB.out.cell (World.block_lt_of_cell? w _ hx146_4)).trans hx146_4
      replace p146 := eq_true p146
      replace q146 := eq_true q146
      go_wp2_with (first | ((with_reducible refine gate_dst (N := 4) rfl ?_); refine bE_ 4 #[.int .i64 0, .int .i64 0, .int .i64 0, .int .i64 0, .int .i64 0] 90 ?_; intro gb147 hg w9 hbox hb; have BK147 := am (hbox); have GW147 := am ((Q82 : w.heap.size ≤ gb147)); replace HB := am (below_step Q35 hb); have GE147 := GW147; clear hb hbox hg; obtain ⟨hcz10_0, hcz10_1, hcz10_2, hcz10_3, hcz10_4, hfz10_0, hfz10_1, hfz10_2, hfz10_3, hfz10_4⟩ := bx5_ BK147))
      go_ret
      exact ⟨Q9, Q48⟩
     ·rw [if_neg c8] at H
      have c8b0 : decide (4 ≤ ((rd_T90 l0 x7_1).f0)) = false := decide_eq_false c8
      clear c8
      by_cases c11 : ((rd_T90 l0 x7_1).f1) < 0
      ·rw [if_pos c11] at H
       have c11b0 : decide (((rd_T90 l0 x7_1).f1) < 0) = true := decide_eq_true c11
       clear c11
       obtain rfl := Option.some.inj H
       have p146 : 0 ≤ (x7_1 : Int) := of_decide_eq_true Q5
       have q146 : x7_1 < (l0.length : Int) := of_decide_eq_true Q5
       obtain ⟨ad146, e146, hx146_0, hx146_1, hx146_2, hx146_3, hx146_4⟩ := at_T90 HR0.out x7_1 p146 q146
       cases e146
       replace hx146_0 := (HB.out.cell (World.block_lt_of_cell? w _ hx146_0)).trans hx146_0
       replace hx146_1 := (HB.out.cell (World.block_lt_of_cell? w _ hx146_1)).trans hx146_1
       replace hx146_2 := (HB.out.cell (World.block_lt_of_cell? w _ hx146_2)).trans hx146_2
       replace hx146_3 := (HB.out.cell (World.block_lt_of_cell? w _ hx146_3)).trans hx146_3
       replace hx146_4 := (HB.out.cell (World.block_lt_of_cell? w _ hx146_4)).trans hx146_4
       replace p146 := eq_true p146
       replace q146 := eq_true q146
       go_wp2_with (first | ((with_reducible refine gate_dst (N := 4) rfl ?_); refine bE_ 4 #[.int .i64 0, .int .i64 0, .int .i64 0, .int .i64 0, .int .i64 0] 90 ?_; intro gb147 hg w12 hbox hb; have BK147 := am (hbox); have GW147 := am ((Q82 : w.heap.size ≤ gb147)); replace HB := am (below_step Q35 hb); have GE147 := GW147; clear hb hbox hg; obtain ⟨hcz13_0, hcz13_1, hcz13_2, hcz13_3, hcz13_4, hfz13_0, hfz13_1, hfz13_2, hfz13_3, hfz13_4⟩ := bx5_ BK147))
       go_ret
       exact ⟨Q9, Q48⟩
      ·rw [if_neg c11] at H
       have c11b0 : decide (((rd_T90 l0 x7_1).f1) < 0) = false := decide_eq_false c11
       clear c11
       by_cases c14 : ((rd_T90 l0 x7_1).f1) ≥ 100
       ·rw [if_pos c14] at H
        have c14b0 : decide (100 ≤ ((rd_T90 l0 x7_1).f1)) = true := decide_eq_true c14
        clear c14
        obtain rfl := Option.some.inj H
        have p146 : 0 ≤ (x7_1 : Int) := of_decide_eq_true Q5
        have q146 : x7_1 < (l0.length : Int) := of_decide_eq_true Q5
        obtain ⟨ad146, e146, hx146_0, hx146_1, hx146_2, hx146_3, hx146_4⟩ := at_T90 HR0.out x7_1 p146 q146
        cases e146
        replace hx146_0 := (HB.out.cell (World.block_lt_of_cell? w _ hx146_0)).trans hx146_0
        replace hx146_1 := (HB.out.cell (World.block_lt_of_cell? w _ hx146_1)).trans hx146_1
        replace hx146_2 := (HB.out.cell (World.block_lt_of_cell? w _ hx146_2)).trans hx146_2
        replace hx146_3 := (HB.out.cell (World.block_lt_of_cell? w _ hx146_3)).trans hx146_3
        replace hx146_4 := (HB.out.cell (World.block_lt_of_cell? w _ hx146_4)).trans hx146_4
        replace p146 := eq_true p146
        replace q146 := eq_true q146
        go_wp2_with (first | ((with_reducible refine gate_dst (N := 4) rfl ?_); refine bE_ 4 #[.int .i64 0, .int .i64 0, .int .i64 0, .int .i64 0, .int .i64 0] 90 ?_; intro gb147 hg w15 hbox hb; have BK147 := am (hbox); have GW147 := am ((Q82 : w.heap.size ≤ gb147)); replace HB := am (below_step Q35 hb); have GE147 := GW147; clear hb hbox hg; obtain ⟨hcz16_0, hcz16_1, hcz16_2, hcz16_3, hcz16_4, hfz16_0, hfz16_1, hfz16_2, hfz16_3, hfz16_4⟩ := bx5_ BK147))
        go_ret
        exact ⟨Q9, Q48⟩
       ·rw [if_neg c14] at H
        have c14b0 : decide (100 ≤ ((rd_T90 l0 x7_1).f1)) = false := decide_eq_false c14
        clear c14
        replace H := Option.bind_eq_some_iff.mp H
        obtain ⟨t148, A170, H⟩ := H
        replace H : (if t148 = true then (if ((rd_T90 l0 x7_1).f3) < (-99999) then (some false) else (if ((rd_T90 l0 x7_1).f3) > 99999 then (some false) else (impl_RowsOk.l0 k1 l0 l0 (l0.length : Int) (wrap64 (x7_1 + 1))))) else (some false)) = some r := H
        have A17 := Aside0.mk A170
        clear A170
        by_cases c18 : t148 = true
        ·subst c18
         have H1 : (if ((rd_T90 l0 x7_1).f3) < (-99999) then (some false) else (if ((rd_T90 l0 x7_1).f3) > 99999 then (some false) else (impl_RowsOk.l0 k1 l0 l0 (l0.length : Int) (wrap64 (x7_1 + 1))))) = some r := by rw [if_pos rfl] at H; exact H
         clear H
         have H := H1
         clear H1
         by_cases c19 : ((rd_T90 l0 x7_1).f3) < (-99999)
         ·rw [if_pos c19] at H
          have c19b0 : decide (((rd_T90 l0 x7_1).f3) < (-99999)) = true := decide_eq_true c19
          clear c19
          obtain rfl := Option.some.inj H
          have p146 : 0 ≤ (x7_1 : Int) := of_decide_eq_true Q5
          have q146 : x7_1 < (l0.length : Int) := of_decide_eq_true Q5
          obtain ⟨ad146, e146, hx146_0, hx146_1, hx146_2, hx146_3, hx146_4⟩ := at_T90 HR0.out x7_1 p146 q146
          cases e146
          replace hx146_0 := (HB.out.cell (World.block_lt_of_cell? w _ hx146_0)).trans hx146_0
          replace hx146_1 := (HB.out.cell (World.block_lt_of_cell? w _ hx146_1)).trans hx146_1
          replace hx146_2 := (HB.out.cell (World.block_lt_of_cell? w _ hx146_2)).trans hx146_2
          replace hx146_3 := (HB.out.cell (World.block_lt_of_cell? w _ hx146_3)).trans hx146_3
          replace hx146_4 := (HB.out.cell (World.block_lt_of_cell? w _ hx146_4)).trans hx146_4
          replace p146 := eq_true p146
          replace q146 := eq_true q146
          go_wp2_with (first | ((with_reducible refine gate_dst (N := 4) rfl ?_); refine bE_ 4 #[.int .i64 0, .int .i64 0, .int .i64 0, .int .i64 0, .int .i64 0] 90 ?_; intro gb147 hg w20 hbox hb; have BK147 := am (hbox); have GW147 := am ((Q82 : w.heap.size ≤ gb147)); replace HB := am (below_step Q35 hb); have GE147 := GW147; clear hb hbox hg; obtain ⟨hcz21_0, hcz21_1, hcz21_2, hcz21_3, hcz21_4, hfz21_0, hfz21_1, hfz21_2, hfz21_3, hfz21_4⟩ := bx5_ BK147) | (go_at_call 61; (with_reducible refine (impl_TimeOk.calls ((rd_T90 l0 x7_1).f2.f0) ((rd_T90 l0 x7_1).f2.f1) true _ A17.out).mono ?_); rintro e w22 ⟨rfl, hb⟩; replace BK147 := am (blk_below (g := gb147) (o := .cells #[.int .i64 ((rd_T90 l0 x7_1).f0), .int .i64 ((rd_T90 l0 x7_1).f1), .int .i64 ((rd_T90 l0 x7_1).f2.f0), .int .i64 ((rd_T90 l0 x7_1).f2.f1), .int .i64 ((rd_T90 l0 x7_1).f3)] 90 (0, 0)) Q81 hb); replace HB := am (below_step Q48 hb); (try clear hb); obtain ⟨hcz23_0, hcz23_1, hcz23_2, hcz23_3, hcz23_4, hfz23_0, hfz23_1, hfz23_2, hfz23_3, hfz23_4⟩ := bx5_ BK147))
          go_ret
          exact ⟨Q9, Q48⟩
         ·rw [if_neg c19] at H
          have c19b0 : decide (((rd_T90 l0 x7_1).f3) < (-99999)) = false := decide_eq_false c19
          clear c19
          by_cases c24 : ((rd_T90 l0 x7_1).f3) > 99999
          ·rw [if_pos c24] at H
           have c24b0 : decide (99999 < ((rd_T90 l0 x7_1).f3)) = true := decide_eq_true c24
           clear c24
           obtain rfl := Option.some.inj H
           have p146 : 0 ≤ (x7_1 : Int) := of_decide_eq_true Q5
           have q146 : x7_1 < (l0.length : Int) := of_decide_eq_true Q5
           obtain ⟨ad146, e146, hx146_0, hx146_1, hx146_2, hx146_3, hx146_4⟩ := at_T90 HR0.out x7_1 p146 q146
           cases e146
           replace hx146_0 := (HB.out.cell (World.block_lt_of_cell? w _ hx146_0)).trans hx146_0
           replace hx146_1 := (HB.out.cell (World.block_lt_of_cell? w _ hx146_1)).trans hx146_1
           replace hx146_2 := (HB.out.cell (World.block_lt_of_cell? w _ hx146_2)).trans hx146_2
           replace hx146_3 := (HB.out.cell (World.block_lt_of_cell? w _ hx146_3)).trans hx146_3
           replace hx146_4 := (HB.out.cell (World.block_lt_of_cell? w _ hx146_4)).trans hx146_4
           replace p146 := eq_true p146
           replace q146 := eq_true q146
           go_wp2_with (first | ((with_reducible refine gate_dst (N := 4) rfl ?_); refine bE_ 4 #[.int .i64 0, .int .i64 0, .int .i64 0, .int .i64 0, .int .i64 0] 90 ?_; intro gb147 hg w25 hbox hb; have BK147 := am (hbox); have GW147 := am ((Q82 : w.heap.size ≤ gb147)); replace HB := am (below_step Q35 hb); have GE147 := GW147; clear hb hbox hg; obtain ⟨hcz26_0, hcz26_1, hcz26_2, hcz26_3, hcz26_4, hfz26_0, hfz26_1, hfz26_2, hfz26_3, hfz26_4⟩ := bx5_ BK147) | (go_at_call 61; (with_reducible refine (impl_TimeOk.calls ((rd_T90 l0 x7_1).f2.f0) ((rd_T90 l0 x7_1).f2.f1) true _ A17.out).mono ?_); rintro e w27 ⟨rfl, hb⟩; replace BK147 := am (blk_below (g := gb147) (o := .cells #[.int .i64 ((rd_T90 l0 x7_1).f0), .int .i64 ((rd_T90 l0 x7_1).f1), .int .i64 ((rd_T90 l0 x7_1).f2.f0), .int .i64 ((rd_T90 l0 x7_1).f2.f1), .int .i64 ((rd_T90 l0 x7_1).f3)] 90 (0, 0)) Q81 hb); replace HB := am (below_step Q48 hb); (try clear hb); obtain ⟨hcz28_0, hcz28_1, hcz28_2, hcz28_3, hcz28_4, hfz28_0, hfz28_1, hfz28_2, hfz28_3, hfz28_4⟩ := bx5_ BK147))
           go_ret
           exact ⟨Q9, Q48⟩
          ·rw [if_neg c24] at H
           have c24b0 : decide (99999 < ((rd_T90 l0 x7_1).f3)) = false := decide_eq_false c24
           clear c24
           have H' := Aside0.mk H
           clear H
           have p146 : 0 ≤ (x7_1 : Int) := of_decide_eq_true Q5
           have q146 : x7_1 < (l0.length : Int) := of_decide_eq_true Q5
           obtain ⟨ad146, e146, hx146_0, hx146_1, hx146_2, hx146_3, hx146_4⟩ := at_T90 HR0.out x7_1 p146 q146
           cases e146
           replace hx146_0 := (HB.out.cell (World.block_lt_of_cell? w _ hx146_0)).trans hx146_0
           replace hx146_1 := (HB.out.cell (World.block_lt_of_cell? w _ hx146_1)).trans hx146_1
           replace hx146_2 := (HB.out.cell (World.block_lt_of_cell? w _ hx146_2)).trans hx146_2
           replace hx146_3 := (HB.out.cell (World.block_lt_of_cell? w _ hx146_3)).trans hx146_3
           replace hx146_4 := (HB.out.cell (World.block_lt_of_cell? w _ hx146_4)).trans hx146_4
           replace p146 := eq_true p146
           replace q146 := eq_true q146
           go_wp2_with (first | ((with_reducible refine gate_dst (N := 4) rfl ?_); refine bE_ 4 #[.int .i64 0, .int .i64 0, .int .i64 0, .int .i64 0, .int .i64 0] 90 ?_; intro gb147 hg w29 hbox hb; have BK147 := am (hbox); have GW147 := am ((Q82 : w.heap.size ≤ gb147)); replace HB := am (below_step Q35 hb); have GE147 := GW147; clear hb hbox hg; obtain ⟨hcz30_0, hcz30_1, hcz30_2, hcz30_3, hcz30_4, hfz30_0, hfz30_1, hfz30_2, hfz30_3, hfz30_4⟩ := bx5_ BK147) | (go_at_call 61; (with_reducible refine (impl_TimeOk.calls ((rd_T90 l0 x7_1).f2.f0) ((rd_T90 l0 x7_1).f2.f1) true _ A17.out).mono ?_); rintro e w31 ⟨rfl, hb⟩; replace BK147 := am (blk_below (g := gb147) (o := .cells #[.int .i64 ((rd_T90 l0 x7_1).f0), .int .i64 ((rd_T90 l0 x7_1).f1), .int .i64 ((rd_T90 l0 x7_1).f2.f0), .int .i64 ((rd_T90 l0 x7_1).f2.f1), .int .i64 ((rd_T90 l0 x7_1).f3)] 90 (0, 0)) Q81 hb); replace HB := am (below_step Q48 hb); (try clear hb); obtain ⟨hcz32_0, hcz32_1, hcz32_2, hcz32_3, hcz32_4, hfz32_0, hfz32_1, hfz32_2, hfz32_3, hfz32_4⟩ := bx5_ BK147))
           go_roundg k1
           case measure => have := HK1.out; omega
           case rel => exact ⟨(wrap64 (x7_1 + 1)), Q4, H', ⟨Q2⟩, ⟨Q48⟩⟩
        ·replace c18 := Bool.eq_false_iff.mpr c18
         subst c18
         have H1 : (some false) = some r := by rw [if_neg (show ¬ (false = true) by decide)] at H; exact H
         clear H
         have H := H1
         clear H1
         obtain rfl := Option.some.inj H
         have p146 : 0 ≤ (x7_1 : Int) := of_decide_eq_true Q5
         have q146 : x7_1 < (l0.length : Int) := of_decide_eq_true Q5
         obtain ⟨ad146, e146, hx146_0, hx146_1, hx146_2, hx146_3, hx146_4⟩ := at_T90 HR0.out x7_1 p146 q146
         cases e146
         replace hx146_0 := (HB.out.cell (World.block_lt_of_cell? w _ hx146_0)).trans hx146_0
         replace hx146_1 := (HB.out.cell (World.block_lt_of_cell? w _ hx146_1)).trans hx146_1
         replace hx146_2 := (HB.out.cell (World.block_lt_of_cell? w _ hx146_2)).trans hx146_2
         replace hx146_3 := (HB.out.cell (World.block_lt_of_cell? w _ hx146_3)).trans hx146_3
         replace hx146_4 := (HB.out.cell (World.block_lt_of_cell? w _ hx146_4)).trans hx146_4
         replace p146 := eq_true p146
         replace q146 := eq_true q146
         go_wp2_with (first | ((with_reducible refine gate_dst (N := 4) rfl ?_); refine bE_ 4 #[.int .i64 0, .int .i64 0, .int .i64 0, .int .i64 0, .int .i64 0] 90 ?_; intro gb147 hg w33 hbox hb; have BK147 := am (hbox); have GW147 := am ((Q82 : w.heap.size ≤ gb147)); replace HB := am (below_step Q35 hb); have GE147 := GW147; clear hb hbox hg; obtain ⟨hcz34_0, hcz34_1, hcz34_2, hcz34_3, hcz34_4, hfz34_0, hfz34_1, hfz34_2, hfz34_3, hfz34_4⟩ := bx5_ BK147) | (go_at_call 61; (with_reducible refine (impl_TimeOk.calls ((rd_T90 l0 x7_1).f2.f0) ((rd_T90 l0 x7_1).f2.f1) false _ A17.out).mono ?_); rintro e w35 ⟨rfl, hb⟩; replace BK147 := am (blk_below (g := gb147) (o := .cells #[.int .i64 ((rd_T90 l0 x7_1).f0), .int .i64 ((rd_T90 l0 x7_1).f1), .int .i64 ((rd_T90 l0 x7_1).f2.f0), .int .i64 ((rd_T90 l0 x7_1).f2.f1), .int .i64 ((rd_T90 l0 x7_1).f3)] 90 (0, 0)) Q81 hb); replace HB := am (below_step Q48 hb); (try clear hb)))
         go_ret
         exact ⟨Q9, Q48⟩
   ·rw [if_neg c2] at H
    have c2b0 : decide (x7_1 < (l0.length : Int)) = false := decide_eq_false c2
    clear c2
    obtain rfl := Option.some.inj H
    go_wp2
    go_ret
    exact ⟨Q9, Q35⟩
def IsS112 (w0 W : World) (g : Nat) (f0 : List Int) (f1 : Int) : Prop := ∃ A0 c0, W.heap[g]? = some (.cells #[.slice A0 f0.length c0, .int .i64 f1] 112 (0, 0)) ∧ w0.heap.size ≤ g ∧ Kd.C (Kd.int .u8) w0 A0 f0.length f0
theorem IsS112.grown {w0 W : World} {g : Nat} {f0 : List Int} {f1 : Int} {W1 : World} {row : Option Nat} (h : IsS112 w0 W g f0 f1) (hw : W.grownBy W1 row) (hne : some g ≠ row) : IsS112 w0 W1 g f0 f1 := by
 obtain ⟨A0, c0, hb, hg, hr0⟩ := h
 exact ⟨A0, c0, blk_grown hb hw hne, hg, hr0⟩
theorem IsS112.own_neN {w0 W : World} {g : Nat} {f0 : List Int} {f1 : Int} {α : Type} {d : Kd α} {e : Nat} {base : Nat} {ok : Nat → Prop} {v : Value} {xs : List α} (h : IsS112 w0 W g f0 f1) (ho : Kd.N d e W base ok v xs) (ht : e ≠ 112) : some g ≠ v.ownBlock := by
 obtain ⟨A0, c0, hb, hg, hr0⟩ := h
 exact Kd.N_ne ho hb ht
theorem IsS112.fresh {w0 W : World} {g : Nat} {f0 : List Int} {f1 : Int} (h : IsS112 w0 W g f0 f1) : ∀ k, W.heap.size ≤ k → k ≠ g := by
 obtain ⟨A0, c0, hb, hg, hr0⟩ := h
 exact Kd.freshB hb
theorem IsS112.kept {w0 W : World} {g : Nat} {f0 : List Int} {f1 : Int} {W1 : World} {S : Nat → Prop} (h : IsS112 w0 W g f0 f1) (hk : Kept W W1 S) (hne : ¬ S g) : IsS112 w0 W1 g f0 f1 := by
 obtain ⟨A0, c0, hb, hg, hr0⟩ := h
 exact ⟨A0, c0, blk_kept hb hk hne, hg, hr0⟩
theorem IsS112.below {w0 W : World} {g : Nat} {f0 : List Int} {f1 : Int} {W1 : World} (h : IsS112 w0 W g f0 f1) (hw : Below W.heap.size W W1) : IsS112 w0 W1 g f0 f1 := h.grown (grown_of_below hw none) (by simp)
theorem IsS112.alloc {w0 W : World} {g : Nat} {f0 : List Int} {f1 : Int} (h : IsS112 w0 W g f0 f1) (o : Obj) : IsS112 w0 (W.alloc o) g f0 f1 := h.below (below_alloc (Below.refl _ _) o)
theorem IsS112.drewN {w0 W : World} {g : Nat} {f0 : List Int} {f1 : Int} (h : IsS112 w0 W g f0 f1) (m : Nat) : IsS112 w0 (W.drewN m) g f0 f1 := h
theorem IsS112.drew {w0 W : World} {g : Nat} {f0 : List Int} {f1 : Int} (h : IsS112 w0 W g f0 f1) : IsS112 w0 W.drew g f0 f1 := h
theorem IsS112.at_ {w0 W : World} {g : Nat} {f0 : List Int} {f1 : Int} {w' : World} {m : Nat} (hq : W.drewN m = w') (h : IsS112 w0 W g f0 f1) : IsS112 w0 w' g f0 f1 := by subst hq; exact IsS112.drewN h m
theorem IsS112.apart {w0 W : World} {g : Nat} {f0 : List Int} {f1 : Int} {α : Type} {d : Kd α} {e : Nat} {base : Nat} {ok : Nat → Prop} {v : Value} {xs : List α} (h : IsS112 w0 W g f0 f1) (ho : d.R e W base ok v xs) (ht : ∀ q, q ∈ e :: d.E → q ≠ 112) : d.R e W base (fun k => ok k ∧ k ≠ g) v xs := by
 obtain ⟨A0, c0, hb, hg, hr0⟩ := h
 exact Kd.R_types ho hb ht
theorem IsS112.own_ne {w0 W : World} {g : Nat} {f0 : List Int} {f1 : Int} {α : Type} {d : Kd α} {e : Nat} {base : Nat} {ok : Nat → Prop} {v : Value} {xs : List α} (h : IsS112 w0 W g f0 f1) (ho : d.R e W base ok v xs) (ht : e ≠ 112) : some g ≠ v.ownBlock := by
 obtain ⟨A0, c0, hb, hg, hr0⟩ := h
 exact Kd.R_ne ho hb ht
theorem IsS112.apartQ {w0 W : World} {g : Nat} {f0 : List Int} {f1 : Int} {α : Type} {d : Kd α} {e : Nat} {base : Nat} {ok : Nat → Prop} {v : Value} {xs : List α} (h : IsS112 w0 W g f0 f1) (ho : d.Q e W base ok v xs) (ht : ∀ q, q ∈ e :: d.E → q ≠ 112) : d.Q e W base (fun k => ok k ∧ k ≠ g) v xs := by
 obtain ⟨A0, c0, hb, hg, hr0⟩ := h
 exact Kd.Q_types ho hb ht
theorem IsS112.own_neQ {w0 W : World} {g : Nat} {f0 : List Int} {f1 : Int} {α : Type} {d : Kd α} {e : Nat} {base : Nat} {ok : Nat → Prop} {v : Value} {xs : List α} (h : IsS112 w0 W g f0 f1) (ho : d.Q e W base ok v xs) (ht : e ≠ 112) : some g ≠ v.ownBlock := by
 obtain ⟨A0, c0, hb, hg, hr0⟩ := h
 exact Kd.Q_ne ho hb ht
theorem IsS112.apartS {w0 W : World} {g : Nat} {f0 : List Int} {f1 : Int} {α : Type} {d : Kd α} {e : Nat} {base : Nat} {ok : Nat → Prop} {v : Value} {xs : List α} (h : IsS112 w0 W g f0 f1) (ho : d.S e W base ok v xs) (ht : ∀ q, q ∈ e :: d.E → q ≠ 112) : d.S e W base (fun k => ok k ∧ k ≠ g) v xs := by
 obtain ⟨A0, c0, hb, hg, hr0⟩ := h
 exact Kd.S_types ho hb ht
theorem IsS112.own_neS {w0 W : World} {g : Nat} {f0 : List Int} {f1 : Int} {α : Type} {d : Kd α} {e : Nat} {base : Nat} {ok : Nat → Prop} {v : Value} {xs : List α} (h : IsS112 w0 W g f0 f1) (ho : d.S e W base ok v xs) (ht : e ≠ 112) : some g ≠ v.ownBlock := by
 obtain ⟨A0, c0, hb, hg, hr0⟩ := h
 exact Kd.S_ne ho hb ht
theorem IsS112.lt {w0 W : World} {g : Nat} {f0 : List Int} {f1 : Int} (h : IsS112 w0 W g f0 f1) : g < W.heap.size := by
 obtain ⟨A0, c0, hb, hg, hr0⟩ := h
 exact blk_lt hb
theorem IsS112.ge {w0 W : World} {g : Nat} {f0 : List Int} {f1 : Int} (h : IsS112 w0 W g f0 f1) : w0.heap.size ≤ g := by
 obtain ⟨A0, c0, hb, hg, hr0⟩ := h
 exact hg
theorem IsS112.ne_blk {w0 W : World} {g : Nat} {f0 : List Int} {f1 : Int} {a : Nat} {cs : Array Value} {t : TypeId} {fr : Nat × Nat} (h : IsS112 w0 W g f0 f1) (hb2 : W.heap[a]? = some (.cells cs t fr)) (ht : t ≠ 112) : g ≠ a := by
 obtain ⟨A0, c0, hb, hg, hr0⟩ := h
 rintro rfl
 rw [hb] at hb2
 injection hb2 with hb2
 injection hb2 with _ ht2
 exact ht ht2.symm
theorem IsS112.far {w0 W : World} {g : Nat} {f0 : List Int} {f1 : Int} {p : Addr} (h : IsS112 w0 W g f0 f1) (hne : g ≠ p.block) (u : Value) : IsS112 w0 (W.setCell p u) g f0 f1 := by
 obtain ⟨A0, c0, hb, hg, hr0⟩ := h
 exact ⟨A0, c0, blk_far hb hne u, hg, hr0⟩
theorem cellS112_0 {W : World} {g : Nat} {A0 : Option Addr} {c0 : Nat} {f0 : List Int} {f1 : Int} (h : W.heap[g]? = some (.cells #[.slice A0 f0.length c0, .int .i64 f1] 112 (0, 0))) : W.cell? ⟨g, 0, none⟩ = some (.slice A0 f0.length c0) := (blk_cell h 0).trans rfl
theorem cellS112_1 {W : World} {g : Nat} {A0 : Option Addr} {c0 : Nat} {f0 : List Int} {f1 : Int} (h : W.heap[g]? = some (.cells #[.slice A0 f0.length c0, .int .i64 f1] 112 (0, 0))) : W.cell? ⟨g, 1, none⟩ = some (.int .i64 f1) := (blk_cell h 1).trans rfl
theorem IsS112.set_1 {w0 W : World} {g : Nat} {f0 : List Int} {f1 : Int} (h : IsS112 w0 W g f0 f1) (x : Int) : IsS112 w0 (W.setCell ⟨g, 1, none⟩ (.int .i64 x)) g f0 x := by
 obtain ⟨A0, c0, hb, hg, hr0⟩ := h
 exact ⟨A0, c0, by simpa using blk_set hb 1 (.int .i64 x), hg, hr0⟩
theorem IsS112.new (w0 W : World) (A0 : Option Addr) (c0 : Nat) (f0 : List Int) (f1 : Int) (hB : Below w0.heap.size w0 W) (hr0 : Kd.C (Kd.int .u8) w0 A0 f0.length f0) : IsS112 w0 (W.alloc (.cells #[.slice A0 f0.length c0, .int .i64 f1] 112)) W.heap.size f0 f1 := ⟨A0, c0, by simpa using heap_alloc_new W _, hB.size, hr0⟩
def spec_l6Open.f (l0 : List Int) : Option (List Int × Int) := if (l0.length : Int) > 2000 then (if 2000 ≤ (l0.length : Int) then (some (l0.take 2000, 0)) else (none)) else (some (l0, 0))
set_option maxHeartbeats 8000000 in
set_option maxRecDepth 100000 in
theorem spec_l6Open.calls (A0 : Option Addr) (c0 : Nat) (l0 : List Int) (r1 : List Int) (r2 : Int) (w0 w : World) (hB : Below w0.heap.size w0 w) (hr0 : Kd.C (Kd.int .u8) w0 A0 l0.length l0) (hc0 : l0.length ≤ c0) (h : spec_l6Open.f l0 = some (r1, r2)) :
  Calls Try.prog 66 #[.slice A0 l0.length c0] w fun e w' => ∃ g_ : Nat, e = .returned (.pointer (some ⟨g_, 0, none⟩)) ∧ IsS112 w0 w' g_ r1 r2 ∧ Below w0.heap.size w0 w' ∧ Below w.heap.size w w' := by
 have hu112 := Try.underlying112
 have HR0 := Aside0.mk hr0
 have HC0 := Aside0.mk hc0
 clear hr0 hc0
 have HBW := am (Below.refl w.heap.size w)
 have HW0 := Aside0.mk hB.size
 have HB := Aside0.mk hB
 clear hB
 have H : (if (l0.length : Int) > 2000 then (if 2000 ≤ (l0.length : Int) then (some (l0.take 2000, 0)) else (none)) else (some (l0, 0))) = some (r1, r2) := h
 clear h
 by_cases c2 : (l0.length : Int) > 2000
 ·rw [if_pos c2] at H
  have c2b0 : decide (2000 < (l0.length : Int)) = true := decide_eq_true c2
  have c2b1 : decide (2000 < l0.length) = true := decide_eq_true (by omega)
  clear c2
  have c3 : 2000 ≤ (l0.length : Int) := nn_ H
  rw [if_pos c3] at H
  have c3b0 := eq_true c3
  have c3b1 : decide (2000 ≤ (l0.length : Int)) = true := decide_eq_true c3
  clear c3
  simp only [Option.some.injEq, Prod.mk.injEq] at H
  obtain ⟨rfl, rfl⟩ := H
  obtain ⟨i04, hi04, _, hsz4, _⟩ := info_parts info5
  obtain ⟨hcut4, hA4, hC4⟩ := print_take_of (P := Try.prog) (Value.int .u8) 0 30 5 .i64 Try.underlying30 hi04 hsz4 A0 c0 l0 2000 (by omega) (of_decide_eq_true Q5) HC0.out
  have HR149 := am (Kd.C_of_reads (h1 := fun _ => rfl) (hA4 _ (Kd.reads_of_C HR0.out)))
  have HC149 := Aside0.mk hC4
  clear hA4 hC4 hi04 hsz4
  go_enter Try.func66, Try.ntmps66
  go_wp2_with (first | ((with_reducible refine gate_dst (N := 10) rfl ?_); refine bE_ 10 #[.slice A0 (l0.take 2000).length c0, .int .i64 0] 112 ?_; intro gb150 hg w5 hbox hb; replace HB := am (below_step Q35 hb); have BK150 := am (hbox); have GW150 := am ((by rw [hg]; exact (below_size Q36) : w.heap.size ≤ gb150)); have GE150 := am ((Nat.le_trans HW0.out (by rw [hg]; exact (below_size Q36) : w.heap.size ≤ gb150) : w0.heap.size ≤ gb150)); replace HBW := am (below_step HBW.out hb); clear hb hbox hg))
  go_ret
  exact ⟨_, rfl, (show IsS112 w0 _ gb150 (l0.take 2000) 0 from ⟨_, _, by (with_reducible repeat (first | refine blk_drewN ?_ _ | refine blk_drew ?_ | refine blk_alloc ?_ _)); exact BK150.out, GE150.out, HR149.out⟩), by repeat (first | (with_reducible first | exact HB.out | apply below_alloc | apply pw_below_drewN | apply below_drew1 | refine below_set ?_ GE150.out) | exact HB.out), by repeat (first | (with_reducible first | exact HBW.out | apply below_alloc | apply pw_below_drewN | apply below_drew1 | refine below_set ?_ GW150.out) | exact HBW.out)⟩
 ·rw [if_neg c2] at H
  have c2b0 : decide (2000 < (l0.length : Int)) = false := decide_eq_false c2
  have c2b1 : decide (2000 < l0.length) = false := decide_eq_false (by omega)
  clear c2
  simp only [Option.some.injEq, Prod.mk.injEq] at H
  obtain ⟨rfl, rfl⟩ := H
  go_enter Try.func66, Try.ntmps66
  go_wp2_with (first | ((with_reducible refine gate_dst (N := 10) rfl ?_); refine bE_ 10 #[.slice A0 l0.length c0, .int .i64 0] 112 ?_; intro gb151 hg w6 hbox hb; replace HB := am (below_step Q35 hb); have BK151 := am (hbox); have GW151 := am ((by rw [hg]; exact (below_size Q36) : w.heap.size ≤ gb151)); have GE151 := am ((Nat.le_trans HW0.out (by rw [hg]; exact (below_size Q36) : w.heap.size ≤ gb151) : w0.heap.size ≤ gb151)); replace HBW := am (below_step HBW.out hb); clear hb hbox hg))
  go_ret
  exact ⟨_, rfl, (show IsS112 w0 _ gb151 l0 0 from ⟨_, _, by (with_reducible repeat (first | refine blk_drewN ?_ _ | refine blk_drew ?_ | refine blk_alloc ?_ _)); exact BK151.out, GE151.out, HR0.out⟩), by repeat (first | (with_reducible first | exact HB.out | apply below_alloc | apply pw_below_drewN | apply below_drew1 | refine below_set ?_ GE151.out) | exact HB.out), by repeat (first | (with_reducible first | exact HBW.out | apply below_alloc | apply pw_below_drewN | apply below_drew1 | refine below_set ?_ GW151.out) | exact HBW.out)⟩
def spec_l6Rd_pick.j0 : Nat → Int → Bool → List Int → Int → Option (Int × Int)
 | 0, _, _, _, _ => none
 | k + 1, x1, x24, x1000, x1001 => if x24 = true then (some (0, x1001)) else (if (wrap64 (x1001 - 1)) < (x1000.length : Int) then (if 0 ≤ (wrap64 (x1001 - 1)) then (if x1 = 0 then (none) else (some (Int.tmod (wrap64 (rd x1000 (wrap64 (x1001 - 1)))) x1, x1001))) else (none)) else (if (x1000.length : Int) = 0 then (none) else (if 0 ≤ (Int.tmod (wrap64 (x1001 - 1)) (x1000.length : Int)) then (if (Int.tmod (wrap64 (x1001 - 1)) (x1000.length : Int)) < (x1000.length : Int) then (if 0 ≤ (Int.tmod (wrap64 ((wrap64 ((wrap64 (x1001 - 1)) * 7)) + 3)) (x1000.length : Int)) then (if (Int.tmod (wrap64 ((wrap64 ((wrap64 (x1001 - 1)) * 7)) + 3)) (x1000.length : Int)) < (x1000.length : Int) then (if x1 = 0 then (none) else (some (Int.tmod (Go.bits .xor .i64 (wrap64 ((wrap64 ((wrap64 ((wrap64 ((wrap64 (rd x1000 (Int.tmod (wrap64 (x1001 - 1)) (x1000.length : Int)))) * 131)) + (wrap64 ((wrap64 (rd x1000 (Int.tmod (wrap64 ((wrap64 ((wrap64 (x1001 - 1)) * 7)) + 3)) (x1000.length : Int)))) * 1117)))) + (wrap64 ((wrap64 (x1001 - 1)) * 29)))) + (wrap64 ((wrap64 (Int.tdiv (wrap64 (x1001 - 1)) (x1000.length : Int))) * 53)))) (wrap64 (Int.tdiv (wrap64 ((wrap64 ((wrap64 ((wrap64 ((wrap64 (rd x1000 (Int.tmod (wrap64 (x1001 - 1)) (x1000.length : Int)))) * 131)) + (wrap64 ((wrap64 (rd x1000 (Int.tmod (wrap64 ((wrap64 ((wrap64 (x1001 - 1)) * 7)) + 3)) (x1000.length : Int)))) * 1117)))) + (wrap64 ((wrap64 (x1001 - 1)) * 29)))) + (wrap64 ((wrap64 (Int.tdiv (wrap64 (x1001 - 1)) (x1000.length : Int))) * 53)))) 64))) x1, x1001))) else (none)) else (none)) else (none)) else (none))))
def spec_l6Rd_pick.f (k : Nat) (s0_0 : List Int) (s0_1 : Int) (a1 : Int) : Option (Int × Int) := if a1 < 1 then (spec_l6Rd_pick.j0 k a1 true s0_0 (wrap64 (s0_1 + 1))) else (spec_l6Rd_pick.j0 k a1 ((s0_0.length : Int) == 0) s0_0 (wrap64 (s0_1 + 1)))
theorem spec_l6Rd_pick.mono_l : ∀ k, (∀ y0 y1 y2 y3, LeO (spec_l6Rd_pick.j0 k y0 y1 y2 y3) (spec_l6Rd_pick.j0 (k + 1) y0 y1 y2 y3))
 | 0 => fun _ _ _ _ r h => by simp [spec_l6Rd_pick.j0] at h
 | k + 1 => by
  have ih0 := spec_l6Rd_pick.mono_l k
  ·intro y0 y1 y2 y3
   unfold spec_l6Rd_pick.j0
   repeat' first
   | (with_reducible exact ih0 _ _ _ _)
   | (with_reducible exact LeO.refl _)
   | (with_reducible exact LeO.none _)
   | (with_reducible refine LeO.ite ?_ ?_)
   | (with_reducible refine LeO.bind ?_ (fun _ => ?_))
   | exact ih0 _ _ _ _
   | exact LeO.none _
   | refine LeO.ite ?_ ?_
   | refine LeO.bind ?_ (fun _ => ?_)
theorem spec_l6Rd_pick.mono : ∀ a0 a1 a2 k, LeO (spec_l6Rd_pick.f k a0 a1 a2) (spec_l6Rd_pick.f (k + 1) a0 a1 a2) := by
 intro a0 a1 a2 k
 have ih0 := spec_l6Rd_pick.mono_l k
 unfold spec_l6Rd_pick.f
 repeat' first
   | (with_reducible exact ih0 _ _ _ _)
   | (with_reducible exact LeO.refl _)
   | (with_reducible exact LeO.none _)
   | (with_reducible refine LeO.ite ?_ ?_)
   | (with_reducible refine LeO.bind ?_ (fun _ => ?_))
   | exact ih0 _ _ _ _
   | exact LeO.none _
   | refine LeO.ite ?_ ?_
   | refine LeO.bind ?_ (fun _ => ?_)
set_option maxHeartbeats 8000000 in
set_option maxRecDepth 100000 in
theorem spec_l6Rd_pick.calls (k : Nat) (g : Nat) (s0_0 : List Int) (s0_1 : Int) (a1 : Int) (r1 : Int) (r2 : Int) (w0 w : World) (hI : IsS112 w0 w g s0_0 s0_1) (hB : Below w0.heap.size w0 w) (h : spec_l6Rd_pick.f k s0_0 s0_1 a1 = some (r1, r2)) :
  Calls Try.prog 67 #[.pointer (some ⟨g, 0, none⟩), .int .i64 a1] w fun e w' => e = .returned (.int .i64 r1) ∧ IsS112 w0 w' g s0_0 r2 ∧ Below w0.heap.size w0 w' ∧ KeepBut w w' g none := by
 have HI0 := Aside0.mk hI
 have HK := am (KeepBut.refl w g none)
 have HL := Aside0.mk hB.size
 clear hI
 have HW0 := Aside0.mk hB.size
 have HB := Aside0.mk hB
 clear hB
 have H : (if a1 < 1 then (spec_l6Rd_pick.j0 k a1 true s0_0 (wrap64 (s0_1 + 1))) else (spec_l6Rd_pick.j0 k a1 ((s0_0.length : Int) == 0) s0_0 (wrap64 (s0_1 + 1)))) = some (r1, r2) := h
 clear h
 have HC3 := Aside0.mk H
 clear H
 obtain ⟨ASz4_0, cSz4_0, HGz4, hgz4, HSz4_0⟩ := HI0.out
 have hcz4_0 := cellS112_0 HGz4
 have hcz4_1 := cellS112_1 HGz4
 have hfz4_1 := blk_frozen HGz4 1
 clear HGz4 hgz4
 go_enter Try.func67, Try.ntmps67
 go_upto_region 2 with (fail)
 repeat (go_quiet (fail); go_upto_region 2 with (fail))
 go_cut [24] (fun v24 wc => ∃ (kq : Nat) (x24_2 : Bool), v24 = .bool x24_2 ∧ Aside0 (spec_l6Rd_pick.j0 kq a1 x24_2 s0_0 (wrap64 (s0_1 + 1)) = some (r1, r2)) ∧ Aside0 (kq ≤ k) ∧ Aside0 (IsS112 w0 wc g s0_0 (wrap64 (s0_1 + 1))) ∧ Aside0 (KeepBut w wc g none) ∧ Aside0 (Below w0.heap.size w0 wc))
 case first =>
  have H := HC3.out
  clear HC3
  by_cases c5 : a1 < 1
  ·rw [if_pos c5] at H
   have c5b0 : decide (a1 < 1) = true := decide_eq_true c5
   clear c5
   (first | rw [c5b0] | (simp only [i64_w, i32_w]; rw [c5b0]) | skip)
   have H' := Aside0.mk H
   clear H
   go_wp2
   repeat (go_quiet (fail); try go_wp2)
   go_meet
   case rel => exact ⟨_, (true), Q4, H', ⟨Q3⟩, ⟨Q40⟩, ⟨Q39⟩, ⟨Q55⟩⟩
  ·rw [if_neg c5] at H
   have c5b0 : decide (a1 < 1) = false := decide_eq_false c5
   clear c5
   (first | rw [c5b0] | (simp only [i64_w, i32_w]; rw [c5b0]) | skip)
   have H' := Aside0.mk H
   clear H
   obtain ⟨ASz6_0, cSz6_0, HGz6, hgz6, HSz6_0⟩ := HI0.out
   have hcz6_0 := cellS112_0 HGz6
   have hcz6_1 := cellS112_1 HGz6
   have hfz6_1 := blk_frozen HGz6 1
   clear HGz6 hgz6
   go_wp2
   repeat (go_quiet (fail); try go_wp2)
   go_meet
   case rel => exact ⟨_, (((s0_0.length : Int) == 0)), Q4, H', ⟨Q3⟩, ⟨Q40⟩, ⟨Q39⟩, ⟨Q55⟩⟩
 case rest =>
  clear HC3
  try clear p2
  try clear c5
  try clear c5b0
  try clear c6
  try clear p6
  try clear hcz4_0
  try clear hcz4_1
  try clear hcz6_0
  try clear hcz6_1
  try clear hfz4_1
  try clear hfz6_1
  obtain ⟨kq, x24_2, rfl, HA, HJ2, HI0, HK, HB⟩ := hcut
  cases kq with
  | zero => exact absurd HA.out (by simp [spec_l6Rd_pick.j0])
  | succ kj2 =>
   have H := HA.out
   clear HA
   simp only [spec_l6Rd_pick.j0] at H
   by_cases c7 : x24_2 = true
   ·subst c7
    have H1 : (some (0, (wrap64 (s0_1 + 1)))) = some (r1, r2) := by rw [if_pos rfl] at H; exact H
    clear H
    have H := H1
    clear H1
    simp only [Option.some.injEq, Prod.mk.injEq] at H
    obtain ⟨rfl, rfl⟩ := H
    go_wp2
    repeat (go_quiet (fail); try go_wp2)
    go_ret
    exact ⟨Q9, Q40, Q55, Q39⟩
   ·replace c7 := Bool.eq_false_iff.mpr c7
    subst c7
    have H1 : (if (wrap64 ((wrap64 (s0_1 + 1)) - 1)) < (s0_0.length : Int) then (if 0 ≤ (wrap64 ((wrap64 (s0_1 + 1)) - 1)) then (if a1 = 0 then (none) else (some (Int.tmod (wrap64 (rd s0_0 (wrap64 ((wrap64 (s0_1 + 1)) - 1)))) a1, (wrap64 (s0_1 + 1))))) else (none)) else (if (s0_0.length : Int) = 0 then (none) else (if 0 ≤ (Int.tmod (wrap64 ((wrap64 (s0_1 + 1)) - 1)) (s0_0.length : Int)) then (if (Int.tmod (wrap64 ((wrap64 (s0_1 + 1)) - 1)) (s0_0.length : Int)) < (s0_0.length : Int) then (if 0 ≤ (Int.tmod (wrap64 ((wrap64 ((wrap64 ((wrap64 (s0_1 + 1)) - 1)) * 7)) + 3)) (s0_0.length : Int)) then (if (Int.tmod (wrap64 ((wrap64 ((wrap64 ((wrap64 (s0_1 + 1)) - 1)) * 7)) + 3)) (s0_0.length : Int)) < (s0_0.length : Int) then (if a1 = 0 then (none) else (some (Int.tmod (Go.bits .xor .i64 (wrap64 ((wrap64 ((wrap64 ((wrap64 ((wrap64 (rd s0_0 (Int.tmod (wrap64 ((wrap64 (s0_1 + 1)) - 1)) (s0_0.length : Int)))) * 131)) + (wrap64 ((wrap64 (rd s0_0 (Int.tmod (wrap64 ((wrap64 ((wrap64 ((wrap64 (s0_1 + 1)) - 1)) * 7)) + 3)) (s0_0.length : Int)))) * 1117)))) + (wrap64 ((wrap64 ((wrap64 (s0_1 + 1)) - 1)) * 29)))) + (wrap64 ((wrap64 (Int.tdiv (wrap64 ((wrap64 (s0_1 + 1)) - 1)) (s0_0.length : Int))) * 53)))) (wrap64 (Int.tdiv (wrap64 ((wrap64 ((wrap64 ((wrap64 ((wrap64 (rd s0_0 (Int.tmod (wrap64 ((wrap64 (s0_1 + 1)) - 1)) (s0_0.length : Int)))) * 131)) + (wrap64 ((wrap64 (rd s0_0 (Int.tmod (wrap64 ((wrap64 ((wrap64 ((wrap64 (s0_1 + 1)) - 1)) * 7)) + 3)) (s0_0.length : Int)))) * 1117)))) + (wrap64 ((wrap64 ((wrap64 (s0_1 + 1)) - 1)) * 29)))) + (wrap64 ((wrap64 (Int.tdiv (wrap64 ((wrap64 (s0_1 + 1)) - 1)) (s0_0.length : Int))) * 53)))) 64))) a1, (wrap64 (s0_1 + 1))))) else (none)) else (none)) else (none)) else (none)))) = some (r1, r2) := by rw [if_neg (show ¬ (false = true) by decide)] at H; exact H
    clear H
    have H := H1
    clear H1
    by_cases c8 : (wrap64 ((wrap64 (s0_1 + 1)) - 1)) < (s0_0.length : Int)
    ·rw [if_pos c8] at H
     have c8b0 : decide ((wrap64 ((wrap64 (s0_1 + 1)) - 1)) < (s0_0.length : Int)) = true := decide_eq_true c8
     clear c8
     obtain ⟨ji9, hji9⟩ : ∃ j_ : Int, (wrap64 ((wrap64 (s0_1 + 1)) - 1)) = j_ := ⟨_, rfl⟩
     replace H : (if 0 ≤ (ji9) then (if a1 = 0 then (none) else (some (Int.tmod (wrap64 (rd s0_0 (ji9))) a1, (wrap64 (s0_1 + 1))))) else (none)) = some (r1, r2) := by first | (rw [hji9] at H; exact H) | (simp only [hji9] at H ⊢; exact H)
     (try rw [hji9] at c8b0)
     have hji9w : (IntKind.i64.wrap ((wrap64 (s0_1 + 1)) - 1)) = ji9 := (i64_w _).trans hji9
     have c10 : 0 ≤ (ji9) := nn_ H
     rw [if_pos c10] at H
     have c10b0 : decide (0 ≤ (ji9)) = true := decide_eq_true c10
     clear c10
     by_cases c11 : a1 = 0
     ·rw [if_pos c11] at H
      exact absurd H (by simp)
     ·rw [if_neg c11] at H
      have c11b0 : (a1 == 0) = false := beq_eq_false_iff_ne.mpr c11
      have c11b1 : (a1 != 0) = true := bne_iff_ne.mpr c11
      simp only [Option.some.injEq, Prod.mk.injEq] at H
      obtain ⟨rfl, rfl⟩ := H
      obtain ⟨ASz12_0, cSz12_0, HGz12, hgz12, HSz12_0⟩ := HI0.out
      have hcz12_0 := cellS112_0 HGz12
      have hcz12_1 := cellS112_1 HGz12
      have hfz12_1 := blk_frozen HGz12 1
      clear HGz12 hgz12
      have p152 : 0 ≤ ((ji9) : Int) := of_decide_eq_true Q5
      have q152 : (ji9) < (s0_0.length : Int) := of_decide_eq_true Q5
      obtain ⟨ad152, e152, hx152_0⟩ := Kd.at_int HSz12_0 (ji9) p152 q152
      cases e152
      replace hx152_0 := pw_cell_below HB.out hx152_0
      replace p152 := eq_true p152
      replace q152 := eq_true q152
      go_wp2
      repeat (go_quiet (fail); try go_wp2)
      go_ret
      exact ⟨by first | rfl | (simp [errW_none, errW_some] <;> rfl) | (simp only [← hji9]; first | rfl | (simp [errW_none, errW_some] <;> rfl)) | (simp [*, errW_none, errW_some] <;> rfl), Q40, Q55, Q39⟩
    ·rw [if_neg c8] at H
     have c8b0 : decide ((wrap64 ((wrap64 (s0_1 + 1)) - 1)) < (s0_0.length : Int)) = false := decide_eq_false c8
     clear c8
     by_cases c13 : (s0_0.length : Int) = 0
     ·rw [if_pos c13] at H
      exact absurd H (by simp)
     ·rw [if_neg c13] at H
      have c13b0 : ((s0_0.length : Int) == 0) = false := beq_eq_false_iff_ne.mpr c13
      have c13b1 : ((s0_0.length : Int) != 0) = true := bne_iff_ne.mpr c13
      have c13b2 : ¬ (s0_0 = []) := fun h_ => c13 (by rw [h_]; rfl)
      obtain ⟨ji14, hji14⟩ : ∃ j_ : Int, (Int.tmod (wrap64 ((wrap64 (s0_1 + 1)) - 1)) (s0_0.length : Int)) = j_ := ⟨_, rfl⟩
      replace H : (if 0 ≤ (ji14) then (if (ji14) < (s0_0.length : Int) then (if 0 ≤ (Int.tmod (wrap64 ((wrap64 ((wrap64 ((wrap64 (s0_1 + 1)) - 1)) * 7)) + 3)) (s0_0.length : Int)) then (if (Int.tmod (wrap64 ((wrap64 ((wrap64 ((wrap64 (s0_1 + 1)) - 1)) * 7)) + 3)) (s0_0.length : Int)) < (s0_0.length : Int) then (if a1 = 0 then (none) else (some (Int.tmod (Go.bits .xor .i64 (wrap64 ((wrap64 ((wrap64 ((wrap64 ((wrap64 (rd s0_0 (ji14))) * 131)) + (wrap64 ((wrap64 (rd s0_0 (Int.tmod (wrap64 ((wrap64 ((wrap64 ((wrap64 (s0_1 + 1)) - 1)) * 7)) + 3)) (s0_0.length : Int)))) * 1117)))) + (wrap64 ((wrap64 ((wrap64 (s0_1 + 1)) - 1)) * 29)))) + (wrap64 ((wrap64 (Int.tdiv (wrap64 ((wrap64 (s0_1 + 1)) - 1)) (s0_0.length : Int))) * 53)))) (wrap64 (Int.tdiv (wrap64 ((wrap64 ((wrap64 ((wrap64 ((wrap64 (rd s0_0 (ji14))) * 131)) + (wrap64 ((wrap64 (rd s0_0 (Int.tmod (wrap64 ((wrap64 ((wrap64 ((wrap64 (s0_1 + 1)) - 1)) * 7)) + 3)) (s0_0.length : Int)))) * 1117)))) + (wrap64 ((wrap64 ((wrap64 (s0_1 + 1)) - 1)) * 29)))) + (wrap64 ((wrap64 (Int.tdiv (wrap64 ((wrap64 (s0_1 + 1)) - 1)) (s0_0.length : Int))) * 53)))) 64))) a1, (wrap64 (s0_1 + 1))))) else (none)) else (none)) else (none)) else (none)) = some (r1, r2) := by first | (rw [hji14] at H; exact H) | (simp only [hji14] at H ⊢; exact H)
      have c15 : 0 ≤ (ji14) := nn_ H
      rw [if_pos c15] at H
      have c15b0 : decide (0 ≤ (ji14)) = true := decide_eq_true c15
      clear c15
      have c16 : (ji14) < (s0_0.length : Int) := nn_ H
      rw [if_pos c16] at H
      have c16b0 : decide ((ji14) < (s0_0.length : Int)) = true := decide_eq_true c16
      clear c16
      obtain ⟨ji17, hji17⟩ : ∃ j_ : Int, (Int.tmod (wrap64 ((wrap64 ((wrap64 ((wrap64 (s0_1 + 1)) - 1)) * 7)) + 3)) (s0_0.length : Int)) = j_ := ⟨_, rfl⟩
      replace H : (if 0 ≤ (ji17) then (if (ji17) < (s0_0.length : Int) then (if a1 = 0 then (none) else (some (Int.tmod (Go.bits .xor .i64 (wrap64 ((wrap64 ((wrap64 ((wrap64 ((wrap64 (rd s0_0 (ji14))) * 131)) + (wrap64 ((wrap64 (rd s0_0 (ji17))) * 1117)))) + (wrap64 ((wrap64 ((wrap64 (s0_1 + 1)) - 1)) * 29)))) + (wrap64 ((wrap64 (Int.tdiv (wrap64 ((wrap64 (s0_1 + 1)) - 1)) (s0_0.length : Int))) * 53)))) (wrap64 (Int.tdiv (wrap64 ((wrap64 ((wrap64 ((wrap64 ((wrap64 (rd s0_0 (ji14))) * 131)) + (wrap64 ((wrap64 (rd s0_0 (ji17))) * 1117)))) + (wrap64 ((wrap64 ((wrap64 (s0_1 + 1)) - 1)) * 29)))) + (wrap64 ((wrap64 (Int.tdiv (wrap64 ((wrap64 (s0_1 + 1)) - 1)) (s0_0.length : Int))) * 53)))) 64))) a1, (wrap64 (s0_1 + 1))))) else (none)) else (none)) = some (r1, r2) := by first | (rw [hji17] at H; exact H) | (simp only [hji17] at H ⊢; exact H)
      have c18 : 0 ≤ (ji17) := nn_ H
      rw [if_pos c18] at H
      have c18b0 : decide (0 ≤ (ji17)) = true := decide_eq_true c18
      clear c18
      have c19 : (ji17) < (s0_0.length : Int) := nn_ H
      rw [if_pos c19] at H
      have c19b0 : decide ((ji17) < (s0_0.length : Int)) = true := decide_eq_true c19
      clear c19
      by_cases c20 : a1 = 0
      ·rw [if_pos c20] at H
       exact absurd H (by simp)
      ·rw [if_neg c20] at H
       have c20b0 : (a1 == 0) = false := beq_eq_false_iff_ne.mpr c20
       have c20b1 : (a1 != 0) = true := bne_iff_ne.mpr c20
       simp only [Option.some.injEq, Prod.mk.injEq] at H
       obtain ⟨rfl, rfl⟩ := H
       obtain ⟨ASz21_0, cSz21_0, HGz21, hgz21, HSz21_0⟩ := HI0.out
       have hcz21_0 := cellS112_0 HGz21
       have hcz21_1 := cellS112_1 HGz21
       have hfz21_1 := blk_frozen HGz21 1
       clear HGz21 hgz21
       have p153 : 0 ≤ ((ji14) : Int) := of_decide_eq_true Q5
       have q153 : (ji14) < (s0_0.length : Int) := of_decide_eq_true Q5
       obtain ⟨ad153, e153, hx153_0⟩ := Kd.at_int HSz21_0 (ji14) p153 q153
       cases e153
       replace hx153_0 := pw_cell_below HB.out hx153_0
       replace p153 := eq_true p153
       replace q153 := eq_true q153
       have p154 : 0 ≤ ((ji17) : Int) := of_decide_eq_true Q5
       have q154 : (ji17) < (s0_0.length : Int) := of_decide_eq_true Q5
       obtain ⟨ad154, e154, hx154_0⟩ := Kd.at_int HSz21_0 (ji17) p154 q154
       obtain rfl : ad153 = ad154 := (by injection e154)
       replace hx154_0 := pw_cell_below HB.out hx154_0
       replace p154 := eq_true p154
       replace q154 := eq_true q154
       go_wp2
       repeat (go_quiet (fail); try go_wp2)
       go_ret
       exact ⟨by first | rfl | (simp [errW_none, errW_some] <;> rfl) | (simp only [← hji14, ← hji17]; first | rfl | (simp [errW_none, errW_some] <;> rfl)) | (simp [*, errW_none, errW_some] <;> rfl), Q40, Q55, Q39⟩
def spec_l71Time.f (k : Nat) (s0_0 : List Int) (s0_1 : Int) : Option (Int × Int × Int) := (spec_l6Rd_pick.f k s0_0 s0_1 10).bind fun bt156 => (if bt156.1 = 0 then ((spec_l6Rd_pick.f k s0_0 bt156.2 8).bind fun bt158 => ((spec_l6Rd_pick.f k s0_0 bt158.2 8).bind fun bt160 => (some (bt158.1, bt160.1, bt160.2)))) else ((spec_l6Rd_pick.f k s0_0 bt156.2 4).bind fun bt162 => ((spec_l6Rd_pick.f k s0_0 bt162.2 4).bind fun bt164 => (some (bt162.1, bt164.1, bt164.2)))))
set_option maxHeartbeats 8000000 in
set_option maxRecDepth 100000 in
theorem spec_l71Time.calls (k : Nat) (g : Nat) (s0_0 : List Int) (s0_1 : Int) (r1 : Int) (r2 : Int) (r3 : Int) (w0 w : World) (hI : IsS112 w0 w g s0_0 s0_1) (hB : Below w0.heap.size w0 w) (h : spec_l71Time.f k s0_0 s0_1 = some (r1, r2, r3)) :
  Calls Try.prog 98 #[.pointer (some ⟨g, 0, none⟩)] w fun e w' => e = .returned (.agg #[.int .i64 r1, .int .i64 r2]) ∧ IsS112 w0 w' g s0_0 r3 ∧ Below w0.heap.size w0 w' ∧ KeepBut w w' g none := by
 have hu36 := Try.underlying36
 have HI0 := Aside0.mk hI
 have HK := am (KeepBut.refl w g none)
 have HL := Aside0.mk hB.size
 clear hI
 have HW0 := Aside0.mk hB.size
 have HB := Aside0.mk hB
 clear hB
 have H : ((spec_l6Rd_pick.f k s0_0 s0_1 10).bind fun bt156 => (if bt156.1 = 0 then ((spec_l6Rd_pick.f k s0_0 bt156.2 8).bind fun bt158 => ((spec_l6Rd_pick.f k s0_0 bt158.2 8).bind fun bt160 => (some (bt158.1, bt160.1, bt160.2)))) else ((spec_l6Rd_pick.f k s0_0 bt156.2 4).bind fun bt162 => ((spec_l6Rd_pick.f k s0_0 bt162.2 4).bind fun bt164 => (some (bt162.1, bt164.1, bt164.2)))))) = some (r1, r2, r3) := h
 clear h
 replace H := Option.bind_eq_some_iff.mp H
 obtain ⟨⟨t156, t157⟩, A20, H⟩ := H
 replace H : (if t156 = 0 then ((spec_l6Rd_pick.f k s0_0 t157 8).bind fun bt158 => ((spec_l6Rd_pick.f k s0_0 bt158.2 8).bind fun bt160 => (some (bt158.1, bt160.1, bt160.2)))) else ((spec_l6Rd_pick.f k s0_0 t157 4).bind fun bt162 => ((spec_l6Rd_pick.f k s0_0 bt162.2 4).bind fun bt164 => (some (bt162.1, bt164.1, bt164.2))))) = some (r1, r2, r3) := H
 have A2 := Aside0.mk A20
 clear A20
 by_cases c3 : t156 = 0
 ·rw [if_pos c3] at H
  have c3b0 : (t156 == 0) = true := beq_iff_eq.mpr c3
  have c3b1 : (t156 != 0) = false := bne_eq_false_iff_eq.mpr c3
  clear c3
  replace H := Option.bind_eq_some_iff.mp H
  obtain ⟨⟨t158, t159⟩, A40, H⟩ := H
  replace H : ((spec_l6Rd_pick.f k s0_0 t159 8).bind fun bt160 => (some (t158, bt160.1, bt160.2))) = some (r1, r2, r3) := H
  have A4 := Aside0.mk A40
  clear A40
  replace H := Option.bind_eq_some_iff.mp H
  obtain ⟨⟨t160, t161⟩, A50, H⟩ := H
  replace H : (some (t158, t160, t161)) = some (r1, r2, r3) := H
  have A5 := Aside0.mk A50
  clear A50
  simp only [Option.some.injEq, Prod.mk.injEq] at H
  obtain ⟨rfl, rfl, rfl⟩ := H
  go_enter Try.func98, Try.ntmps98
  go_wp2_with (first | ((with_reducible refine gate_dst (N := 2) rfl ?_); refine bE_ 2 #[.int .i64 0, .int .i64 0] 36 ?_; intro gb155 hg w6 hbox hb; replace HB := am (below_step Q55 hb); have BK155 := am (hbox); have GW155 := am ((Q83 : w.heap.size ≤ gb155)); have GE155 := am ((Nat.le_trans HW0.out (Q83 : w.heap.size ≤ gb155) : w0.heap.size ≤ gb155)); replace HK := am (KeepBut.trans Q39 (KeepBut.of_below hb g none) (.inl rfl)); have NB0_155 := am ((by rw [hg]; exact Nat.ne_of_lt (IsS112.lt (show IsS112 w0 _ g s0_0 s0_1 from by repeat (first | (with_reducible first | exact HI0.out | apply IsS112.alloc | apply IsS112.drewN | apply IsS112.drew | apply IsS112.set_1) | exact HI0.out))) : g ≠ gb155)); have NB155_0 := am ((by rw [hg]; exact Nat.ne_of_gt (IsS112.lt (show IsS112 w0 _ g s0_0 s0_1 from by repeat (first | (with_reducible first | exact HI0.out | apply IsS112.alloc | apply IsS112.drewN | apply IsS112.drew | apply IsS112.set_1) | exact HI0.out))) : gb155 ≠ g)); replace HI0 := am (IsS112.below Q40 hb); clear hb hbox hg) | ((with_reducible refine gate_callee (f := 67) rfl ?_); refine goesL_ (some 4) rfl rfl Try.func67 Q1 rfl #[.pointer (some ⟨g, 0, none⟩), .int .i64 10] rfl Q37 ?_; (with_reducible refine (spec_l6Rd_pick.calls k g s0_0 s0_1 10 t156 t157 w0 _ ?side1 ?side2 A2.out).mono ?_); (case side1 => exact Q61); (case side2 => exact Q67); rintro e w7 ⟨rfl, hi, hb, hk⟩; refine ⟨_, rfl, ?_⟩; replace BK155 := am (KeepBut.blk hk (g' := gb155) (o := .cells #[.int .i64 0, .int .i64 0] 36 (0, 0)) Q28 NB155_0.out (by simp)); replace HK := am (KeepBut.trans Q57 hk (.inl rfl)); replace HB := am (hb); replace HI0 := am (hi); (try clear hb hk hi)) | ((with_reducible refine gate_callee (f := 67) rfl ?_); refine goesL_ (some 7) rfl rfl Try.func67 Q1 rfl #[.pointer (some ⟨g, 0, none⟩), .int .i64 8] rfl Q37 ?_; (with_reducible refine (spec_l6Rd_pick.calls k g s0_0 t157 8 t158 t159 w0 _ ?side1 ?side2 A4.out).mono ?_); (case side1 => exact Q61); (case side2 => exact Q67); rintro e w8 ⟨rfl, hi, hb, hk⟩; refine ⟨_, rfl, ?_⟩; replace BK155 := am (KeepBut.blk hk (g' := gb155) (o := .cells #[.int .i64 0, .int .i64 0] 36 (0, 0)) Q28 NB155_0.out (by simp)); replace HK := am (KeepBut.trans Q57 hk (.inl rfl)); replace HB := am (hb); replace HI0 := am (hi); (try clear hb hk hi)) | ((with_reducible refine gate_callee (f := 67) rfl ?_); refine goesL_ (some 9) rfl rfl Try.func67 Q1 rfl #[.pointer (some ⟨g, 0, none⟩), .int .i64 8] rfl Q37 ?_; (with_reducible refine (spec_l6Rd_pick.calls k g s0_0 t159 8 t160 t161 w0 _ ?side1 ?side2 A5.out).mono ?_); (case side1 => exact Q61); (case side2 => exact Q67); rintro e w9 ⟨rfl, hi, hb, hk⟩; refine ⟨_, rfl, ?_⟩; replace BK155 := am (KeepBut.blk hk (g' := gb155) (o := .cells #[.int .i64 0, .int .i64 0] 36 (0, 0)) Q28 NB155_0.out (by simp)); replace HK := am (KeepBut.trans Q57 hk (.inl rfl)); replace HB := am (hb); replace HI0 := am (hi); (try clear hb hk hi); have hnb10 := NB155_0.out; have hnc10 := NB0_155.out; obtain ⟨hcz11_0, hcz11_1, hfz11_0, hfz11_1⟩ := bx2_ BK155))
  refine bodyPost_ret (results_cell_row rfl _ _ gb155 36 #[.int .i64 t158, .int .i64 t160] (0, 0) _ rfl (by (with_reducible repeat (first | refine blk_drewN ?_ _ | refine blk_drew ?_ | refine blk_alloc ?_ _)); refine blk_put (cs := #[.int .i64 t158, .int .i64 0]) ?_ 1 _ rfl; (with_reducible repeat (first | refine blk_drewN ?_ _ | refine blk_drew ?_ | refine blk_alloc ?_ _)); refine blk_put (cs := #[.int .i64 0, .int .i64 0]) ?_ 0 _ rfl; (with_reducible repeat (first | refine blk_drewN ?_ _ | refine blk_drew ?_ | refine blk_alloc ?_ _)); exact BK155.out) Try.underlying36 rfl Q1) rfl ?_
  exact ⟨Q9, Q61, Q67, Q57⟩
 ·rw [if_neg c3] at H
  have c3b0 : (t156 == 0) = false := beq_eq_false_iff_ne.mpr c3
  have c3b1 : (t156 != 0) = true := bne_iff_ne.mpr c3
  replace H := Option.bind_eq_some_iff.mp H
  obtain ⟨⟨t162, t163⟩, A120, H⟩ := H
  replace H : ((spec_l6Rd_pick.f k s0_0 t163 4).bind fun bt164 => (some (t162, bt164.1, bt164.2))) = some (r1, r2, r3) := H
  have A12 := Aside0.mk A120
  clear A120
  replace H := Option.bind_eq_some_iff.mp H
  obtain ⟨⟨t164, t165⟩, A130, H⟩ := H
  replace H : (some (t162, t164, t165)) = some (r1, r2, r3) := H
  have A13 := Aside0.mk A130
  clear A130
  simp only [Option.some.injEq, Prod.mk.injEq] at H
  obtain ⟨rfl, rfl, rfl⟩ := H
  go_enter Try.func98, Try.ntmps98
  go_wp2_with (first | ((with_reducible refine gate_dst (N := 2) rfl ?_); refine bE_ 2 #[.int .i64 0, .int .i64 0] 36 ?_; intro gb155 hg w14 hbox hb; replace HB := am (below_step Q55 hb); have BK155 := am (hbox); have GW155 := am ((Q83 : w.heap.size ≤ gb155)); have GE155 := am ((Nat.le_trans HW0.out (Q83 : w.heap.size ≤ gb155) : w0.heap.size ≤ gb155)); replace HK := am (KeepBut.trans Q39 (KeepBut.of_below hb g none) (.inl rfl)); have NB0_155 := am ((by rw [hg]; exact Nat.ne_of_lt (IsS112.lt (show IsS112 w0 _ g s0_0 s0_1 from by repeat (first | (with_reducible first | exact HI0.out | apply IsS112.alloc | apply IsS112.drewN | apply IsS112.drew | apply IsS112.set_1) | exact HI0.out))) : g ≠ gb155)); have NB155_0 := am ((by rw [hg]; exact Nat.ne_of_gt (IsS112.lt (show IsS112 w0 _ g s0_0 s0_1 from by repeat (first | (with_reducible first | exact HI0.out | apply IsS112.alloc | apply IsS112.drewN | apply IsS112.drew | apply IsS112.set_1) | exact HI0.out))) : gb155 ≠ g)); replace HI0 := am (IsS112.below Q40 hb); clear hb hbox hg) | ((with_reducible refine gate_callee (f := 67) rfl ?_); refine goesL_ (some 4) rfl rfl Try.func67 Q1 rfl #[.pointer (some ⟨g, 0, none⟩), .int .i64 10] rfl Q37 ?_; (with_reducible refine (spec_l6Rd_pick.calls k g s0_0 s0_1 10 t156 t157 w0 _ ?side1 ?side2 A2.out).mono ?_); (case side1 => exact Q61); (case side2 => exact Q67); rintro e w15 ⟨rfl, hi, hb, hk⟩; refine ⟨_, rfl, ?_⟩; replace BK155 := am (KeepBut.blk hk (g' := gb155) (o := .cells #[.int .i64 0, .int .i64 0] 36 (0, 0)) Q28 NB155_0.out (by simp)); replace HK := am (KeepBut.trans Q57 hk (.inl rfl)); replace HB := am (hb); replace HI0 := am (hi); (try clear hb hk hi)) | ((with_reducible refine gate_callee (f := 67) rfl ?_); refine goesL_ (some 12) rfl rfl Try.func67 Q1 rfl #[.pointer (some ⟨g, 0, none⟩), .int .i64 4] rfl Q37 ?_; (with_reducible refine (spec_l6Rd_pick.calls k g s0_0 t157 4 t162 t163 w0 _ ?side1 ?side2 A12.out).mono ?_); (case side1 => exact Q61); (case side2 => exact Q67); rintro e w16 ⟨rfl, hi, hb, hk⟩; refine ⟨_, rfl, ?_⟩; replace BK155 := am (KeepBut.blk hk (g' := gb155) (o := .cells #[.int .i64 0, .int .i64 0] 36 (0, 0)) Q28 NB155_0.out (by simp)); replace HK := am (KeepBut.trans Q57 hk (.inl rfl)); replace HB := am (hb); replace HI0 := am (hi); (try clear hb hk hi)) | ((with_reducible refine gate_callee (f := 67) rfl ?_); refine goesL_ (some 14) rfl rfl Try.func67 Q1 rfl #[.pointer (some ⟨g, 0, none⟩), .int .i64 4] rfl Q37 ?_; (with_reducible refine (spec_l6Rd_pick.calls k g s0_0 t163 4 t164 t165 w0 _ ?side1 ?side2 A13.out).mono ?_); (case side1 => exact Q61); (case side2 => exact Q67); rintro e w17 ⟨rfl, hi, hb, hk⟩; refine ⟨_, rfl, ?_⟩; replace BK155 := am (KeepBut.blk hk (g' := gb155) (o := .cells #[.int .i64 0, .int .i64 0] 36 (0, 0)) Q28 NB155_0.out (by simp)); replace HK := am (KeepBut.trans Q57 hk (.inl rfl)); replace HB := am (hb); replace HI0 := am (hi); (try clear hb hk hi); have hnb18 := NB155_0.out; have hnc18 := NB0_155.out; obtain ⟨hcz19_0, hcz19_1, hfz19_0, hfz19_1⟩ := bx2_ BK155))
  refine bodyPost_ret (results_cell_row rfl _ _ gb155 36 #[.int .i64 t162, .int .i64 t164] (0, 0) _ rfl (by (with_reducible repeat (first | refine blk_drewN ?_ _ | refine blk_drew ?_ | refine blk_alloc ?_ _)); refine blk_put (cs := #[.int .i64 t162, .int .i64 0]) ?_ 1 _ rfl; (with_reducible repeat (first | refine blk_drewN ?_ _ | refine blk_drew ?_ | refine blk_alloc ?_ _)); refine blk_put (cs := #[.int .i64 0, .int .i64 0]) ?_ 0 _ rfl; (with_reducible repeat (first | refine blk_drewN ?_ _ | refine blk_drew ?_ | refine blk_alloc ?_ _)); exact BK155.out) Try.underlying36 rfl Q1) rfl ?_
  exact ⟨Q9, Q61, Q67, Q57⟩
def spec_l71Row.f (k : Nat) (s0_0 : List Int) (s0_1 : Int) : Option (Int × Int × Int × Int × Int × Int) := (spec_l6Rd_pick.f k s0_0 s0_1 4).bind fun bt167 => ((some (([0, 1, 2, 3, 4, 9, 10, 57, 99] : List Int) : List Int)).bind fun y169 => ((spec_l6Rd_pick.f k s0_0 bt167.2 9).bind fun bt172 => (if 0 ≤ bt172.1 then (if bt172.1 < (y169.length : Int) then ((spec_l71Time.f k s0_0 bt172.2).bind fun bt175 => ((some (([1, 1, 1, 2, (-1), (-1), 3, 0] : List Int) : List Int)).bind fun y178 => ((spec_l6Rd_pick.f k s0_0 bt175.2.2 8).bind fun bt181 => (if 0 ≤ bt181.1 then (if bt181.1 < (y178.length : Int) then (some (bt167.1, rd y169 bt172.1, bt175.1, bt175.2.1, rd y178 bt181.1, bt181.2)) else (none)) else (none))))) else (none)) else (none))))
def spec_l71Row.T1 : Bool × List (List Nat × List Nat) := (true, [([], []), ([0], [0]), ([], []), ([], []), ([3, 1], [3]), ([2, 4], [2, 4]), ([5], [5]), ([], []), ([7, 4], [7]), ([], []), ([], []), ([10, 8], [10]), ([9, 11], [9, 11]), ([12], [12]), ([1, 6, 8, 13], [1, 6, 8, 13]), ([14, 11, 0, 1, 2, 3, 4, 5, 6, 7, 8, 9, 10, 11, 12, 13, 14], [14])])
def spec_l71Row.B1 : List Nat := [0, 1, 0, 0, 11, 31, 63, 0, 155, 0, 0, 1435, 3995, 8091, 16383, 32767]
theorem spec_l71Row.tab1 : rtab .any (opsOf Try.f125 1) = spec_l71Row.T1 := by kernel_rfl
theorem spec_l71Row.bits1 : waitsOk spec_l71Row.T1.2 spec_l71Row.B1 = true := by kernel_rfl
end Go.Proofs.Ytpggfdjnebccnaa.PFnBatchTimes
