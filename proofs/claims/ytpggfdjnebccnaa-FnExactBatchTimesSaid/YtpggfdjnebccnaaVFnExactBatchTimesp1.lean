/- Functions that the law comes to: each as a plain Lean function, with the contract of the Go function. -/
import Derived.Test.YtpggfdjnebccnaaVFnExactBatchTimesw
import Derived.Test.YtpggfdjnebccnaaVFnExactBatchTimesp0
import Derived.Test.YtpggfdjnebccnaaVFnExactBatchTimesg0
import Derived.Test.YtpggfdjnebccnaaVFnExactBatchTimesg1
namespace Go.Proofs.Ytpggfdjnebccnaa.PFnExactBatchTimes
open Go.RowKit Go.Proofs.YtpggfdjnebccnaaW.PrintWords Go.Proofs.YtpggfdjnebccnaaW.PrintLast Go.Proofs.YtpggfdjnebccnaaW.PrintMore
attribute [local go_sem] max2_int min2_int max_two min_two max_three min_three max_four min_four
set_option linter.unusedVariables false
set_option linter.unusedSimpArgs false
attribute [local go_sem high] eqA36
def laws_eqTime.f (a0_0 : Int) (a0_1 : Int) (a1_0 : Int) (a1_1 : Int) : Option (Bool) := if a0_0 = a1_0 then (if a0_1 = a1_1 then (some true) else (some false)) else (some false)
set_option maxHeartbeats 8000000 in
set_option maxRecDepth 100000 in
theorem laws_eqTime.calls (a0_0 : Int) (a0_1 : Int) (a1_0 : Int) (a1_1 : Int) (r : Bool) (w : World) (h : laws_eqTime.f a0_0 a0_1 a1_0 a1_1 = some r) :
  Calls Try.prog 65 #[.agg #[.int .i64 a0_0, .int .i64 a0_1], .agg #[.int .i64 a1_0, .int .i64 a1_1]] w fun e w' => e = .returned (.bool r) ∧ Below w.heap.size w w' := by
 have hu36 := Try.underlying36
 have HB := am (Below.refl w.heap.size w)
 have H : (if a0_0 = a1_0 then (if a0_1 = a1_1 then (some true) else (some false)) else (some false)) = some r := h
 clear h
 by_cases c3 : a0_0 = a1_0
 ·rw [if_pos c3] at H
  have c3b0 : (a0_0 == a1_0) = true := beq_iff_eq.mpr c3
  have c3b1 : (a0_0 != a1_0) = false := bne_eq_false_iff_eq.mpr c3
  clear c3
  by_cases c4 : a0_1 = a1_1
  ·rw [if_pos c4] at H
   have c4b0 : (a0_1 == a1_1) = true := beq_iff_eq.mpr c4
   have c4b1 : (a0_1 != a1_1) = false := bne_eq_false_iff_eq.mpr c4
   clear c4
   obtain rfl := Option.some.inj H
   go_enter Try.func65, Try.ntmps65
   go_wp2_with (first | ((with_reducible refine gate_dst (N := 2) rfl ?_); refine bE_ 2 #[.int .i64 a0_0, .int .i64 a0_1] 36 ?_; intro gb101 hg w5 hbox hb; have BK101 := am (hbox); have GW101 := am ((Q38 : w.heap.size ≤ gb101)); replace HB := am (below_step Q24 hb); have GE101 := GW101; clear hb hbox hg) | ((with_reducible refine gate_dst (N := 3) rfl ?_); refine bE_ 3 #[.int .i64 a1_0, .int .i64 a1_1] 36 ?_; intro gb102 hg w6 hbox hb; have BK102 := am (hbox); have GW102 := am ((by rw [hg]; exact (below_size Q27) : w.heap.size ≤ gb102)); replace HB := am (below_step Q27 hb); have NB101_102 := am ((Q39 : gb101 ≠ gb102)); have NB102_101 := am ((Q40 : gb102 ≠ gb101)); replace BK101 := am (blk_below (g := gb101) (o := .cells #[.int .i64 a0_0, .int .i64 a0_1] 36 (0, 0)) Q15 hb); have GE102 := GW102; clear hb hbox hg; have hnb7 := NB101_102.out; have hnc7 := NB102_101.out; obtain ⟨hcz8_0, hcz8_1, hfz8_0, hfz8_1⟩ := bx2_ BK101; obtain ⟨hcz9_0, hcz9_1, hfz9_0, hfz9_1⟩ := bx2_ BK102))
   go_ret
   exact ⟨Q6, Q34⟩
  ·rw [if_neg c4] at H
   have c4b0 : (a0_1 == a1_1) = false := beq_eq_false_iff_ne.mpr c4
   have c4b1 : (a0_1 != a1_1) = true := bne_iff_ne.mpr c4
   obtain rfl := Option.some.inj H
   go_enter Try.func65, Try.ntmps65
   go_wp2_with (first | ((with_reducible refine gate_dst (N := 2) rfl ?_); refine bE_ 2 #[.int .i64 a0_0, .int .i64 a0_1] 36 ?_; intro gb101 hg w10 hbox hb; have BK101 := am (hbox); have GW101 := am ((Q38 : w.heap.size ≤ gb101)); replace HB := am (below_step Q24 hb); have GE101 := GW101; clear hb hbox hg) | ((with_reducible refine gate_dst (N := 3) rfl ?_); refine bE_ 3 #[.int .i64 a1_0, .int .i64 a1_1] 36 ?_; intro gb102 hg w11 hbox hb; have BK102 := am (hbox); have GW102 := am ((by rw [hg]; exact (below_size Q27) : w.heap.size ≤ gb102)); replace HB := am (below_step Q27 hb); have NB101_102 := am ((Q39 : gb101 ≠ gb102)); have NB102_101 := am ((Q40 : gb102 ≠ gb101)); replace BK101 := am (blk_below (g := gb101) (o := .cells #[.int .i64 a0_0, .int .i64 a0_1] 36 (0, 0)) Q15 hb); have GE102 := GW102; clear hb hbox hg; have hnb12 := NB101_102.out; have hnc12 := NB102_101.out; obtain ⟨hcz13_0, hcz13_1, hfz13_0, hfz13_1⟩ := bx2_ BK101; obtain ⟨hcz14_0, hcz14_1, hfz14_0, hfz14_1⟩ := bx2_ BK102))
   go_ret
   exact ⟨Q6, Q34⟩
 ·rw [if_neg c3] at H
  have c3b0 : (a0_0 == a1_0) = false := beq_eq_false_iff_ne.mpr c3
  have c3b1 : (a0_0 != a1_0) = true := bne_iff_ne.mpr c3
  obtain rfl := Option.some.inj H
  go_enter Try.func65, Try.ntmps65
  go_wp2_with (first | ((with_reducible refine gate_dst (N := 2) rfl ?_); refine bE_ 2 #[.int .i64 a0_0, .int .i64 a0_1] 36 ?_; intro gb101 hg w15 hbox hb; have BK101 := am (hbox); have GW101 := am ((Q38 : w.heap.size ≤ gb101)); replace HB := am (below_step Q24 hb); have GE101 := GW101; clear hb hbox hg) | ((with_reducible refine gate_dst (N := 3) rfl ?_); refine bE_ 3 #[.int .i64 a1_0, .int .i64 a1_1] 36 ?_; intro gb102 hg w16 hbox hb; have BK102 := am (hbox); have GW102 := am ((by rw [hg]; exact (below_size Q27) : w.heap.size ≤ gb102)); replace HB := am (below_step Q27 hb); have NB101_102 := am ((Q39 : gb101 ≠ gb102)); have NB102_101 := am ((Q40 : gb102 ≠ gb101)); replace BK101 := am (blk_below (g := gb101) (o := .cells #[.int .i64 a0_0, .int .i64 a0_1] 36 (0, 0)) Q15 hb); have GE102 := GW102; clear hb hbox hg; have hnb17 := NB101_102.out; have hnc17 := NB102_101.out; obtain ⟨hcz18_0, hcz18_1, hfz18_0, hfz18_1⟩ := bx2_ BK101; obtain ⟨hcz19_0, hcz19_1, hfz19_0, hfz19_1⟩ := bx2_ BK102))
  go_ret
  exact ⟨Q6, Q34⟩
def laws_eqTimeS.l0 : Nat → List (S36) → List (S36) → Int → Option (Bool)
 | 0, _, _, _ => none
 | k + 1, x0, x1, x5 => if x5 < (x0.length : Int) then (if 0 ≤ x5 then (if x5 < (x1.length : Int) then ((laws_eqTime.f ((rd_T36 x0 x5).f0) ((rd_T36 x0 x5).f1) ((rd_T36 x1 x5).f0) ((rd_T36 x1 x5).f1)).bind fun t105 => (if t105 = true then (laws_eqTimeS.l0 k x0 x1 (wrap64 (x5 + 1))) else (some false))) else (none)) else (none)) else (some true)
def laws_eqTimeS.f (k : Nat) (l0 : List (S36)) (l1 : List (S36)) : Option (Bool) := if (l0.length : Int) = (l1.length : Int) then (laws_eqTimeS.l0 k l0 l1 0) else (some false)
def laws_eqTimeS.T6 : Bool × List (List Nat × List Nat) := (true, [([], []), ([], []), ([0, 1], [0, 1]), ([2], [2]), ([], []), ([], []), ([4, 5], [4, 5]), ([6], [6]), ([3, 7], [3, 7]), ([8], [8])])
def laws_eqTimeS.B6 : List Nat := [0, 0, 3, 7, 0, 0, 48, 112, 255, 511]
theorem laws_eqTimeS.tab6 : rtab .any (opsOf Try.f19 6) = laws_eqTimeS.T6 := by kernel_rfl
theorem laws_eqTimeS.bits6 : waitsOk laws_eqTimeS.T6.2 laws_eqTimeS.B6 = true := by kernel_rfl
set_option maxHeartbeats 8000000 in
set_option maxRecDepth 100000 in
theorem laws_eqTimeS.calls (k : Nat) (A0 : Option Addr) (c0 : Nat) (l0 : List (S36)) (A1 : Option Addr) (c1 : Nat) (l1 : List (S36)) (r : Bool) (w : World) (hr0 : Kd.C k36 w A0 l0.length l0) (hc0 : l0.length ≤ c0) (hr1 : Kd.C k36 w A1 l1.length l1) (hc1 : l1.length ≤ c1) (h : laws_eqTimeS.f k l0 l1 = some r) :
  Calls Try.prog 19 #[.slice A0 l0.length c0, .slice A1 l1.length c1] w fun e w' => e = .returned (.bool r) ∧ Below w.heap.size w w' := by
 have hu36 := Try.underlying36
 have HR0 := Aside0.mk hr0
 have HC0 := Aside0.mk hc0
 clear hr0 hc0
 have HR1 := Aside0.mk hr1
 have HC1 := Aside0.mk hc1
 clear hr1 hc1
 have HB := am (Below.refl w.heap.size w)
 have H : (if (l0.length : Int) = (l1.length : Int) then (laws_eqTimeS.l0 k l0 l1 0) else (some false)) = some r := h
 clear h
 by_cases c3 : (l0.length : Int) = (l1.length : Int)
 ·rw [if_pos c3] at H
  have c3b0 : ((l0.length : Int) == (l1.length : Int)) = true := beq_iff_eq.mpr c3
  have c3b1 : ((l0.length : Int) != (l1.length : Int)) = false := bne_eq_false_iff_eq.mpr c3
  have c3b2 : (l0.length == l1.length) = true := by first | simpa using c3 | (simp at c3 ⊢; omega)
  clear c3
  have H' := Aside0.mk H
  clear H
  go_enter Try.func19, Try.ntmps19
  go_wp2
  go_loopg [5] k (fun kq v5 w' => ∃ (x5_1 : Int), v5 = .int .i64 x5_1 ∧ Aside0 (laws_eqTimeS.l0 kq l0 l1 x5_1 = some r) ∧ Aside0 (kq ≤ k) ∧ Aside0 (Below w.heap.size w w'))
  case atStart => exact ⟨(0), Q1, H', ⟨Nat.le_refl _⟩, ⟨Q24⟩⟩
  case round =>
   clear H'
   try clear c1
   try clear p2
   try clear c3
   try clear c3b0
   try clear c3b1
   try clear c3b2
   obtain ⟨x5_1, rfl, HA, HK1, HB⟩ := hrel
   cases gk with
   | zero => exact absurd HA.out (by simp [laws_eqTimeS.l0])
   | succ k1 =>
    have H := HA.out
    clear HA
    simp only [laws_eqTimeS.l0] at H
    by_cases c4 : x5_1 < (l0.length : Int)
    ·rw [if_pos c4] at H
     have c4b0 : decide (x5_1 < (l0.length : Int)) = true := decide_eq_true c4
     clear c4
     have c5 : 0 ≤ x5_1 := nn_ H
     rw [if_pos c5] at H
     have c5b0 : decide (0 ≤ x5_1) = true := decide_eq_true c5
     clear c5
     have c6 : x5_1 < (l1.length : Int) := nn_ H
     rw [if_pos c6] at H
     have c6b0 : decide (x5_1 < (l1.length : Int)) = true := decide_eq_true c6
     clear c6
     replace H := Option.bind_eq_some_iff.mp H
     obtain ⟨t105, A70, H⟩ := H
     replace H : (if t105 = true then (laws_eqTimeS.l0 k1 l0 l1 (wrap64 (x5_1 + 1))) else (some false)) = some r := H
     have A7 := Aside0.mk A70
     clear A70
     by_cases c8 : t105 = true
     ·subst c8
      have H1 : (laws_eqTimeS.l0 k1 l0 l1 (wrap64 (x5_1 + 1))) = some r := by rw [if_pos rfl] at H; exact H
      clear H
      have H := H1
      clear H1
      have H' := Aside0.mk H
      clear H
      try go_wp2
      replace HB := am (below_drew1 HB.out)
      have p103 : 0 ≤ (x5_1 : Int) := of_decide_eq_true Q2
      have q103 : x5_1 < (l0.length : Int) := of_decide_eq_true Q2
      obtain ⟨ad103, e103, hx103_0, hx103_1⟩ := at_T36 HR0.out x5_1 p103 q103
      have hw103_1 := hx103_1
      have hw103_0 := hx103_0
      cases e103
      replace hx103_0 := (HB.out.cell (World.block_lt_of_cell? w _ hx103_0)).trans hx103_0
      replace hx103_1 := (HB.out.cell (World.block_lt_of_cell? w _ hx103_1)).trans hx103_1
      replace p103 := eq_true p103
      replace q103 := eq_true q103
      have p104 : 0 ≤ (x5_1 : Int) := of_decide_eq_true Q2
      have q104 : x5_1 < (l1.length : Int) := of_decide_eq_true Q2
      obtain ⟨ad104, e104, hx104_0, hx104_1⟩ := at_T36 HR1.out x5_1 p104 q104
      have hw104_1 := hx104_1
      have hw104_0 := hx104_0
      cases e104
      replace hx104_0 := (HB.out.cell (World.block_lt_of_cell? w _ hx104_0)).trans hx104_0
      replace hx104_1 := (HB.out.cell (World.block_lt_of_cell? w _ hx104_1)).trans hx104_1
      replace p104 := eq_true p104
      replace q104 := eq_true q104
      refine start_ (n := 10) (S := fun w' => w'.cell? (ad103.add ((x5_1).toNat * 2)) = some (.int .i64 ((rd_T36 l0 x5_1).f0)) ∧ w'.cell? ⟨(ad103.add ((x5_1).toNat * 2)).block, (ad103.add ((x5_1).toNat * 2)).off + 1, none⟩ = some (.int .i64 ((rd_T36 l0 x5_1).f1)) ∧ w'.cell? (ad104.add ((x5_1).toNat * 2)) = some (.int .i64 ((rd_T36 l1 x5_1).f0)) ∧ w'.cell? ⟨(ad104.add ((x5_1).toNat * 2)).block, (ad104.add ((x5_1).toNat * 2)).off + 1, none⟩ = some (.int .i64 ((rd_T36 l1 x5_1).f1))) (ds := []) b10_0 Q0 rfl rfl ⟨((HB.out.cell (World.block_lt_of_cell? w _ hw103_0)).trans hw103_0), ((HB.out.cell (World.block_lt_of_cell? w _ hw103_1)).trans hw103_1), ((HB.out.cell (World.block_lt_of_cell? w _ hw104_0)).trans hw104_0), ((HB.out.cell (World.block_lt_of_cell? w _ hw104_1)).trans hw104_1)⟩ (fun hHeld => ?_); refine with_tabW laws_eqTimeS.tab6 laws_eqTimeS.bits6 (fun HT_ HW_ => ?_)
      generalize wr.drew = w9 at HB hx103_0 hx103_1 hx104_0 hx104_1 hHeld ⊢
      refine pU_ 0 17 b10_1 ?_
      refine pU_ 1 18 b10_2 ?_
      refine pU_ 2 19 b10_3 ?_
      refine pU_ 4 21 c4 ?_
      refine pU_ 5 22 c5 ?_
      refine pU_ 6 23 c6 ?_
      refine tU_ 3 20 b10_7 hHeld ?_
      refine tU_ 7 24 b10_8 hHeld ?_
      refine one_ (i := 8) (N := some 25) b10_9 rfl rfl (one_of HT_.out Q0) (by decide) (fun K hK => ?_)
      refine goes_ Try.func65 Q0 rfl #[.agg #[.int .i64 ((rd_T36 l0 x5_1).f0), .int .i64 ((rd_T36 l0 x5_1).f1)], .agg #[.int .i64 ((rd_T36 l1 x5_1).f0), .int .i64 ((rd_T36 l1 x5_1).f1)]] (by rfl) rfl rfl Q25 ?_
      with_reducible refine (laws_eqTime.calls ((rd_T36 l0 x5_1).f0) ((rd_T36 l0 x5_1).f1) ((rd_T36 l1 x5_1).f0) ((rd_T36 l1 x5_1).f1) true _ A7.out).mono ?_
      rintro e w10 ⟨rfl, hb⟩
      refine ⟨_, rfl, ?_⟩
      replace HB := am (below_step Q24 hb)
      (try clear hb)
      (try clear hb2)
      (try clear hk)
      (try clear hi)
      refine hK.out _ _ ⟨((HB.out.cell (World.block_lt_of_cell? w _ hw103_0)).trans hw103_0), ((HB.out.cell (World.block_lt_of_cell? w _ hw103_1)).trans hw103_1), ((HB.out.cell (World.block_lt_of_cell? w _ hw104_0)).trans hw104_0), ((HB.out.cell (World.block_lt_of_cell? w _ hw104_1)).trans hw104_1)⟩ (fun hHeld => ?_)
      clear hK K
      refine norm_ (a' := ?_) ?_ ?_
      rotate_left
      ·show Act.put _ (some 25) _ = _
       simp only [Act.put, List.setIfInBounds_toArray, List.set_cons_zero, List.set_cons_succ, i64_w, i32_w]
       rfl
      refine pU_ 9 26 b10_10 ?_
      refine done_ (done_of HT_.out Q0) ?_
      try go_wp2
      go_roundg k1
      case measure => have := HK1.out; omega
      case rel => exact ⟨(wrap64 (x5_1 + 1)), Q1, H', ⟨by have := HK1.out; omega⟩, ⟨Q24⟩⟩
     ·replace c8 := Bool.eq_false_iff.mpr c8
      subst c8
      have H1 : (some false) = some r := by rw [if_neg (show ¬ (false = true) by decide)] at H; exact H
      clear H
      have H := H1
      clear H1
      obtain rfl := Option.some.inj H
      try go_wp2
      replace HB := am (below_drew1 HB.out)
      have p103 : 0 ≤ (x5_1 : Int) := of_decide_eq_true Q2
      have q103 : x5_1 < (l0.length : Int) := of_decide_eq_true Q2
      obtain ⟨ad103, e103, hx103_0, hx103_1⟩ := at_T36 HR0.out x5_1 p103 q103
      have hw103_1 := hx103_1
      have hw103_0 := hx103_0
      cases e103
      replace hx103_0 := (HB.out.cell (World.block_lt_of_cell? w _ hx103_0)).trans hx103_0
      replace hx103_1 := (HB.out.cell (World.block_lt_of_cell? w _ hx103_1)).trans hx103_1
      replace p103 := eq_true p103
      replace q103 := eq_true q103
      have p104 : 0 ≤ (x5_1 : Int) := of_decide_eq_true Q2
      have q104 : x5_1 < (l1.length : Int) := of_decide_eq_true Q2
      obtain ⟨ad104, e104, hx104_0, hx104_1⟩ := at_T36 HR1.out x5_1 p104 q104
      have hw104_1 := hx104_1
      have hw104_0 := hx104_0
      cases e104
      replace hx104_0 := (HB.out.cell (World.block_lt_of_cell? w _ hx104_0)).trans hx104_0
      replace hx104_1 := (HB.out.cell (World.block_lt_of_cell? w _ hx104_1)).trans hx104_1
      replace p104 := eq_true p104
      replace q104 := eq_true q104
      refine start_ (n := 10) (S := fun w' => w'.cell? (ad103.add ((x5_1).toNat * 2)) = some (.int .i64 ((rd_T36 l0 x5_1).f0)) ∧ w'.cell? ⟨(ad103.add ((x5_1).toNat * 2)).block, (ad103.add ((x5_1).toNat * 2)).off + 1, none⟩ = some (.int .i64 ((rd_T36 l0 x5_1).f1)) ∧ w'.cell? (ad104.add ((x5_1).toNat * 2)) = some (.int .i64 ((rd_T36 l1 x5_1).f0)) ∧ w'.cell? ⟨(ad104.add ((x5_1).toNat * 2)).block, (ad104.add ((x5_1).toNat * 2)).off + 1, none⟩ = some (.int .i64 ((rd_T36 l1 x5_1).f1))) (ds := []) b10_0 Q0 rfl rfl ⟨((HB.out.cell (World.block_lt_of_cell? w _ hw103_0)).trans hw103_0), ((HB.out.cell (World.block_lt_of_cell? w _ hw103_1)).trans hw103_1), ((HB.out.cell (World.block_lt_of_cell? w _ hw104_0)).trans hw104_0), ((HB.out.cell (World.block_lt_of_cell? w _ hw104_1)).trans hw104_1)⟩ (fun hHeld => ?_); refine with_tabW laws_eqTimeS.tab6 laws_eqTimeS.bits6 (fun HT_ HW_ => ?_)
      generalize wr.drew = w11 at HB hx103_0 hx103_1 hx104_0 hx104_1 hHeld ⊢
      refine pU_ 0 17 b10_1 ?_
      refine pU_ 1 18 b10_2 ?_
      refine pU_ 2 19 b10_3 ?_
      refine pU_ 4 21 c4 ?_
      refine pU_ 5 22 c5 ?_
      refine pU_ 6 23 c6 ?_
      refine tU_ 3 20 b10_7 hHeld ?_
      refine tU_ 7 24 b10_8 hHeld ?_
      refine one_ (i := 8) (N := some 25) b10_9 rfl rfl (one_of HT_.out Q0) (by decide) (fun K hK => ?_)
      refine goes_ Try.func65 Q0 rfl #[.agg #[.int .i64 ((rd_T36 l0 x5_1).f0), .int .i64 ((rd_T36 l0 x5_1).f1)], .agg #[.int .i64 ((rd_T36 l1 x5_1).f0), .int .i64 ((rd_T36 l1 x5_1).f1)]] (by rfl) rfl rfl Q25 ?_
      with_reducible refine (laws_eqTime.calls ((rd_T36 l0 x5_1).f0) ((rd_T36 l0 x5_1).f1) ((rd_T36 l1 x5_1).f0) ((rd_T36 l1 x5_1).f1) false _ A7.out).mono ?_
      rintro e w12 ⟨rfl, hb⟩
      refine ⟨_, rfl, ?_⟩
      replace HB := am (below_step Q24 hb)
      (try clear hb)
      (try clear hb2)
      (try clear hk)
      (try clear hi)
      refine hK.out _ _ ⟨((HB.out.cell (World.block_lt_of_cell? w _ hw103_0)).trans hw103_0), ((HB.out.cell (World.block_lt_of_cell? w _ hw103_1)).trans hw103_1), ((HB.out.cell (World.block_lt_of_cell? w _ hw104_0)).trans hw104_0), ((HB.out.cell (World.block_lt_of_cell? w _ hw104_1)).trans hw104_1)⟩ (fun hHeld => ?_)
      clear hK K
      refine norm_ (a' := ?_) ?_ ?_
      rotate_left
      ·show Act.put _ (some 25) _ = _
       simp only [Act.put, List.setIfInBounds_toArray, List.set_cons_zero, List.set_cons_succ, i64_w, i32_w]
       rfl
      refine pU_ 9 26 b10_10 ?_
      refine done_ (done_of HT_.out Q0) ?_
      try go_wp2
      go_ret
      exact ⟨Q6, Q24⟩
    ·rw [if_neg c4] at H
     have c4b0 : decide (x5_1 < (l0.length : Int)) = false := decide_eq_false c4
     clear c4
     obtain rfl := Option.some.inj H
     go_wp2
     go_ret
     exact ⟨Q6, Q24⟩
 ·rw [if_neg c3] at H
  have c3b0 : ((l0.length : Int) == (l1.length : Int)) = false := beq_eq_false_iff_ne.mpr c3
  have c3b1 : ((l0.length : Int) != (l1.length : Int)) = true := bne_iff_ne.mpr c3
  have c3b2 : (l0.length == l1.length) = false := by first | simpa using c3 | (simp at c3 ⊢; omega)
  obtain rfl := Option.some.inj H
  go_enter Try.func19, Try.ntmps19
  go_wp2
  go_ret
  exact ⟨Q6, Q24⟩
def laws_markTimeS.l0 : Nat → List (S36) → Int → Int → Option (Int × (List (S36)))
 | 0, _, _, _ => none
 | k + 1, x0, x1, x5 => if x5 < (x0.length : Int) then (if 0 ≤ x5 then ((some (x0.set (x5 : Int).toNat (⟨x1, (rd_T36 x0 x5).f1⟩ : S36) : List (S36))).bind fun y106 => (laws_markTimeS.l0 k (y106.set (x5 : Int).toNat (⟨(rd_T36 y106 x5).f0, wrap64 (x1 + 1)⟩ : S36)) (wrap64 ((wrap64 (x1 + 1)) + 1)) (wrap64 (x5 + 1)))) else (none)) else (some (x1, x0))
def laws_markTimeS.f (k : Nat) (l0 : List (S36)) (a1 : Int) : Option (Int × (List (S36))) := laws_markTimeS.l0 k l0 a1 0
set_option maxHeartbeats 8000000 in
set_option maxRecDepth 100000 in
theorem laws_markTimeS.calls (k : Nat) (P0_ : Nat → Prop) (u9000_ : Value) (l0 : List (S36)) (a1 : Int) (r1 : Int) (r2 : List (S36)) (w0 w : World) (hB : Below w0.heap.size w0 w) (ho0 : Kd.R k36 36 w w0.heap.size P0_ u9000_ l0) (h : laws_markTimeS.f k l0 a1 = some (r1, r2)) :
  Calls Try.prog 20 #[u9000_, .int .i64 a1] w fun e w' => e = .returned (.int .i64 r1) ∧ Kd.R k36 36 w' w0.heap.size (fun k_ => (P0_ k_ ∨ w.heap.size ≤ k_)) u9000_ r2 ∧ Below w0.heap.size w0 w' ∧ Kept w w' (fun k_ => P0_ k_) := by
 have HO0 := am (show Kd.R k36 36 w w0.heap.size (fun k_ => (P0_ k_ ∨ w.heap.size ≤ k_)) u9000_ l0 from Kd.R_mono ho0 (fun k_ hk => (.inl hk)))
 have HK := am (Kept.refl w (fun k_ => P0_ k_))
 have HW0 := Aside0.mk hB.size
 have HB := Aside0.mk hB
 clear hB
 have H : (laws_markTimeS.l0 k l0 a1 0) = some (r1, r2) := h
 clear h
 have H' := Aside0.mk H
 clear H
 go_enter Try.func20, Try.ntmps20
 go_wp2
 go_loopg [1, 5] k (fun kq v1 v5 w' => ∃ (x0_1 : List (S36)) (x1_1 : Int) (x5_1 : Int), v1 = .int .i64 x1_1 ∧ v5 = .int .i64 x5_1 ∧ Aside0 (laws_markTimeS.l0 kq x0_1 x1_1 x5_1 = some (r1, r2)) ∧ Aside0 (kq ≤ k) ∧ Aside0 (Kd.R k36 36 w' w0.heap.size (fun k_ => (P0_ k_ ∨ w.heap.size ≤ k_)) u9000_ x0_1) ∧ Aside0 (Kept w w' (fun k_ => P0_ k_)) ∧ Aside0 (Below w0.heap.size w0 w'))
 case atStart => exact ⟨(l0), (a1), (0), Q1, Q1, H', ⟨Nat.le_refl _⟩, ⟨by (with_reducible repeat (first | apply Kd.R_alloc | apply Kd.R_drewN | apply Kd.R_drew)); exact HO0.out⟩, ⟨Q23⟩, ⟨Q24⟩⟩
 case round =>
  clear H'
  try clear c2
  try clear p2
  obtain ⟨x0_1, x1_1, x5_1, rfl, rfl, HA, HK1, HO_0, HK, HB⟩ := hrel
  cases gk with
  | zero => exact absurd HA.out (by simp [laws_markTimeS.l0])
  | succ k1 =>
   have H := HA.out
   clear HA
   simp only [laws_markTimeS.l0] at H
   by_cases c3 : x5_1 < (x0_1.length : Int)
   ·rw [if_pos c3] at H
    have c3b0 : decide (x5_1 < (x0_1.length : Int)) = true := decide_eq_true c3
    clear c3
    have c4 : 0 ≤ x5_1 := nn_ H
    rw [if_pos c4] at H
    have c4b0 : decide (0 ≤ x5_1) = true := decide_eq_true c4
    clear c4
    obtain ⟨y106, hy_⟩ : ∃ y_ : List (S36), y_ = (x0_1.set (x5_1 : Int).toNat (⟨x1_1, (rd_T36 x0_1 x5_1).f1⟩ : S36)) := ⟨_, rfl⟩
    replace H : (laws_markTimeS.l0 k1 (y106.set (x5_1 : Int).toNat (⟨(rd_T36 y106 x5_1).f0, wrap64 (x1_1 + 1)⟩ : S36)) (wrap64 ((wrap64 (x1_1 + 1)) + 1)) (wrap64 (x5_1 + 1))) = some (r1, r2) := Q36
    have Ny106 := Aside0.mk hy_
    clear hy_
    obtain ⟨y107, hy_⟩ : ∃ y_ : List (S36), y_ = (y106.set (x5_1 : Int).toNat (⟨(rd_T36 y106 x5_1).f0, wrap64 (x1_1 + 1)⟩ : S36)) := ⟨_, rfl⟩
    replace H : (laws_markTimeS.l0 k1 y107 (wrap64 ((wrap64 (x1_1 + 1)) + 1)) (wrap64 (x5_1 + 1))) = some (r1, r2) := Q36
    have Ny107 := Aside0.mk hy_
    clear hy_
    have H' := Aside0.mk H
    clear H
    obtain ⟨Ao7, co7, eo7⟩ := Kd.R_slice HO_0.out
    subst eo7
    have p5 : 0 ≤ (x5_1 : Int) := of_decide_eq_true Q2
    have q5 : (x5_1 : Int) < ((x0_1.length : Int) : Int) := of_decide_eq_true Q2
    obtain ⟨go5, co5, eo5, gb5, gl5, cl5, HG5⟩ := Kd.R_form HO_0.out (by omega)
    (first | cases eo5 | (injection eo5 with ea_ en_ ec_; (first | subst ea_ | (injection ea_ with ea_; subst ea_)); subst ec_; clear en_))
    have GB5 := Aside0.mk gb5
    have GG5 := Aside0.mk HG5
    clear gb5 gl5 HG5
    have HMgo5 := am (show (P0_ go5 ∨ w.heap.size ≤ go5) from (HO_0.out.1 _ rfl))
    obtain ⟨ce5, hcl5, hM5, hcc5, hfr5⟩ := Kd.R_elem HO_0.out z36 (x5_1 : Int) p5 q5
    obtain rfl := k36_openM hM5
    have hx5_0 : wr.cell? ⟨go5, (x5_1 : Int).toNat * 2, none⟩ = some (.int .i64 ((rd_T36 x0_1 x5_1).f0)) := hcc5 0 _ rfl
    have hx5_1 : wr.cell? ⟨go5, (x5_1 : Int).toNat * 2 + 1, none⟩ = some (.int .i64 ((rd_T36 x0_1 x5_1).f1)) := hcc5 1 _ rfl
    have hf5_0 : wr.frozen? ⟨go5, (x5_1 : Int).toNat * 2, none⟩ = false := hfr5 0
    have hf5_1 : wr.frozen? ⟨go5, (x5_1 : Int).toNat * 2 + 1, none⟩ = false := hfr5 1
    clear hcl5 hcc5 hfr5 hM5
    replace p5 := eq_true p5
    replace q5 := eq_true q5
    have HX8 := am (show Kd.R k36 36 wr w0.heap.size (fun k_ => (P0_ k_ ∨ w.heap.size ≤ k_)) (.slice (some ⟨go5, 0, none⟩) x0_1.length co7) x0_1 from Q7)
    obtain ⟨ce8, hcl8, hM8, hcc8, hfr8⟩ := Kd.R_elem HX8.out z36 (x5_1 : Int) (of_decide_eq_true Q2) (by have h_ : (x5_1 : Int) < ((x0_1.length : Int) : Int) := of_decide_eq_true Q2; first | exact h_ | (have e_ := (Kd.R_reads' HO_0.out).1; omega) | simpa using h_)
    obtain rfl := k36_openM hM8
    have HP8 := Kd.R_seg HX8.out (x5_1 : Int) (of_decide_eq_true Q2) (by have h_ : (x5_1 : Int) < ((x0_1.length : Int) : Int) := of_decide_eq_true Q2; first | exact h_ | (have e_ := (Kd.R_reads' HO_0.out).1; omega) | simpa using h_) (seg := [.int .i64 x1_1]) (j := 0) hcl8 hcc8 (show 1 ≤ 2 from by decide) (x' := (⟨x1_1, (rd_T36 x0_1 x5_1).f1⟩ : S36)) (k36_mkM _ _ _ (⟨x1_1, (rd_T36 x0_1 x5_1).f1⟩ : S36) ) (fun _ hk => hk)
    have hx8_0 := hcc8 0 _ rfl
    (try simp only [show (k36).sz = 2 from rfl, Nat.mul_one, Nat.add_zero] at hx8_0)
    have hf8_0 := hfr8 0
    (try simp only [show (k36).sz = 2 from rfl, Nat.mul_one, Nat.add_zero] at hf8_0)
    clear hcl8 hcc8 hfr8 hM8
    go_wp2_with (first | ((with_reducible refine gate_store (t := 3) (p := 16) rfl ?_); refine store_event (t := 3) (p := 16) (v := ?vo_w9) (w1 := (wr.setCell ⟨go5, (x5_1 : Int).toNat * 2, none⟩ (.int .i64 x1_1))) ?hg ?ho ?hn ?hr ?_; (case ho => rfl); (case hg => rfl); (case hn => rfl); (case hr => first | (go_simp; done) | (go_simp; rfl)); intro w9 hw; have hg : wr.grownBy w9 (some go5) := (by rw [hw]; exact HP8.2); have hp_ : Kd.R k36 36 w9 w0.heap.size (fun k_ => (P0_ k_ ∨ w.heap.size ≤ k_)) (.slice (some ⟨go5, 0, none⟩) x0_1.length co7) y106 := (by rw [hw, Ny106.out]; exact HP8.1); clear HP8; replace HB := am ((by rw [hw]; exact below_set (HB.out) GB5.out : Below w0.heap.size w0 w9)); replace HK := am (Kept.of_grown (S := (fun k_ => P0_ k_)) hg Q23 (fun k_ e_ => (HO_0.out.1 k_ e_))); replace HO_0 := am (hp_); clear hg hw hp_; have p6 : 0 ≤ (x5_1 : Int) := of_decide_eq_true Q2; have q6 : (x5_1 : Int) < ((x0_1.length : Int) : Int) := of_decide_eq_true Q2; obtain ⟨ce6, hcl6, hM6, hcc6, hfr6⟩ := Kd.R_elem HO_0.out z36 (x5_1 : Int) p6 q6; obtain rfl := k36_openM hM6; have hx6_0 : w9.cell? ⟨go5, (x5_1 : Int).toNat * 2, none⟩ = some (.int .i64 ((rd_T36 y106 x5_1).f0)) := hcc6 0 _ rfl; have hx6_1 : w9.cell? ⟨go5, (x5_1 : Int).toNat * 2 + 1, none⟩ = some (.int .i64 ((rd_T36 y106 x5_1).f1)) := hcc6 1 _ rfl; have hf6_0 : w9.frozen? ⟨go5, (x5_1 : Int).toNat * 2, none⟩ = false := hfr6 0; have hf6_1 : w9.frozen? ⟨go5, (x5_1 : Int).toNat * 2 + 1, none⟩ = false := hfr6 1; clear hcl6 hcc6 hfr6 hM6; replace p6 := eq_true p6; replace q6 := eq_true q6; have HX10 := am (show Kd.R k36 36 w9 w0.heap.size (fun k_ => (P0_ k_ ∨ w.heap.size ≤ k_)) (.slice (some ⟨go5, 0, none⟩) x0_1.length co7) y106 from Q7); obtain ⟨ce10, hcl10, hM10, hcc10, hfr10⟩ := Kd.R_elem HX10.out z36 (x5_1 : Int) (of_decide_eq_true Q2) (by have h_ : (x5_1 : Int) < ((x0_1.length : Int) : Int) := of_decide_eq_true Q2; first | exact h_ | (have e_ := (Kd.R_reads' HO_0.out).1; omega) | simpa using h_); obtain rfl := k36_openM hM10; have HP10 := Kd.R_seg HX10.out (x5_1 : Int) (of_decide_eq_true Q2) (by have h_ : (x5_1 : Int) < ((x0_1.length : Int) : Int) := of_decide_eq_true Q2; first | exact h_ | (have e_ := (Kd.R_reads' HO_0.out).1; omega) | simpa using h_) (seg := [.int .i64 (wrap64 (x1_1 + 1))]) (j := 1) hcl10 hcc10 (show 2 ≤ 2 from by decide) (x' := (⟨(rd_T36 y106 x5_1).f0, wrap64 (x1_1 + 1)⟩ : S36)) (k36_mkM _ _ _ (⟨(rd_T36 y106 x5_1).f0, wrap64 (x1_1 + 1)⟩ : S36) ) (fun _ hk => hk); have hx10_1 := hcc10 1 _ rfl; (try simp only [show (k36).sz = 2 from rfl, Nat.mul_one, Nat.add_zero] at hx10_1); have hf10_1 := hfr10 1; (try simp only [show (k36).sz = 2 from rfl, Nat.mul_one, Nat.add_zero] at hf10_1); clear hcl10 hcc10 hfr10 hM10) | ((with_reducible refine gate_store (t := 3) (p := 23) rfl ?_); refine store_event (t := 3) (p := 23) (v := ?vo_w11) (w1 := (w9.setCell ⟨go5, (x5_1 : Int).toNat * 2 + 1, none⟩ (.int .i64 (wrap64 (x1_1 + 1))))) ?hg ?ho ?hn ?hr ?_; (case ho => rfl); (case hg => rfl); (case hn => rfl); (case hr => first | (go_simp; done) | (go_simp; rfl)); intro w11 hw; have hg : w9.grownBy w11 (some go5) := (by rw [hw]; exact HP10.2); have hp_ : Kd.R k36 36 w11 w0.heap.size (fun k_ => (P0_ k_ ∨ w.heap.size ≤ k_)) (.slice (some ⟨go5, 0, none⟩) x0_1.length co7) y107 := (by rw [hw, Ny107.out]; exact HP10.1); clear HP10; replace HB := am ((by rw [hw]; exact below_set (HB.out) GB5.out : Below w0.heap.size w0 w11)); replace HK := am (Kept.of_grown (S := (fun k_ => P0_ k_)) hg Q23 (fun k_ e_ => (HO_0.out.1 k_ e_))); replace HO_0 := am (hp_); clear hg hw hp_))
    go_roundg k1
    case measure => have := HK1.out; omega
    case rel => exact ⟨(y107), (wrap64 ((wrap64 (x1_1 + 1)) + 1)), (wrap64 (x5_1 + 1)), Q1, Q1, H', ⟨by have := HK1.out; omega⟩, ⟨Q7⟩, ⟨Q23⟩, ⟨Q24⟩⟩
   ·rw [if_neg c3] at H
    have c3b0 : decide (x5_1 < (x0_1.length : Int)) = false := decide_eq_false c3
    clear c3
    simp only [Option.some.injEq, Prod.mk.injEq] at H
    obtain ⟨rfl, rfl⟩ := H
    obtain ⟨Ao12, co12, eo12⟩ := Kd.R_slice HO_0.out
    subst eo12
    go_wp2
    go_ret
    exact ⟨Q6, Q7, Q24, Q23⟩
def laws_heldTimeS.l0 : Nat → List (S36) → Int → Int → Option (Int)
 | 0, _, _, _ => none
 | k + 1, x0, x1, x5 => if x5 < (x0.length : Int) then (if 0 ≤ x5 then (if ((rd_T36 x0 x5).f0) = x1 then (if ((rd_T36 x0 x5).f1) = (wrap64 (x1 + 1)) then (laws_heldTimeS.l0 k x0 (wrap64 ((wrap64 (x1 + 1)) + 1)) (wrap64 (x5 + 1))) else (some (-1))) else (some (-1))) else (none)) else (some x1)
def laws_heldTimeS.f (k : Nat) (l0 : List (S36)) (a1 : Int) : Option (Int) := laws_heldTimeS.l0 k l0 a1 0
set_option maxHeartbeats 8000000 in
set_option maxRecDepth 100000 in
theorem laws_heldTimeS.calls (k : Nat) (A0 : Option Addr) (c0 : Nat) (l0 : List (S36)) (a1 : Int) (r : Int) (w : World) (hr0 : Kd.C k36 w A0 l0.length l0) (hc0 : l0.length ≤ c0) (h : laws_heldTimeS.f k l0 a1 = some r) :
  Calls Try.prog 21 #[.slice A0 l0.length c0, .int .i64 a1] w fun e w' => e = .returned (.int .i64 r) ∧ Drawn0 w w' := by
 have HR0 := Aside0.mk hr0
 have HC0 := Aside0.mk hc0
 clear hr0 hc0
 have H : (laws_heldTimeS.l0 k l0 a1 0) = some r := h
 clear h
 have H' := Aside0.mk H
 clear H
 go_enter Try.func21, Try.ntmps21
 go_wp2
 go_loopg [1, 5] k (fun kq v1 v5 w' => ∃ (x1_1 : Int) (x5_1 : Int), v1 = .int .i64 x1_1 ∧ v5 = .int .i64 x5_1 ∧ Aside0 (laws_heldTimeS.l0 kq l0 x1_1 x5_1 = some r) ∧ Aside0 (kq ≤ k) ∧ Drawn0 w w')
 case atStart => exact ⟨(a1), (0), Q1, Q1, H', ⟨Nat.le_refl _⟩, Q4⟩
 case round =>
  clear H'
  try clear c2
  try clear p2
  obtain ⟨x1_1, x5_1, rfl, rfl, HA, HK1, ⟨m1, rfl⟩⟩ := hrel
  cases gk with
  | zero => exact absurd HA.out (by simp [laws_heldTimeS.l0])
  | succ k1 =>
   have H := HA.out
   clear HA
   simp only [laws_heldTimeS.l0] at H
   by_cases c3 : x5_1 < (l0.length : Int)
   ·rw [if_pos c3] at H
    have c3b0 : decide (x5_1 < (l0.length : Int)) = true := decide_eq_true c3
    clear c3
    have c4 : 0 ≤ x5_1 := nn_ H
    rw [if_pos c4] at H
    have c4b0 : decide (0 ≤ x5_1) = true := decide_eq_true c4
    clear c4
    by_cases c5 : ((rd_T36 l0 x5_1).f0) = x1_1
    ·rw [if_pos c5] at H
     have c5b0 : (((rd_T36 l0 x5_1).f0) == x1_1) = true := beq_iff_eq.mpr c5
     have c5b1 : (((rd_T36 l0 x5_1).f0) != x1_1) = false := bne_eq_false_iff_eq.mpr c5
     clear c5
     by_cases c6 : ((rd_T36 l0 x5_1).f1) = (wrap64 (x1_1 + 1))
     ·rw [if_pos c6] at H
      have c6b0 : (((rd_T36 l0 x5_1).f1) == (wrap64 (x1_1 + 1))) = true := beq_iff_eq.mpr c6
      have c6b1 : (((rd_T36 l0 x5_1).f1) != (wrap64 (x1_1 + 1))) = false := bne_eq_false_iff_eq.mpr c6
      clear c6
      have H' := Aside0.mk H
      clear H
      have p108 : 0 ≤ (x5_1 : Int) := of_decide_eq_true Q2
      have q108 : x5_1 < (l0.length : Int) := of_decide_eq_true Q2
      obtain ⟨ad108, e108, hx108_0, hx108_1⟩ := at_T36 HR0.out x5_1 p108 q108
      cases e108
      replace p108 := eq_true p108
      replace q108 := eq_true q108
      have p109 : 0 ≤ (x5_1 : Int) := of_decide_eq_true Q2
      have q109 : x5_1 < (l0.length : Int) := of_decide_eq_true Q2
      obtain ⟨ad109, e109, hx109_0, hx109_1⟩ := at_T36 HR0.out x5_1 p109 q109
      obtain rfl : ad108 = ad109 := (by injection e109)
      replace p109 := eq_true p109
      replace q109 := eq_true q109
      go_wp2
      go_roundg k1
      case measure => have := HK1.out; omega
      case rel => exact ⟨(wrap64 ((wrap64 (x1_1 + 1)) + 1)), (wrap64 (x5_1 + 1)), Q1, Q1, H', ⟨by have := HK1.out; omega⟩, Q4⟩
     ·rw [if_neg c6] at H
      have c6b0 : (((rd_T36 l0 x5_1).f1) == (wrap64 (x1_1 + 1))) = false := beq_eq_false_iff_ne.mpr c6
      have c6b1 : (((rd_T36 l0 x5_1).f1) != (wrap64 (x1_1 + 1))) = true := bne_iff_ne.mpr c6
      obtain rfl := Option.some.inj H
      have p108 : 0 ≤ (x5_1 : Int) := of_decide_eq_true Q2
      have q108 : x5_1 < (l0.length : Int) := of_decide_eq_true Q2
      obtain ⟨ad108, e108, hx108_0, hx108_1⟩ := at_T36 HR0.out x5_1 p108 q108
      cases e108
      replace p108 := eq_true p108
      replace q108 := eq_true q108
      have p109 : 0 ≤ (x5_1 : Int) := of_decide_eq_true Q2
      have q109 : x5_1 < (l0.length : Int) := of_decide_eq_true Q2
      obtain ⟨ad109, e109, hx109_0, hx109_1⟩ := at_T36 HR0.out x5_1 p109 q109
      obtain rfl : ad108 = ad109 := (by injection e109)
      replace p109 := eq_true p109
      replace q109 := eq_true q109
      go_wp2
      go_ret
      exact ⟨Q1, Q4⟩
    ·rw [if_neg c5] at H
     have c5b0 : (((rd_T36 l0 x5_1).f0) == x1_1) = false := beq_eq_false_iff_ne.mpr c5
     have c5b1 : (((rd_T36 l0 x5_1).f0) != x1_1) = true := bne_iff_ne.mpr c5
     obtain rfl := Option.some.inj H
     have p108 : 0 ≤ (x5_1 : Int) := of_decide_eq_true Q2
     have q108 : x5_1 < (l0.length : Int) := of_decide_eq_true Q2
     obtain ⟨ad108, e108, hx108_0, hx108_1⟩ := at_T36 HR0.out x5_1 p108 q108
     cases e108
     replace p108 := eq_true p108
     replace q108 := eq_true q108
     go_wp2
     go_ret
     exact ⟨Q1, Q4⟩
   ·rw [if_neg c3] at H
    have c3b0 : decide (x5_1 < (l0.length : Int)) = false := decide_eq_false c3
    clear c3
    obtain rfl := Option.some.inj H
    go_wp2
    go_ret
    exact ⟨Q1, Q4⟩
def laws_szRowS.f (l0 : List (S93)) (a1 : Int) : Option (Int) := if (wrap64 (a1 - (l0.length : Int))) < 0 then (some (-1)) else (some (wrap64 (a1 - (l0.length : Int))))
set_option maxHeartbeats 8000000 in
set_option maxRecDepth 100000 in
theorem laws_szRowS.calls (A0 : Option Addr) (c0 : Nat) (l0 : List (S93)) (a1 : Int) (r : Int) (w : World) (hr0 : Kd.C k93 w A0 l0.length l0) (hc0 : l0.length ≤ c0) (h : laws_szRowS.f l0 a1 = some r) :
  Calls Try.prog 49 #[.slice A0 l0.length c0, .int .i64 a1] w fun e w' => e = .returned (.int .i64 r) ∧ Drawn0 w w' := by
 have HR0 := Aside0.mk hr0
 have HC0 := Aside0.mk hc0
 clear hr0 hc0
 have H : (if (wrap64 (a1 - (l0.length : Int))) < 0 then (some (-1)) else (some (wrap64 (a1 - (l0.length : Int))))) = some r := h
 clear h
 by_cases c3 : (wrap64 (a1 - (l0.length : Int))) < 0
 ·rw [if_pos c3] at H
  have c3b0 : decide ((wrap64 (a1 - (l0.length : Int))) < 0) = true := decide_eq_true c3
  clear c3
  obtain rfl := Option.some.inj H
  go_enter Try.func49, Try.ntmps49
  go_wp2
  go_ret
  exact ⟨Q1, Q4⟩
 ·rw [if_neg c3] at H
  have c3b0 : decide ((wrap64 (a1 - (l0.length : Int))) < 0) = false := decide_eq_false c3
  clear c3
  obtain rfl := Option.some.inj H
  go_enter Try.func49, Try.ntmps49
  go_wp2
  go_ret
  exact ⟨Q1, Q4⟩
def spec_l6In.f (a0 : Int) (a1 : Int) (a2 : Int) : Option (Bool) := if a0 ≥ a1 then (some (decide (a0 ≤ a2))) else (some false)
set_option maxHeartbeats 8000000 in
set_option maxRecDepth 100000 in
theorem spec_l6In.calls (a0 : Int) (a1 : Int) (a2 : Int) (r : Bool) (w : World) (h : spec_l6In.f a0 a1 a2 = some r) :
  Calls Try.prog 84 #[.int .i64 a0, .int .i64 a1, .int .i64 a2] w fun e w' => e = .returned (.bool r) ∧ Drawn0 w w' := by
 have H : (if a0 ≥ a1 then (some (decide (a0 ≤ a2))) else (some false)) = some r := h
 clear h
 by_cases c4 : a0 ≥ a1
 ·rw [if_pos c4] at H
  have c4b0 : decide (a1 ≤ a0) = true := decide_eq_true c4
  clear c4
  obtain rfl := Option.some.inj H
  go_enter Try.func84, Try.ntmps84
  go_wp2
  go_ret
  exact ⟨Q1, Q4⟩
 ·rw [if_neg c4] at H
  have c4b0 : decide (a1 ≤ a0) = false := decide_eq_false c4
  clear c4
  obtain rfl := Option.some.inj H
  go_enter Try.func84, Try.ntmps84
  go_wp2
  go_ret
  exact ⟨Q1, Q4⟩
def spec_TimeOk.f (a0_0 : Int) (a0_1 : Int) : Option (Bool) := (spec_l6In.f a0_0 0 7).bind fun t111 => (if t111 = true then ((spec_l6In.f a0_1 0 7).bind fun t112 => (some t112)) else (some false))
set_option maxHeartbeats 8000000 in
set_option maxRecDepth 100000 in
theorem spec_TimeOk.calls (a0_0 : Int) (a0_1 : Int) (r : Bool) (w : World) (h : spec_TimeOk.f a0_0 a0_1 = some r) :
  Calls Try.prog 70 #[.agg #[.int .i64 a0_0, .int .i64 a0_1]] w fun e w' => e = .returned (.bool r) ∧ Below w.heap.size w w' := by
 have hu36 := Try.underlying36
 have HB := am (Below.refl w.heap.size w)
 have H : ((spec_l6In.f a0_0 0 7).bind fun t111 => (if t111 = true then ((spec_l6In.f a0_1 0 7).bind fun t112 => (some t112)) else (some false))) = some r := h
 clear h
 replace H := Option.bind_eq_some_iff.mp H
 obtain ⟨t111, A20, H⟩ := H
 replace H : (if t111 = true then ((spec_l6In.f a0_1 0 7).bind fun t112 => (some t112)) else (some false)) = some r := H
 have A2 := Aside0.mk A20
 clear A20
 by_cases c3 : t111 = true
 ·subst c3
  have H1 : ((spec_l6In.f a0_1 0 7).bind fun t112 => (some t112)) = some r := by rw [if_pos rfl] at H; exact H
  clear H
  have H := H1
  clear H1
  replace H := Option.bind_eq_some_iff.mp H
  obtain ⟨t112, A40, H⟩ := H
  replace H : (some t112) = some r := H
  have A4 := Aside0.mk A40
  clear A40
  obtain rfl := Option.some.inj H
  go_enter Try.func70, Try.ntmps70
  go_wp2_with (first | ((with_reducible refine gate_dst (N := 1) rfl ?_); refine bE_ 1 #[.int .i64 a0_0, .int .i64 a0_1] 36 ?_; intro gb110 hg w5 hbox hb; have BK110 := am (hbox); have GW110 := am ((Q38 : w.heap.size ≤ gb110)); replace HB := am (below_step Q24 hb); have GE110 := GW110; clear hb hbox hg; obtain ⟨hcz6_0, hcz6_1, hfz6_0, hfz6_1⟩ := bx2_ BK110) | ((with_reducible refine gate_callee (f := 84) rfl ?_); refine goesL_ (some 5) rfl rfl Try.func84 Q0 rfl #[.int .i64 a0_0, .int .i64 0, .int .i64 7] rfl Q25 ?_; (with_reducible refine (spec_l6In.calls a0_0 0 7 true _ A2.out).mono ?_); rintro e w' ⟨rfl, ⟨nd, rfl⟩⟩; refine ⟨_, rfl, ?_⟩) | (go_at_call 84; (with_reducible refine (spec_l6In.calls a0_1 0 7 t112 _ A4.out).mono ?_); rintro e w' ⟨rfl, ⟨nd, rfl⟩⟩))
  go_ret
  exact ⟨Q6, by repeat (first | (with_reducible first | exact HB.out | apply below_alloc | apply pw_below_drewN | apply below_drew1 | refine below_set ?_ GE110.out) | exact HB.out)⟩
 ·replace c3 := Bool.eq_false_iff.mpr c3
  subst c3
  have H1 : (some false) = some r := by rw [if_neg (show ¬ (false = true) by decide)] at H; exact H
  clear H
  have H := H1
  clear H1
  obtain rfl := Option.some.inj H
  go_enter Try.func70, Try.ntmps70
  go_wp2_with (first | ((with_reducible refine gate_dst (N := 1) rfl ?_); refine bE_ 1 #[.int .i64 a0_0, .int .i64 a0_1] 36 ?_; intro gb110 hg w7 hbox hb; have BK110 := am (hbox); have GW110 := am ((Q38 : w.heap.size ≤ gb110)); replace HB := am (below_step Q24 hb); have GE110 := GW110; clear hb hbox hg; obtain ⟨hcz8_0, hcz8_1, hfz8_0, hfz8_1⟩ := bx2_ BK110) | ((with_reducible refine gate_callee (f := 84) rfl ?_); refine goesL_ (some 5) rfl rfl Try.func84 Q0 rfl #[.int .i64 a0_0, .int .i64 0, .int .i64 7] rfl Q25 ?_; (with_reducible refine (spec_l6In.calls a0_0 0 7 false _ A2.out).mono ?_); rintro e w' ⟨rfl, ⟨nd, rfl⟩⟩; refine ⟨_, rfl, ?_⟩))
  go_ret
  exact ⟨Q6, by repeat (first | (with_reducible first | exact HB.out | apply below_alloc | apply pw_below_drewN | apply below_drew1 | refine below_set ?_ GE110.out) | exact HB.out)⟩
def spec_l2Row.f (a0_0 : Int) (a0_1 : Int) (a0_2 : Int) (a0_3 : Int) (a0_4 : Int) : Option (Bool) := (spec_l6In.f a0_0 0 3).bind fun t114 => (if t114 = true then ((spec_l6In.f a0_1 0 99).bind fun t115 => (if t115 = true then ((spec_TimeOk.f a0_2 a0_3).bind fun t116 => (if t116 = true then ((spec_l6In.f a0_4 (-99999) 99999).bind fun t117 => (some t117)) else (some false))) else (some false))) else (some false))
set_option maxHeartbeats 8000000 in
set_option maxRecDepth 100000 in
theorem spec_l2Row.calls (a0_0 : Int) (a0_1 : Int) (a0_2 : Int) (a0_3 : Int) (a0_4 : Int) (r : Bool) (w : World) (h : spec_l2Row.f a0_0 a0_1 a0_2 a0_3 a0_4 = some r) :
  Calls Try.prog 91 #[.agg #[.int .i64 a0_0, .int .i64 a0_1, .int .i64 a0_2, .int .i64 a0_3, .int .i64 a0_4]] w fun e w' => e = .returned (.bool r) ∧ Below w.heap.size w w' := by
 have hu90 := Try.underlying90
 have hu36 := Try.underlying36
 have HB := am (Below.refl w.heap.size w)
 have H : ((spec_l6In.f a0_0 0 3).bind fun t114 => (if t114 = true then ((spec_l6In.f a0_1 0 99).bind fun t115 => (if t115 = true then ((spec_TimeOk.f a0_2 a0_3).bind fun t116 => (if t116 = true then ((spec_l6In.f a0_4 (-99999) 99999).bind fun t117 => (some t117)) else (some false))) else (some false))) else (some false))) = some r := h
 clear h
 replace H := Option.bind_eq_some_iff.mp H
 obtain ⟨t114, A20, H⟩ := H
 replace H : (if t114 = true then ((spec_l6In.f a0_1 0 99).bind fun t115 => (if t115 = true then ((spec_TimeOk.f a0_2 a0_3).bind fun t116 => (if t116 = true then ((spec_l6In.f a0_4 (-99999) 99999).bind fun t117 => (some t117)) else (some false))) else (some false))) else (some false)) = some r := H
 have A2 := Aside0.mk A20
 clear A20
 by_cases c3 : t114 = true
 ·subst c3
  have H1 : ((spec_l6In.f a0_1 0 99).bind fun t115 => (if t115 = true then ((spec_TimeOk.f a0_2 a0_3).bind fun t116 => (if t116 = true then ((spec_l6In.f a0_4 (-99999) 99999).bind fun t117 => (some t117)) else (some false))) else (some false))) = some r := by rw [if_pos rfl] at H; exact H
  clear H
  have H := H1
  clear H1
  replace H := Option.bind_eq_some_iff.mp H
  obtain ⟨t115, A40, H⟩ := H
  replace H : (if t115 = true then ((spec_TimeOk.f a0_2 a0_3).bind fun t116 => (if t116 = true then ((spec_l6In.f a0_4 (-99999) 99999).bind fun t117 => (some t117)) else (some false))) else (some false)) = some r := H
  have A4 := Aside0.mk A40
  clear A40
  by_cases c5 : t115 = true
  ·subst c5
   have H1 : ((spec_TimeOk.f a0_2 a0_3).bind fun t116 => (if t116 = true then ((spec_l6In.f a0_4 (-99999) 99999).bind fun t117 => (some t117)) else (some false))) = some r := by rw [if_pos rfl] at H; exact H
   clear H
   have H := H1
   clear H1
   replace H := Option.bind_eq_some_iff.mp H
   obtain ⟨t116, A60, H⟩ := H
   replace H : (if t116 = true then ((spec_l6In.f a0_4 (-99999) 99999).bind fun t117 => (some t117)) else (some false)) = some r := H
   have A6 := Aside0.mk A60
   clear A60
   by_cases c7 : t116 = true
   ·subst c7
    have H1 : ((spec_l6In.f a0_4 (-99999) 99999).bind fun t117 => (some t117)) = some r := by rw [if_pos rfl] at H; exact H
    clear H
    have H := H1
    clear H1
    replace H := Option.bind_eq_some_iff.mp H
    obtain ⟨t117, A80, H⟩ := H
    replace H : (some t117) = some r := H
    have A8 := Aside0.mk A80
    clear A80
    obtain rfl := Option.some.inj H
    go_enter Try.func91, Try.ntmps91
    go_wp2_with (first | ((with_reducible refine gate_dst (N := 1) rfl ?_); refine bE_ 1 #[.int .i64 a0_0, .int .i64 a0_1, .int .i64 a0_2, .int .i64 a0_3, .int .i64 a0_4] 90 ?_; intro gb113 hg w9 hbox hb; have BK113 := am (hbox); have GW113 := am ((Q38 : w.heap.size ≤ gb113)); replace HB := am (below_step Q24 hb); have GE113 := GW113; clear hb hbox hg; obtain ⟨hcz10_0, hcz10_1, hcz10_2, hcz10_3, hcz10_4, hfz10_0, hfz10_1, hfz10_2, hfz10_3, hfz10_4⟩ := bx5_ BK113) | ((with_reducible refine gate_callee (f := 84) rfl ?_); refine goesL_ (some 5) rfl rfl Try.func84 Q0 rfl #[.int .i64 a0_0, .int .i64 0, .int .i64 3] rfl Q25 ?_; (with_reducible refine (spec_l6In.calls a0_0 0 3 true _ A2.out).mono ?_); rintro e w' ⟨rfl, ⟨nd, rfl⟩⟩; refine ⟨_, rfl, ?_⟩) | (go_at_call 84; (with_reducible refine (spec_l6In.calls a0_1 0 99 true _ A4.out).mono ?_); rintro e w' ⟨rfl, ⟨nd, rfl⟩⟩) | (go_at_call 70; (with_reducible refine (spec_TimeOk.calls a0_2 a0_3 true _ A6.out).mono ?_); rintro e w11 ⟨rfl, hb⟩; replace BK113 := am (blk_below (g := gb113) (o := .cells #[.int .i64 a0_0, .int .i64 a0_1, .int .i64 a0_2, .int .i64 a0_3, .int .i64 a0_4] 90 (0, 0)) (by (with_reducible repeat (first | refine blk_drewN ?_ _ | refine blk_drew ?_ | refine blk_alloc ?_ _)); exact BK113.out) hb); replace HB := am (below_step Q28 hb); (try clear hb); obtain ⟨hcz12_0, hcz12_1, hcz12_2, hcz12_3, hcz12_4, hfz12_0, hfz12_1, hfz12_2, hfz12_3, hfz12_4⟩ := bx5_ BK113) | (go_at_call 84; (with_reducible refine (spec_l6In.calls a0_4 (-99999) 99999 t117 _ A8.out).mono ?_); rintro e w' ⟨rfl, ⟨nd, rfl⟩⟩))
    go_ret
    exact ⟨Q6, Q28⟩
   ·replace c7 := Bool.eq_false_iff.mpr c7
    subst c7
    have H1 : (some false) = some r := by rw [if_neg (show ¬ (false = true) by decide)] at H; exact H
    clear H
    have H := H1
    clear H1
    obtain rfl := Option.some.inj H
    go_enter Try.func91, Try.ntmps91
    go_wp2_with (first | ((with_reducible refine gate_dst (N := 1) rfl ?_); refine bE_ 1 #[.int .i64 a0_0, .int .i64 a0_1, .int .i64 a0_2, .int .i64 a0_3, .int .i64 a0_4] 90 ?_; intro gb113 hg w13 hbox hb; have BK113 := am (hbox); have GW113 := am ((Q38 : w.heap.size ≤ gb113)); replace HB := am (below_step Q24 hb); have GE113 := GW113; clear hb hbox hg; obtain ⟨hcz14_0, hcz14_1, hcz14_2, hcz14_3, hcz14_4, hfz14_0, hfz14_1, hfz14_2, hfz14_3, hfz14_4⟩ := bx5_ BK113) | ((with_reducible refine gate_callee (f := 84) rfl ?_); refine goesL_ (some 5) rfl rfl Try.func84 Q0 rfl #[.int .i64 a0_0, .int .i64 0, .int .i64 3] rfl Q25 ?_; (with_reducible refine (spec_l6In.calls a0_0 0 3 true _ A2.out).mono ?_); rintro e w' ⟨rfl, ⟨nd, rfl⟩⟩; refine ⟨_, rfl, ?_⟩) | (go_at_call 84; (with_reducible refine (spec_l6In.calls a0_1 0 99 true _ A4.out).mono ?_); rintro e w' ⟨rfl, ⟨nd, rfl⟩⟩) | (go_at_call 70; (with_reducible refine (spec_TimeOk.calls a0_2 a0_3 false _ A6.out).mono ?_); rintro e w15 ⟨rfl, hb⟩; replace BK113 := am (blk_below (g := gb113) (o := .cells #[.int .i64 a0_0, .int .i64 a0_1, .int .i64 a0_2, .int .i64 a0_3, .int .i64 a0_4] 90 (0, 0)) (by (with_reducible repeat (first | refine blk_drewN ?_ _ | refine blk_drew ?_ | refine blk_alloc ?_ _)); exact BK113.out) hb); replace HB := am (below_step Q28 hb); (try clear hb)))
    go_ret
    exact ⟨Q6, Q28⟩
  ·replace c5 := Bool.eq_false_iff.mpr c5
   subst c5
   have H1 : (some false) = some r := by rw [if_neg (show ¬ (false = true) by decide)] at H; exact H
   clear H
   have H := H1
   clear H1
   obtain rfl := Option.some.inj H
   go_enter Try.func91, Try.ntmps91
   go_wp2_with (first | ((with_reducible refine gate_dst (N := 1) rfl ?_); refine bE_ 1 #[.int .i64 a0_0, .int .i64 a0_1, .int .i64 a0_2, .int .i64 a0_3, .int .i64 a0_4] 90 ?_; intro gb113 hg w16 hbox hb; have BK113 := am (hbox); have GW113 := am ((Q38 : w.heap.size ≤ gb113)); replace HB := am (below_step Q24 hb); have GE113 := GW113; clear hb hbox hg; obtain ⟨hcz17_0, hcz17_1, hcz17_2, hcz17_3, hcz17_4, hfz17_0, hfz17_1, hfz17_2, hfz17_3, hfz17_4⟩ := bx5_ BK113) | ((with_reducible refine gate_callee (f := 84) rfl ?_); refine goesL_ (some 5) rfl rfl Try.func84 Q0 rfl #[.int .i64 a0_0, .int .i64 0, .int .i64 3] rfl Q25 ?_; (with_reducible refine (spec_l6In.calls a0_0 0 3 true _ A2.out).mono ?_); rintro e w' ⟨rfl, ⟨nd, rfl⟩⟩; refine ⟨_, rfl, ?_⟩) | (go_at_call 84; (with_reducible refine (spec_l6In.calls a0_1 0 99 false _ A4.out).mono ?_); rintro e w' ⟨rfl, ⟨nd, rfl⟩⟩))
   go_ret
   exact ⟨Q6, Q28⟩
 ·replace c3 := Bool.eq_false_iff.mpr c3
  subst c3
  have H1 : (some false) = some r := by rw [if_neg (show ¬ (false = true) by decide)] at H; exact H
  clear H
  have H := H1
  clear H1
  obtain rfl := Option.some.inj H
  go_enter Try.func91, Try.ntmps91
  go_wp2_with (first | ((with_reducible refine gate_dst (N := 1) rfl ?_); refine bE_ 1 #[.int .i64 a0_0, .int .i64 a0_1, .int .i64 a0_2, .int .i64 a0_3, .int .i64 a0_4] 90 ?_; intro gb113 hg w18 hbox hb; have BK113 := am (hbox); have GW113 := am ((Q38 : w.heap.size ≤ gb113)); replace HB := am (below_step Q24 hb); have GE113 := GW113; clear hb hbox hg; obtain ⟨hcz19_0, hcz19_1, hcz19_2, hcz19_3, hcz19_4, hfz19_0, hfz19_1, hfz19_2, hfz19_3, hfz19_4⟩ := bx5_ BK113) | ((with_reducible refine gate_callee (f := 84) rfl ?_); refine goesL_ (some 5) rfl rfl Try.func84 Q0 rfl #[.int .i64 a0_0, .int .i64 0, .int .i64 3] rfl Q25 ?_; (with_reducible refine (spec_l6In.calls a0_0 0 3 false _ A2.out).mono ?_); rintro e w' ⟨rfl, ⟨nd, rfl⟩⟩; refine ⟨_, rfl, ?_⟩))
  go_ret
  exact ⟨Q6, Q28⟩
def spec_RowsOk.l0 : Nat → List (S90) → Int → Option (Bool)
 | 0, _, _ => none
 | k + 1, x0, x3 => if x3 < (x0.length : Int) then (if 0 ≤ x3 then ((spec_l2Row.f ((rd_T90 x0 x3).f0) ((rd_T90 x0 x3).f1) ((rd_T90 x0 x3).f2.f0) ((rd_T90 x0 x3).f2.f1) ((rd_T90 x0 x3).f3)).bind fun t119 => (if t119 = true then (spec_RowsOk.l0 k x0 (wrap64 (x3 + 1))) else (some false))) else (none)) else (some true)
def spec_RowsOk.f (k : Nat) (l0 : List (S90)) : Option (Bool) := if (l0.length : Int) > 400 then (some false) else (spec_RowsOk.l0 k l0 0)
set_option maxHeartbeats 8000000 in
set_option maxRecDepth 100000 in
theorem spec_RowsOk.calls (k : Nat) (A0 : Option Addr) (c0 : Nat) (l0 : List (S90)) (r : Bool) (w : World) (hr0 : Kd.C k90 w A0 l0.length l0) (hc0 : l0.length ≤ c0) (h : spec_RowsOk.f k l0 = some r) :
  Calls Try.prog 56 #[.slice A0 l0.length c0] w fun e w' => e = .returned (.bool r) ∧ Below w.heap.size w w' := by
 have hu90 := Try.underlying90
 have HR0 := Aside0.mk hr0
 have HC0 := Aside0.mk hc0
 clear hr0 hc0
 have HB := am (Below.refl w.heap.size w)
 have H : (if (l0.length : Int) > 400 then (some false) else (spec_RowsOk.l0 k l0 0)) = some r := h
 clear h
 by_cases c2 : (l0.length : Int) > 400
 ·rw [if_pos c2] at H
  have c2b0 : decide (400 < (l0.length : Int)) = true := decide_eq_true c2
  have c2b1 : decide (400 < l0.length) = true := decide_eq_true (by omega)
  clear c2
  obtain rfl := Option.some.inj H
  go_enter Try.func56, Try.ntmps56
  go_wp2
  go_ret
  exact ⟨Q6, Q24⟩
 ·rw [if_neg c2] at H
  have c2b0 : decide (400 < (l0.length : Int)) = false := decide_eq_false c2
  have c2b1 : decide (400 < l0.length) = false := decide_eq_false (by omega)
  clear c2
  have H' := Aside0.mk H
  clear H
  go_enter Try.func56, Try.ntmps56
  go_wp2
  go_loopg [3] k (fun kq v3 w' => ∃ (x3_1 : Int), v3 = .int .i64 x3_1 ∧ Aside0 (spec_RowsOk.l0 kq l0 x3_1 = some r) ∧ Aside0 (kq ≤ k) ∧ Aside0 (Below w.heap.size w w'))
  case atStart => exact ⟨(0), Q1, H', ⟨Nat.le_refl _⟩, ⟨Q24⟩⟩
  case round =>
   clear H'
   try clear c2
   try clear c2b0
   try clear c2b1
   try clear p2
   obtain ⟨x3_1, rfl, HA, HK1, HB⟩ := hrel
   cases gk with
   | zero => exact absurd HA.out (by simp [spec_RowsOk.l0])
   | succ k1 =>
    have H := HA.out
    clear HA
    simp only [spec_RowsOk.l0] at H
    by_cases c3 : x3_1 < (l0.length : Int)
    ·rw [if_pos c3] at H
     have c3b0 : decide (x3_1 < (l0.length : Int)) = true := decide_eq_true c3
     clear c3
     have c4 : 0 ≤ x3_1 := nn_ H
     rw [if_pos c4] at H
     have c4b0 : decide (0 ≤ x3_1) = true := decide_eq_true c4
     clear c4
     replace H := Option.bind_eq_some_iff.mp H
     obtain ⟨t119, A50, H⟩ := H
     replace H : (if t119 = true then (spec_RowsOk.l0 k1 l0 (wrap64 (x3_1 + 1))) else (some false)) = some r := H
     have A5 := Aside0.mk A50
     clear A50
     by_cases c6 : t119 = true
     ·subst c6
      have H1 : (spec_RowsOk.l0 k1 l0 (wrap64 (x3_1 + 1))) = some r := by rw [if_pos rfl] at H; exact H
      clear H
      have H := H1
      clear H1
      have H' := Aside0.mk H
      clear H
      have p118 : 0 ≤ (x3_1 : Int) := of_decide_eq_true Q2
      have q118 : x3_1 < (l0.length : Int) := of_decide_eq_true Q2
      obtain ⟨ad118, e118, hx118_0, hx118_1, hx118_2, hx118_3, hx118_4⟩ := at_T90 HR0.out x3_1 p118 q118
      cases e118
      replace hx118_0 := (HB.out.cell (World.block_lt_of_cell? w _ hx118_0)).trans hx118_0
      replace hx118_1 := (HB.out.cell (World.block_lt_of_cell? w _ hx118_1)).trans hx118_1
      replace hx118_2 := (HB.out.cell (World.block_lt_of_cell? w _ hx118_2)).trans hx118_2
      replace hx118_3 := (HB.out.cell (World.block_lt_of_cell? w _ hx118_3)).trans hx118_3
      replace hx118_4 := (HB.out.cell (World.block_lt_of_cell? w _ hx118_4)).trans hx118_4
      replace p118 := eq_true p118
      replace q118 := eq_true q118
      go_wp2_with (first | ((with_reducible refine gate_callee (f := 91) rfl ?_); refine goesL_ (some 17) rfl rfl Try.func91 Q0 rfl #[.agg #[.int .i64 ((rd_T90 l0 x3_1).f0), .int .i64 ((rd_T90 l0 x3_1).f1), .int .i64 ((rd_T90 l0 x3_1).f2.f0), .int .i64 ((rd_T90 l0 x3_1).f2.f1), .int .i64 ((rd_T90 l0 x3_1).f3)]] rfl Q25 ?_; (with_reducible refine (spec_l2Row.calls ((rd_T90 l0 x3_1).f0) ((rd_T90 l0 x3_1).f1) ((rd_T90 l0 x3_1).f2.f0) ((rd_T90 l0 x3_1).f2.f1) ((rd_T90 l0 x3_1).f3) true _ A5.out).mono ?_); rintro e w7 ⟨rfl, hb⟩; refine ⟨_, rfl, ?_⟩; replace HB := am (below_step Q24 hb); (try clear hb)))
      go_roundg k1
      case measure => have := HK1.out; omega
      case rel => exact ⟨(wrap64 (x3_1 + 1)), Q1, H', ⟨by have := HK1.out; omega⟩, ⟨Q24⟩⟩
     ·replace c6 := Bool.eq_false_iff.mpr c6
      subst c6
      have H1 : (some false) = some r := by rw [if_neg (show ¬ (false = true) by decide)] at H; exact H
      clear H
      have H := H1
      clear H1
      obtain rfl := Option.some.inj H
      have p118 : 0 ≤ (x3_1 : Int) := of_decide_eq_true Q2
      have q118 : x3_1 < (l0.length : Int) := of_decide_eq_true Q2
      obtain ⟨ad118, e118, hx118_0, hx118_1, hx118_2, hx118_3, hx118_4⟩ := at_T90 HR0.out x3_1 p118 q118
      cases e118
      replace hx118_0 := (HB.out.cell (World.block_lt_of_cell? w _ hx118_0)).trans hx118_0
      replace hx118_1 := (HB.out.cell (World.block_lt_of_cell? w _ hx118_1)).trans hx118_1
      replace hx118_2 := (HB.out.cell (World.block_lt_of_cell? w _ hx118_2)).trans hx118_2
      replace hx118_3 := (HB.out.cell (World.block_lt_of_cell? w _ hx118_3)).trans hx118_3
      replace hx118_4 := (HB.out.cell (World.block_lt_of_cell? w _ hx118_4)).trans hx118_4
      replace p118 := eq_true p118
      replace q118 := eq_true q118
      go_wp2_with (first | ((with_reducible refine gate_callee (f := 91) rfl ?_); refine goesL_ (some 17) rfl rfl Try.func91 Q0 rfl #[.agg #[.int .i64 ((rd_T90 l0 x3_1).f0), .int .i64 ((rd_T90 l0 x3_1).f1), .int .i64 ((rd_T90 l0 x3_1).f2.f0), .int .i64 ((rd_T90 l0 x3_1).f2.f1), .int .i64 ((rd_T90 l0 x3_1).f3)]] rfl Q25 ?_; (with_reducible refine (spec_l2Row.calls ((rd_T90 l0 x3_1).f0) ((rd_T90 l0 x3_1).f1) ((rd_T90 l0 x3_1).f2.f0) ((rd_T90 l0 x3_1).f2.f1) ((rd_T90 l0 x3_1).f3) false _ A5.out).mono ?_); rintro e w8 ⟨rfl, hb⟩; refine ⟨_, rfl, ?_⟩; replace HB := am (below_step Q24 hb); (try clear hb)))
      go_ret
      exact ⟨Q6, Q24⟩
    ·rw [if_neg c3] at H
     have c3b0 : decide (x3_1 < (l0.length : Int)) = false := decide_eq_false c3
     clear c3
     obtain rfl := Option.some.inj H
     go_wp2
     go_ret
     exact ⟨Q6, Q24⟩
mutual
def spec_BatchTimes.l0 : Nat → List (S90) → List (S36) → Int → Option ((List (S36)))
 | 0, _, _, _ => none
 | k + 1, x0, x3, x4 => if x4 ≤ 7 then ((spec_RowsOk.f k x0).bind fun t123 => (spec_BatchTimes.j1 k x0 x3 x4 t123)) else (spec_BatchTimes.j1 k x0 x3 x4 false)
def spec_BatchTimes.j1 : Nat → List (S90) → List (S36) → Int → Bool → Option ((List (S36)))
 | 0, _, _, _, _ => none
 | k + 1, x0, x3, x4, x14 => if x14 = true then (spec_BatchTimes.l1 k x0 x3 x4 0) else (some x3)
def spec_BatchTimes.l1 : Nat → List (S90) → List (S36) → Int → Int → Option ((List (S36)))
 | 0, _, _, _, _ => none
 | k + 1, x0, x3, x4, x5 => if x5 ≤ 7 then (spec_BatchTimes.l2 k x0 x3 x4 x5 0 x4 x5) else (spec_BatchTimes.l0 k x0 x3 (wrap64 (x4 + 1)))
def spec_BatchTimes.l2 : Nat → List (S90) → List (S36) → Int → Int → Int → Int → Int → Option ((List (S36)))
 | 0, _, _, _, _, _, _, _ => none
 | k + 1, x0, x3, x4, x5, x7, x125000, x125001 => if x7 < (x0.length : Int) then (if 0 ≤ x7 then (if (((rd_T90 x0 x7).f2.f0) == x125000 && (((rd_T90 x0 x7).f2.f1) == x125001)) = true then (if x3.length < 8796093022208 then (spec_BatchTimes.l1 k x0 (x3 ++ [(⟨x125000, x125001⟩ : S36)]) x4 (wrap64 (x5 + 1))) else (none)) else (spec_BatchTimes.l2 k x0 x3 x4 x5 (wrap64 (x7 + 1)) x125000 x125001)) else (none)) else (spec_BatchTimes.l1 k x0 x3 x4 (wrap64 (x5 + 1)))
end
def spec_BatchTimes.f (k : Nat) (l0 : List (S90)) : Option ((List (S36))) := spec_BatchTimes.l0 k l0 (([] : List (S36))) 0
set_option maxHeartbeats 8000000 in
set_option maxRecDepth 100000 in
theorem spec_BatchTimes.calls (k : Nat) (A0 : Option Addr) (c0 : Nat) (l0 : List (S90)) (r : List (S36)) (w : World) (hr0 : Kd.C k90 w A0 l0.length l0) (hc0 : l0.length ≤ c0) (h : spec_BatchTimes.f k l0 = some r) :
  Calls Try.prog 50 #[.slice A0 l0.length c0] w fun e w' => ∃ v0_ : Value, e = .returned (v0_) ∧ Kd.R k36 36 w' w.heap.size (fun _ => True) v0_ r ∧ Below w.heap.size w w' := by
 have hu36 := Try.underlying36
 have HR0 := Aside0.mk hr0
 have HC0 := Aside0.mk hc0
 clear hr0 hc0
 have HB := am (Below.refl w.heap.size w)
 have H : (spec_BatchTimes.l0 k l0 (([] : List (S36))) 0) = some r := h
 clear h
 obtain ⟨y120, hy_⟩ : ∃ y_ : List (S36), y_ = (([] : List (S36))) := ⟨_, rfl⟩
 replace H : (spec_BatchTimes.l0 k l0 y120 0) = some r := Q36
 have Ny120 := Aside0.mk hy_
 clear hy_
 have H' := Aside0.mk H
 clear H
 go_enter Try.func50, Try.ntmps50
 go_wp2_with (first | ((with_reducible refine gate_dst (N := 8) rfl ?_); refine Kd.R_lit k36 _ 36 ?hg (N := 8) ?hd (xs := ([] : List (S36))) (inner := []) (ok := fun _ => True) (okp := fun _ => True) ?hr ?hp (fun _ hk => hk) trivial (Below.refl _ _) (Nat.le_refl _) (by simp) ?_; (case hd => rfl); (case hg => rfl); (case hr => first | (go_simp; done) | (go_simp; rfl)); (case hp => exact (Reps.none _ _)); intro v121 w2 ho3 hb hg_ hnew_; clear hg_ hnew_; (first | rw [← Ny120.out] at ho3 | (simp only [Int.reduceToNat] at ho3; rw [← Ny120.out] at ho3)); have HO122 := am (Kd.R_lower ho3 (below_size Q24)); replace HB := am (below_step Q24 hb); clear hb ho3))
 repeat (go_quiet (first | ((with_reducible refine gate_dst (N := 8) rfl ?_); refine Kd.R_lit k36 _ 36 ?hg (N := 8) ?hd (xs := ([] : List (S36))) (inner := []) (ok := fun _ => True) (okp := fun _ => True) ?hr ?hp (fun _ hk => hk) trivial (Below.refl _ _) (Nat.le_refl _) (by simp) ?_; (case hd => rfl); (case hg => rfl); (case hr => first | (go_simp; done) | (go_simp; rfl)); (case hp => exact (Reps.none _ _)); intro v121 w2 ho3 hb hg_ hnew_; clear hg_ hnew_; (first | rw [← Ny120.out] at ho3 | (simp only [Int.reduceToNat] at ho3; rw [← Ny120.out] at ho3)); have HO122 := am (Kd.R_lower ho3 (below_size Q24)); replace HB := am (below_step Q24 hb); clear hb ho3)); try go_wp2_with (first | ((with_reducible refine gate_dst (N := 8) rfl ?_); refine Kd.R_lit k36 _ 36 ?hg (N := 8) ?hd (xs := ([] : List (S36))) (inner := []) (ok := fun _ => True) (okp := fun _ => True) ?hr ?hp (fun _ hk => hk) trivial (Below.refl _ _) (Nat.le_refl _) (by simp) ?_; (case hd => rfl); (case hg => rfl); (case hr => first | (go_simp; done) | (go_simp; rfl)); (case hp => exact (Reps.none _ _)); intro v121 w2 ho3 hb hg_ hnew_; clear hg_ hnew_; (first | rw [← Ny120.out] at ho3 | (simp only [Int.reduceToNat] at ho3; rw [← Ny120.out] at ho3)); have HO122 := am (Kd.R_lower ho3 (below_size Q24)); replace HB := am (below_step Q24 hb); clear hb ho3)))
 go_loopg [3, 4] k (fun kq v3 v4 w' => ∃ (x3_1 : List (S36)) (x4_1 : Int), v4 = .int .i64 x4_1 ∧ Aside0 (spec_BatchTimes.l0 kq l0 x3_1 x4_1 = some r) ∧ Aside0 (kq ≤ k) ∧ Aside0 (Kd.R k36 36 w' w.heap.size (fun _ => True) v3 x3_1) ∧ Aside0 (Below w.heap.size w w'))
 case atStart => exact ⟨(y120), (0), Q1, H', ⟨Nat.le_refl _⟩, ⟨by (with_reducible repeat (first | apply Kd.R_alloc | apply Kd.R_drewN | apply Kd.R_drew)); exact HO122.out⟩, ⟨Q24⟩⟩
 case round =>
  clear H'
  try clear p2
  obtain ⟨x3_1, x4_1, rfl, HA, HK1, HO_3, HB⟩ := hrel
  cases gk with
  | zero => exact absurd HA.out (by simp [spec_BatchTimes.l0])
  | succ k1 =>
   have H := HA.out
   clear HA
   simp only [spec_BatchTimes.l0] at H
   have HC4 := Aside0.mk H
   clear H
   go_upto_region 3 with (fail)
   repeat (go_quiet (fail); go_upto_region 3 with (fail))
   go_cut [14] (fun v14 wc => ∃ (kq : Nat) (x14_3 : Bool), v14 = .bool x14_3 ∧ Aside0 (spec_BatchTimes.j1 kq l0 x3_1 x4_1 x14_3 = some r) ∧ Aside0 (kq ≤ k1) ∧ Aside0 (Kd.R k36 36 wc w.heap.size (fun _ => True) u3 x3_1) ∧ Aside0 (Below w.heap.size w wc))
   case first =>
    have H := HC4.out
    clear HC4
    by_cases c5 : x4_1 ≤ 7
    ·rw [if_pos c5] at H
     have c5b0 : decide (x4_1 ≤ 7) = true := decide_eq_true c5
     clear c5
     (first | rw [c5b0] | (simp only [i64_w, i32_w]; rw [c5b0]) | skip)
     replace H := Option.bind_eq_some_iff.mp H
     obtain ⟨t123, A60, H⟩ := H
     replace H : (spec_BatchTimes.j1 k1 l0 x3_1 x4_1 t123) = some r := H
     have A6 := Aside0.mk A60
     clear A60
     have H' := Aside0.mk H
     clear H
     go_wp2_with (first | (go_at_call 56; (with_reducible refine (spec_RowsOk.calls k1 _ _ l0 t123 _ ?side1 ?side2 A6.out).mono ?_); (case side1 => exact Q33); (case side2 => exact HC0.out); rintro e w7 ⟨rfl, hb⟩; replace HO_3 := am (Kd.R_below Q8 hb); replace HB := am (below_step Q24 hb); (try clear hb)))
     repeat (go_quiet (first | (go_at_call 56; (with_reducible refine (spec_RowsOk.calls k1 _ _ l0 t123 _ ?side1 ?side2 A6.out).mono ?_); (case side1 => exact Q33); (case side2 => exact HC0.out); rintro e w7 ⟨rfl, hb⟩; replace HO_3 := am (Kd.R_below Q8 hb); replace HB := am (below_step Q24 hb); (try clear hb))); try go_wp2_with (first | (go_at_call 56; (with_reducible refine (spec_RowsOk.calls k1 _ _ l0 t123 _ ?side1 ?side2 A6.out).mono ?_); (case side1 => exact Q33); (case side2 => exact HC0.out); rintro e w7 ⟨rfl, hb⟩; replace HO_3 := am (Kd.R_below Q8 hb); replace HB := am (below_step Q24 hb); (try clear hb))))
     go_meet
     case rel => exact ⟨_, (t123), Q1, H', ⟨by have := HK1.out; first | omega | exact Nat.le_refl _⟩, ⟨Q8⟩, ⟨Q24⟩⟩
    ·rw [if_neg c5] at H
     have c5b0 : decide (x4_1 ≤ 7) = false := decide_eq_false c5
     clear c5
     (first | rw [c5b0] | (simp only [i64_w, i32_w]; rw [c5b0]) | skip)
     have H' := Aside0.mk H
     clear H
     go_wp2
     repeat (go_quiet (fail); try go_wp2)
     go_meet
     case rel => exact ⟨_, (false), Q1, H', ⟨by have := HK1.out; first | omega | exact Nat.le_refl _⟩, ⟨Q8⟩, ⟨Q24⟩⟩
   case rest =>
    clear HC4
    try clear p2
    try clear c5
    try clear c5b0
    try clear p2
    obtain ⟨kq, x14_3, rfl, HA, HJ3, HO_3, HB⟩ := hcut
    cases kq with
    | zero => exact absurd HA.out (by simp [spec_BatchTimes.j1])
    | succ kj3 =>
     have H := HA.out
     clear HA
     simp only [spec_BatchTimes.j1] at H
     by_cases c8 : x14_3 = true
     ·subst c8
      have H1 : (spec_BatchTimes.l1 kj3 l0 x3_1 x4_1 0) = some r := by rw [if_pos rfl] at H; exact H
      clear H
      have H := H1
      clear H1
      have H' := Aside0.mk H
      clear H
      go_wp2
      repeat (go_quiet (fail); try go_wp2)
      go_loopg [3, 5] kj3 (fun kq v3 v5 w' => ∃ (x3_3 : List (S36)) (x5_3 : Int), v5 = .int .i64 x5_3 ∧ Aside0 (spec_BatchTimes.l1 kq l0 x3_3 x4_1 x5_3 = some r) ∧ Aside0 (kq ≤ kj3) ∧ Aside0 (Kd.R k36 36 w' w.heap.size (fun _ => True) v3 x3_3) ∧ Aside0 (Below w.heap.size w w'))
      case atStart => exact ⟨(x3_1), (0), Q1, H', ⟨Nat.le_refl _⟩, ⟨Q8⟩, ⟨Q24⟩⟩
      case round =>
       clear H'
       try clear p2
       try clear c5
       try clear c5b0
       try clear c8
       try clear p2
       obtain ⟨x3_3, x5_3, rfl, HA, HK3, HO_3, HB⟩ := hrel
       cases gk with
       | zero => exact absurd HA.out (by simp [spec_BatchTimes.l1])
       | succ k3 =>
        have H := HA.out
        clear HA
        simp only [spec_BatchTimes.l1] at H
        by_cases c9 : x5_3 ≤ 7
        ·rw [if_pos c9] at H
         have c9b0 : decide (x5_3 ≤ 7) = true := decide_eq_true c9
         clear c9
         have H' := Aside0.mk H
         clear H
         go_wp2_with (first | ((with_reducible refine gate_dst (N := 6) rfl ?_); refine bE_ 6 #[.int .i64 0, .int .i64 0] 36 ?_; intro gb124 hg w10 hbox hb; replace HO_3 := am (Kd.R_below (Kd.R_elderB Q8 gb124 (Nat.le_of_eq hg.symm)) hb); have BK124 := am (hbox); have GW124 := am ((Q38 : w.heap.size ≤ gb124)); replace HB := am (below_step Q24 hb); have GE124 := GW124; clear hb hbox hg; obtain ⟨hcz11_0, hcz11_1, hfz11_0, hfz11_1⟩ := bx2_ BK124))
         repeat (go_quiet (first | ((with_reducible refine gate_dst (N := 6) rfl ?_); refine bE_ 6 #[.int .i64 0, .int .i64 0] 36 ?_; intro gb124 hg w10 hbox hb; replace HO_3 := am (Kd.R_below (Kd.R_elderB Q8 gb124 (Nat.le_of_eq hg.symm)) hb); have BK124 := am (hbox); have GW124 := am ((Q38 : w.heap.size ≤ gb124)); replace HB := am (below_step Q24 hb); have GE124 := GW124; clear hb hbox hg; obtain ⟨hcz11_0, hcz11_1, hfz11_0, hfz11_1⟩ := bx2_ BK124)); try go_wp2_with (first | ((with_reducible refine gate_dst (N := 6) rfl ?_); refine bE_ 6 #[.int .i64 0, .int .i64 0] 36 ?_; intro gb124 hg w10 hbox hb; replace HO_3 := am (Kd.R_below (Kd.R_elderB Q8 gb124 (Nat.le_of_eq hg.symm)) hb); have BK124 := am (hbox); have GW124 := am ((Q38 : w.heap.size ≤ gb124)); replace HB := am (below_step Q24 hb); have GE124 := GW124; clear hb hbox hg; obtain ⟨hcz11_0, hcz11_1, hfz11_0, hfz11_1⟩ := bx2_ BK124)))
         go_loopg [3, 7] k3 (fun kq v3 v7 w' => ∃ (x3_4 : List (S36)) (x7_4 : Int), v7 = .int .i64 x7_4 ∧ Aside0 (spec_BatchTimes.l2 kq l0 x3_4 x4_1 x5_3 x7_4 x4_1 x5_3 = some r) ∧ Aside0 (kq ≤ k3) ∧ Aside0 (Kd.R k36 36 w' w.heap.size (fun k_ => k_ ≠ gb124) v3 x3_4) ∧ Aside0 (w'.heap[gb124]? = some (.cells #[.int .i64 x4_1, .int .i64 x5_3] 36 (0, 0))) ∧ Aside0 (Below w.heap.size w w'))
         case atStart => exact ⟨(x3_3), (0), Q1, H', ⟨Nat.le_refl _⟩, ⟨by (with_reducible repeat (first | apply Kd.R_alloc | apply Kd.R_drewN | apply Kd.R_drew)); exact Kd.R_mono (Kd.R_far (p := ⟨gb124, 1, none⟩) (Kd.R_far (p := ⟨gb124, 0, none⟩) (Kd.R_mono HO_3.out (fun k_ hk => (⟨hk, hk.2⟩ : _ ∧ k_ ≠ gb124))) (fun _ hk => hk.2) (.int .i64 x4_1)) (fun _ hk => hk.2) (.int .i64 x5_3)) (fun _ hk => hk.1.2)⟩, ⟨by (with_reducible repeat (first | refine blk_drewN ?_ _ | refine blk_drew ?_ | refine blk_alloc ?_ _)); refine blk_put (cs := #[.int .i64 x4_1, .int .i64 0]) ?_ 1 _ rfl; (with_reducible repeat (first | refine blk_drewN ?_ _ | refine blk_drew ?_ | refine blk_alloc ?_ _)); refine blk_put (cs := #[.int .i64 0, .int .i64 0]) ?_ 0 _ rfl; (with_reducible repeat (first | refine blk_drewN ?_ _ | refine blk_drew ?_ | refine blk_alloc ?_ _)); exact BK124.out⟩, ⟨Q29⟩⟩
         case round =>
          clear H'
          try clear p2
          try clear c5
          try clear c5b0
          try clear c8
          try clear c9
          try clear c9b0
          try clear hcz11_0
          try clear hcz11_1
          try clear hfz11_0
          try clear hfz11_1
          try clear p2
          obtain ⟨x3_4, x7_4, rfl, HA, HK4, HO_3, BK124, HB⟩ := hrel
          cases gk with
          | zero => exact absurd HA.out (by simp [spec_BatchTimes.l2])
          | succ k4 =>
           have H := HA.out
           clear HA
           simp only [spec_BatchTimes.l2] at H
           by_cases c12 : x7_4 < (l0.length : Int)
           ·rw [if_pos c12] at H
            have c12b0 : decide (x7_4 < (l0.length : Int)) = true := decide_eq_true c12
            clear c12
            have c13 : 0 ≤ x7_4 := nn_ H
            rw [if_pos c13] at H
            have c13b0 : decide (0 ≤ x7_4) = true := decide_eq_true c13
            clear c13
            by_cases c14 : (((rd_T90 l0 x7_4).f2.f0) == x4_1 && (((rd_T90 l0 x7_4).f2.f1) == x5_3)) = true
            ·rw [if_pos c14] at H
             have c14b0 : (((rd_T90 l0 x7_4).f2.f0) == x4_1 && (((rd_T90 l0 x7_4).f2.f1) == x5_3)) = true := c14
             (try (have c14b1 : decide (((rd_T90 l0 x7_4).f2.f0) = x4_1 && (((rd_T90 l0 x7_4).f2.f1) == x5_3)) = true := by simpa using c14))
             (try (have c14b2 : (((rd_T90 l0 x7_4).f2.f0) == x4_1 && (((rd_T90 l0 x7_4).f2.f1) == x5_3)) = true := by simpa using c14))
             clear c14
             have c15 : x3_4.length < 8796093022208 := nn_ H
             rw [if_pos c15] at H
             have LMc15 := Aside0.mk c15
             clear c15
             obtain ⟨y126, hy_⟩ : ∃ y_ : List (S36), y_ = (x3_4 ++ [(⟨x4_1, x5_3⟩ : S36)]) := ⟨_, rfl⟩
             replace H : (spec_BatchTimes.l1 k4 l0 y126 x4_1 (wrap64 (x5_3 + 1))) = some r := Q36
             have Ny126 := Aside0.mk hy_
             clear hy_
             have H' := Aside0.mk H
             clear H
             have p125 : 0 ≤ (x7_4 : Int) := of_decide_eq_true Q2
             have q125 : x7_4 < (l0.length : Int) := of_decide_eq_true Q2
             obtain ⟨ad125, e125, hx125_0, hx125_1, hx125_2, hx125_3, hx125_4⟩ := at_T90 HR0.out x7_4 p125 q125
             cases e125
             replace hx125_0 := (HB.out.cell (World.block_lt_of_cell? w _ hx125_0)).trans hx125_0
             replace hx125_1 := (HB.out.cell (World.block_lt_of_cell? w _ hx125_1)).trans hx125_1
             replace hx125_2 := (HB.out.cell (World.block_lt_of_cell? w _ hx125_2)).trans hx125_2
             replace hx125_3 := (HB.out.cell (World.block_lt_of_cell? w _ hx125_3)).trans hx125_3
             replace hx125_4 := (HB.out.cell (World.block_lt_of_cell? w _ hx125_4)).trans hx125_4
             replace p125 := eq_true p125
             replace q125 := eq_true q125
             have hcz16_0 : wr.cell? ⟨gb124, 0, none⟩ = some (.int .i64 x4_1) := (blk_cell BK124.out 0).trans rfl
             have hcz16_1 : wr.cell? ⟨gb124, 1, none⟩ = some (.int .i64 x5_3) := (blk_cell BK124.out 1).trans rfl
             have hfz16_0 := blk_frozen BK124.out 0
             have hfz16_1 := blk_frozen BK124.out 1
             go_wp2_with (first | ((with_reducible refine gate_builtin (b := .append) (xs := #[.tmp 37, .tmp 39]) rfl ?_); at_builtin; refine Kd.R_append k36 (w0 := w) w.heap.size rfl (.tmp 37) (.tmp 39) 24 36 (.agg #[(.int .i64 0), (.int .i64 0)]) 16 rfl Try.underlying24 info36 rfl (by decide) (by omega) u3 x3_4 (⟨x4_1, x5_3⟩ : S36) [.int .i64 x4_1, .int .i64 x5_3] (fun k_ => k_ ≠ gb124) (fun _ => False) rfl rfl ?aP (fun _ hk => hk.elim) ?aF ?aO ?aB ?aS ?aL ?_; (case aP => exact k36_mkM _ _ _ (⟨x4_1, x5_3⟩ : S36)); (case aB => exact Q29); (case aF => exact (fun k_ hk => Kd.freshB (g := gb124) (o := .cells #[.int .i64 x4_1, .int .i64 x5_3] 36 (0, 0)) Q16 k_ hk)); (case aO => exact Q8); (case aS => exact (below_size Q29)); (case aL => have := LMc15.out; omega); intro v127 w17 ho hb hg hat; rw [← Ny126.out] at ho; replace BK124 := am (blk_grown (g := gb124) (o := .cells #[.int .i64 x4_1, .int .i64 x5_3] 36 (0, 0)) Q16 hg (Kd.R_away HO_3.out (fun _ hk => hk))); replace HB := am (hb); have HO128 := am (ho); clear HO_3; clear ho hb hg hat))
             repeat (go_quiet (first | ((with_reducible refine gate_builtin (b := .append) (xs := #[.tmp 37, .tmp 39]) rfl ?_); at_builtin; refine Kd.R_append k36 (w0 := w) w.heap.size rfl (.tmp 37) (.tmp 39) 24 36 (.agg #[(.int .i64 0), (.int .i64 0)]) 16 rfl Try.underlying24 info36 rfl (by decide) (by omega) u3 x3_4 (⟨x4_1, x5_3⟩ : S36) [.int .i64 x4_1, .int .i64 x5_3] (fun k_ => k_ ≠ gb124) (fun _ => False) rfl rfl ?aP (fun _ hk => hk.elim) ?aF ?aO ?aB ?aS ?aL ?_; (case aP => exact k36_mkM _ _ _ (⟨x4_1, x5_3⟩ : S36)); (case aB => exact Q29); (case aF => exact (fun k_ hk => Kd.freshB (g := gb124) (o := .cells #[.int .i64 x4_1, .int .i64 x5_3] 36 (0, 0)) Q16 k_ hk)); (case aO => exact Q8); (case aS => exact (below_size Q29)); (case aL => have := LMc15.out; omega); intro v127 w17 ho hb hg hat; rw [← Ny126.out] at ho; replace BK124 := am (blk_grown (g := gb124) (o := .cells #[.int .i64 x4_1, .int .i64 x5_3] 36 (0, 0)) Q16 hg (Kd.R_away HO_3.out (fun _ hk => hk))); replace HB := am (hb); have HO128 := am (ho); clear HO_3; clear ho hb hg hat)); try go_wp2_with (first | ((with_reducible refine gate_builtin (b := .append) (xs := #[.tmp 37, .tmp 39]) rfl ?_); at_builtin; refine Kd.R_append k36 (w0 := w) w.heap.size rfl (.tmp 37) (.tmp 39) 24 36 (.agg #[(.int .i64 0), (.int .i64 0)]) 16 rfl Try.underlying24 info36 rfl (by decide) (by omega) u3 x3_4 (⟨x4_1, x5_3⟩ : S36) [.int .i64 x4_1, .int .i64 x5_3] (fun k_ => k_ ≠ gb124) (fun _ => False) rfl rfl ?aP (fun _ hk => hk.elim) ?aF ?aO ?aB ?aS ?aL ?_; (case aP => exact k36_mkM _ _ _ (⟨x4_1, x5_3⟩ : S36)); (case aB => exact Q29); (case aF => exact (fun k_ hk => Kd.freshB (g := gb124) (o := .cells #[.int .i64 x4_1, .int .i64 x5_3] 36 (0, 0)) Q16 k_ hk)); (case aO => exact Q8); (case aS => exact (below_size Q29)); (case aL => have := LMc15.out; omega); intro v127 w17 ho hb hg hat; rw [← Ny126.out] at ho; replace BK124 := am (blk_grown (g := gb124) (o := .cells #[.int .i64 x4_1, .int .i64 x5_3] 36 (0, 0)) Q16 hg (Kd.R_away HO_3.out (fun _ hk => hk))); replace HB := am (hb); have HO128 := am (ho); clear HO_3; clear ho hb hg hat)))
             go_roundg k4
             case measure => have := HK1.out; have := HJ3.out; have := HK3.out; have := HK4.out; omega
             case rel => exact ⟨(y126), (wrap64 (x5_3 + 1)), Q1, H', ⟨Q5⟩, ⟨by (with_reducible repeat (first | apply Kd.R_alloc | apply Kd.R_drewN | apply Kd.R_drew)); exact Kd.R_mono HO128.out (fun _ hk => trivial)⟩, ⟨Q29⟩⟩
            ·rw [if_neg c14] at H
             have c14b0 : (((rd_T90 l0 x7_4).f2.f0) == x4_1 && (((rd_T90 l0 x7_4).f2.f1) == x5_3)) = false := by simpa using c14
             (try (have c14b1 : decide (((rd_T90 l0 x7_4).f2.f0) = x4_1 && (((rd_T90 l0 x7_4).f2.f1) == x5_3)) = false := by simpa using c14))
             (try (have c14b2 : (((rd_T90 l0 x7_4).f2.f0) == x4_1 && (((rd_T90 l0 x7_4).f2.f1) == x5_3)) = false := by simpa using c14))
             (try (have c14b3 : ¬ (((rd_T90 l0 x7_4).f2.f0) = x4_1 && (((rd_T90 l0 x7_4).f2.f1) == x5_3)) := by simpa using c14))
             clear c14
             have H' := Aside0.mk H
             clear H
             have p125 : 0 ≤ (x7_4 : Int) := of_decide_eq_true Q2
             have q125 : x7_4 < (l0.length : Int) := of_decide_eq_true Q2
             obtain ⟨ad125, e125, hx125_0, hx125_1, hx125_2, hx125_3, hx125_4⟩ := at_T90 HR0.out x7_4 p125 q125
             cases e125
             replace hx125_0 := (HB.out.cell (World.block_lt_of_cell? w _ hx125_0)).trans hx125_0
             replace hx125_1 := (HB.out.cell (World.block_lt_of_cell? w _ hx125_1)).trans hx125_1
             replace hx125_2 := (HB.out.cell (World.block_lt_of_cell? w _ hx125_2)).trans hx125_2
             replace hx125_3 := (HB.out.cell (World.block_lt_of_cell? w _ hx125_3)).trans hx125_3
             replace hx125_4 := (HB.out.cell (World.block_lt_of_cell? w _ hx125_4)).trans hx125_4
             replace p125 := eq_true p125
             replace q125 := eq_true q125
             have hcz18_0 : wr.cell? ⟨gb124, 0, none⟩ = some (.int .i64 x4_1) := (blk_cell BK124.out 0).trans rfl
             have hcz18_1 : wr.cell? ⟨gb124, 1, none⟩ = some (.int .i64 x5_3) := (blk_cell BK124.out 1).trans rfl
             have hfz18_0 := blk_frozen BK124.out 0
             have hfz18_1 := blk_frozen BK124.out 1
             go_wp2
             repeat (go_quiet (fail); try go_wp2)
             go_roundg k4
             case measure => have := HK1.out; have := HJ3.out; have := HK3.out; have := HK4.out; omega
             case rel => exact ⟨(x3_4), (wrap64 (x7_4 + 1)), Q1, H', ⟨Q5⟩, ⟨Q8⟩, ⟨Q16⟩, ⟨Q29⟩⟩
           ·rw [if_neg c12] at H
            have c12b0 : decide (x7_4 < (l0.length : Int)) = false := decide_eq_false c12
            clear c12
            have H' := Aside0.mk H
            clear H
            go_wp2
            repeat (go_quiet (fail); try go_wp2)
            go_roundg k4
            case measure => have := HK1.out; have := HJ3.out; have := HK3.out; have := HK4.out; omega
            case rel => exact ⟨(x3_4), (wrap64 (x5_3 + 1)), Q1, H', ⟨Q5⟩, ⟨by (with_reducible repeat (first | apply Kd.R_alloc | apply Kd.R_drewN | apply Kd.R_drew)); exact Kd.R_mono HO_3.out (fun _ hk => trivial)⟩, ⟨Q29⟩⟩
        ·rw [if_neg c9] at H
         have c9b0 : decide (x5_3 ≤ 7) = false := decide_eq_false c9
         clear c9
         have H' := Aside0.mk H
         clear H
         go_wp2
         repeat (go_quiet (fail); try go_wp2)
         go_roundg k3
         case measure => have := HK1.out; have := HJ3.out; have := HK3.out; omega
         case rel => exact ⟨(x3_3), (wrap64 (x4_1 + 1)), Q1, H', ⟨by have := HK1.out; have := HJ3.out; have := HK3.out; omega⟩, ⟨Q8⟩, ⟨Q24⟩⟩
     ·replace c8 := Bool.eq_false_iff.mpr c8
      subst c8
      have H1 : (some x3_1) = some r := by rw [if_neg (show ¬ (false = true) by decide)] at H; exact H
      clear H
      have H := H1
      clear H1
      obtain rfl := Option.some.inj H
      go_wp2
      repeat (go_quiet (fail); try go_wp2)
      go_ret
      exact ⟨_, Q6, Q8, Q24⟩
def laws_toTime.f (a0_0 : Int) (a0_1 : Int) : Option (Int × Int) := some (a0_0, a0_1)
set_option maxHeartbeats 8000000 in
set_option maxRecDepth 100000 in
theorem laws_toTime.calls (a0_0 : Int) (a0_1 : Int) (r1 : Int) (r2 : Int) (w : World) (h : laws_toTime.f a0_0 a0_1 = some (r1, r2)) :
  Calls Try.prog 60 #[.agg #[.int .i64 a0_0, .int .i64 a0_1]] w fun e w' => e = .returned (.agg #[.int .i64 r1, .int .i64 r2]) ∧ Below w.heap.size w w' := by
 have hu68 := Try.underlying68
 have hu36 := Try.underlying36
 have HB := am (Below.refl w.heap.size w)
 have H : (some (a0_0, a0_1)) = some (r1, r2) := h
 clear h
 simp only [Option.some.injEq, Prod.mk.injEq] at H
 obtain ⟨rfl, rfl⟩ := H
 go_enter Try.func60, Try.ntmps60
 go_wp2_with (first | ((with_reducible refine gate_dst (N := 1) rfl ?_); refine bE_ 1 #[.int .i64 a0_0, .int .i64 a0_1] 68 ?_; intro gb129 hg w2 hbox hb; have BK129 := am (hbox); have GW129 := am ((Q38 : w.heap.size ≤ gb129)); replace HB := am (below_step Q24 hb); have GE129 := GW129; clear hb hbox hg) | ((with_reducible refine gate_dst (N := 2) rfl ?_); refine bE_ 2 #[.int .i64 0, .int .i64 0] 36 ?_; intro gb130 hg w3 hbox hb; have BK130 := am (hbox); have GW130 := am ((by rw [hg]; exact (below_size (by repeat (first | (with_reducible first | exact HB.out | apply below_alloc | apply pw_below_drewN | apply below_drew1 | refine below_set ?_ GE129.out) | exact HB.out))) : w.heap.size ≤ gb130)); replace HB := am (below_step (by repeat (first | (with_reducible first | exact HB.out | apply below_alloc | apply pw_below_drewN | apply below_drew1 | refine below_set ?_ GE129.out) | exact HB.out)) hb); have NB129_130 := am ((by rw [hg]; exact Nat.ne_of_lt (blk_lt (g := gb129) (o := .cells #[.int .i64 a0_0, .int .i64 a0_1] 68 (0, 0)) Q17) : gb129 ≠ gb130)); have NB130_129 := am ((by rw [hg]; exact Nat.ne_of_gt (blk_lt (g := gb129) (o := .cells #[.int .i64 a0_0, .int .i64 a0_1] 68 (0, 0)) Q17) : gb130 ≠ gb129)); replace BK129 := am (blk_below (g := gb129) (o := .cells #[.int .i64 a0_0, .int .i64 a0_1] 68 (0, 0)) Q17 hb); have GE130 := GW130; clear hb hbox hg) | ((with_reducible refine gate_dst (N := 3) rfl ?_); refine bE_ 3 #[.int .i64 0, .int .i64 0] 36 ?_; intro gb131 hg w4 hbox hb; have BK131 := am (hbox); have GW131 := am ((by rw [hg]; exact (below_size (by repeat (first | (with_reducible first | exact HB.out | apply below_alloc | apply pw_below_drewN | apply below_drew1 | refine below_set ?_ GE129.out | refine below_set ?_ GE130.out) | exact HB.out))) : w.heap.size ≤ gb131)); replace HB := am (below_step (by repeat (first | (with_reducible first | exact HB.out | apply below_alloc | apply pw_below_drewN | apply below_drew1 | refine below_set ?_ GE129.out | refine below_set ?_ GE130.out) | exact HB.out)) hb); have NB129_131 := am ((by rw [hg]; exact Nat.ne_of_lt (blk_lt (g := gb129) (o := .cells #[.int .i64 a0_0, .int .i64 a0_1] 68 (0, 0)) Q17) : gb129 ≠ gb131)); have NB131_129 := am ((by rw [hg]; exact Nat.ne_of_gt (blk_lt (g := gb129) (o := .cells #[.int .i64 a0_0, .int .i64 a0_1] 68 (0, 0)) Q17) : gb131 ≠ gb129)); replace BK129 := am (blk_below (g := gb129) (o := .cells #[.int .i64 a0_0, .int .i64 a0_1] 68 (0, 0)) Q17 hb); have NB130_131 := am ((by rw [hg]; exact Nat.ne_of_lt (blk_lt (g := gb130) (o := .cells #[.int .i64 0, .int .i64 0] 36 (0, 0)) Q18) : gb130 ≠ gb131)); have NB131_130 := am ((by rw [hg]; exact Nat.ne_of_gt (blk_lt (g := gb130) (o := .cells #[.int .i64 0, .int .i64 0] 36 (0, 0)) Q18) : gb131 ≠ gb130)); replace BK130 := am (blk_below (g := gb130) (o := .cells #[.int .i64 0, .int .i64 0] 36 (0, 0)) Q18 hb); have GE131 := GW131; clear hb hbox hg; have hnb5 := NB129_130.out; have hnc5 := NB130_129.out; have hnb6 := NB129_131.out; have hnc6 := NB131_129.out; obtain ⟨hcz7_0, hcz7_1, hfz7_0, hfz7_1⟩ := bx2_ BK129; have hnb8 := NB131_130.out; have hnc8 := NB130_131.out; obtain ⟨hcz9_0, hcz9_1, hfz9_0, hfz9_1⟩ := bx2_ BK131; obtain ⟨hcz10_0, hcz10_1, hfz10_0, hfz10_1⟩ := bx2_ BK130))
 refine bodyPost_ret (results_cell_row rfl _ _ gb130 36 #[.int .i64 a0_0, .int .i64 a0_1] (0, 0) _ rfl (by (with_reducible repeat (first | refine blk_drewN ?_ _ | refine blk_drew ?_ | refine blk_alloc ?_ _)); refine blk_put (cs := #[.int .i64 a0_0, .int .i64 0]) ?_ 1 _ rfl; (with_reducible repeat (first | refine blk_drewN ?_ _ | refine blk_drew ?_ | refine blk_alloc ?_ _)); refine blk_put (cs := #[.int .i64 0, .int .i64 0]) ?_ 0 _ rfl; (with_reducible repeat (first | refine blk_drewN ?_ _ | refine blk_drew ?_ | refine blk_alloc ?_ _)); refine blk_far ?_ NB130_131.out _; (with_reducible repeat (first | refine blk_drewN ?_ _ | refine blk_drew ?_ | refine blk_alloc ?_ _)); refine blk_far ?_ NB130_131.out _; (with_reducible repeat (first | refine blk_drewN ?_ _ | refine blk_drew ?_ | refine blk_alloc ?_ _)); exact BK130.out) Try.underlying36 rfl Q0) rfl ?_
 exact ⟨Q6, by repeat (first | (with_reducible first | exact HB.out | apply below_alloc | apply pw_below_drewN | apply below_drew1 | refine below_set ?_ GE129.out | refine below_set ?_ GE130.out | refine below_set ?_ GE131.out) | exact HB.out)⟩
def laws_toRow.f (a0_0 : Int) (a0_1 : Int) (a0_2 : Int) (a0_3 : Int) (a0_4 : Int) : Option (Int × Int × Int × Int × Int) := (laws_toTime.f a0_2 a0_3).bind fun bt135 => (some (a0_0, a0_1, bt135.1, bt135.2, a0_4))
set_option maxHeartbeats 8000000 in
set_option maxRecDepth 100000 in
theorem laws_toRow.calls (a0_0 : Int) (a0_1 : Int) (a0_2 : Int) (a0_3 : Int) (a0_4 : Int) (r1 : Int) (r2 : Int) (r3 : Int) (r4 : Int) (r5 : Int) (w : World) (h : laws_toRow.f a0_0 a0_1 a0_2 a0_3 a0_4 = some (r1, r2, r3, r4, r5)) :
  Calls Try.prog 86 #[.agg #[.int .i64 a0_0, .int .i64 a0_1, .int .i64 a0_2, .int .i64 a0_3, .int .i64 a0_4]] w fun e w' => e = .returned (.agg #[.int .i64 r1, .int .i64 r2, .int .i64 r3, .int .i64 r4, .int .i64 r5]) ∧ Below w.heap.size w w' := by
 have hu93 := Try.underlying93
 have hu90 := Try.underlying90
 have hu68 := Try.underlying68
 have hu36 := Try.underlying36
 have HB := am (Below.refl w.heap.size w)
 have H : ((laws_toTime.f a0_2 a0_3).bind fun bt135 => (some (a0_0, a0_1, bt135.1, bt135.2, a0_4))) = some (r1, r2, r3, r4, r5) := h
 clear h
 replace H := Option.bind_eq_some_iff.mp H
 obtain ⟨⟨t135, t136⟩, A20, H⟩ := H
 replace H : (some (a0_0, a0_1, t135, t136, a0_4)) = some (r1, r2, r3, r4, r5) := H
 have A2 := Aside0.mk A20
 clear A20
 simp only [Option.some.injEq, Prod.mk.injEq] at H
 obtain ⟨rfl, rfl, rfl, rfl, rfl⟩ := H
 go_enter Try.func86, Try.ntmps86
 go_wp2_with (first | ((with_reducible refine gate_dst (N := 1) rfl ?_); refine bE_ 1 #[.int .i64 a0_0, .int .i64 a0_1, .int .i64 a0_2, .int .i64 a0_3, .int .i64 a0_4] 93 ?_; intro gb132 hg w3 hbox hb; have BK132 := am (hbox); have GW132 := am ((Q38 : w.heap.size ≤ gb132)); replace HB := am (below_step Q24 hb); have GE132 := GW132; clear hb hbox hg) | ((with_reducible refine gate_dst (N := 2) rfl ?_); refine bE_ 2 #[.int .i64 0, .int .i64 0, .int .i64 0, .int .i64 0, .int .i64 0] 90 ?_; intro gb133 hg w4 hbox hb; have BK133 := am (hbox); have GW133 := am ((by rw [hg]; exact (below_size (by repeat (first | (with_reducible first | exact HB.out | apply below_alloc | apply pw_below_drewN | apply below_drew1 | refine below_set ?_ GE132.out) | exact HB.out))) : w.heap.size ≤ gb133)); replace HB := am (below_step (by repeat (first | (with_reducible first | exact HB.out | apply below_alloc | apply pw_below_drewN | apply below_drew1 | refine below_set ?_ GE132.out) | exact HB.out)) hb); have NB132_133 := am ((by rw [hg]; exact Nat.ne_of_lt (blk_lt (g := gb132) (o := .cells #[.int .i64 a0_0, .int .i64 a0_1, .int .i64 a0_2, .int .i64 a0_3, .int .i64 a0_4] 93 (0, 0)) Q19) : gb132 ≠ gb133)); have NB133_132 := am ((by rw [hg]; exact Nat.ne_of_gt (blk_lt (g := gb132) (o := .cells #[.int .i64 a0_0, .int .i64 a0_1, .int .i64 a0_2, .int .i64 a0_3, .int .i64 a0_4] 93 (0, 0)) Q19) : gb133 ≠ gb132)); replace BK132 := am (blk_below (g := gb132) (o := .cells #[.int .i64 a0_0, .int .i64 a0_1, .int .i64 a0_2, .int .i64 a0_3, .int .i64 a0_4] 93 (0, 0)) Q19 hb); have GE133 := GW133; clear hb hbox hg) | ((with_reducible refine gate_dst (N := 3) rfl ?_); refine bE_ 3 #[.int .i64 0, .int .i64 0, .int .i64 0, .int .i64 0, .int .i64 0] 90 ?_; intro gb134 hg w5 hbox hb; have BK134 := am (hbox); have GW134 := am ((by rw [hg]; exact (below_size (by repeat (first | (with_reducible first | exact HB.out | apply below_alloc | apply pw_below_drewN | apply below_drew1 | refine below_set ?_ GE132.out | refine below_set ?_ GE133.out) | exact HB.out))) : w.heap.size ≤ gb134)); replace HB := am (below_step (by repeat (first | (with_reducible first | exact HB.out | apply below_alloc | apply pw_below_drewN | apply below_drew1 | refine below_set ?_ GE132.out | refine below_set ?_ GE133.out) | exact HB.out)) hb); have NB132_134 := am ((by rw [hg]; exact Nat.ne_of_lt (blk_lt (g := gb132) (o := .cells #[.int .i64 a0_0, .int .i64 a0_1, .int .i64 a0_2, .int .i64 a0_3, .int .i64 a0_4] 93 (0, 0)) Q19) : gb132 ≠ gb134)); have NB134_132 := am ((by rw [hg]; exact Nat.ne_of_gt (blk_lt (g := gb132) (o := .cells #[.int .i64 a0_0, .int .i64 a0_1, .int .i64 a0_2, .int .i64 a0_3, .int .i64 a0_4] 93 (0, 0)) Q19) : gb134 ≠ gb132)); replace BK132 := am (blk_below (g := gb132) (o := .cells #[.int .i64 a0_0, .int .i64 a0_1, .int .i64 a0_2, .int .i64 a0_3, .int .i64 a0_4] 93 (0, 0)) Q19 hb); have NB133_134 := am ((by rw [hg]; exact Nat.ne_of_lt (blk_lt (g := gb133) (o := .cells #[.int .i64 0, .int .i64 0, .int .i64 0, .int .i64 0, .int .i64 0] 90 (0, 0)) Q20) : gb133 ≠ gb134)); have NB134_133 := am ((by rw [hg]; exact Nat.ne_of_gt (blk_lt (g := gb133) (o := .cells #[.int .i64 0, .int .i64 0, .int .i64 0, .int .i64 0, .int .i64 0] 90 (0, 0)) Q20) : gb134 ≠ gb133)); replace BK133 := am (blk_below (g := gb133) (o := .cells #[.int .i64 0, .int .i64 0, .int .i64 0, .int .i64 0, .int .i64 0] 90 (0, 0)) Q20 hb); have GE134 := GW134; clear hb hbox hg; have hnb6 := NB132_133.out; have hnc6 := NB133_132.out; have hnb7 := NB132_134.out; have hnc7 := NB134_132.out; obtain ⟨hcz8_0, hcz8_1, hcz8_2, hcz8_3, hcz8_4, hfz8_0, hfz8_1, hfz8_2, hfz8_3, hfz8_4⟩ := bx5_ BK132; have hnb9 := NB134_133.out; have hnc9 := NB133_134.out; obtain ⟨hcz10_0, hcz10_1, hcz10_2, hcz10_3, hcz10_4, hfz10_0, hfz10_1, hfz10_2, hfz10_3, hfz10_4⟩ := bx5_ BK134) | ((with_reducible refine gate_callee (f := 60) rfl ?_); refine goesL_ (some 12) rfl rfl Try.func60 Q0 rfl #[.agg #[.int .i64 a0_2, .int .i64 a0_3]] rfl Q25 ?_; (with_reducible refine (laws_toTime.calls a0_2 a0_3 t135 t136 _ A2.out).mono ?_); rintro e w11 ⟨rfl, hb⟩; refine ⟨_, rfl, ?_⟩; replace BK132 := am (blk_below (g := gb132) (o := .cells #[.int .i64 a0_0, .int .i64 a0_1, .int .i64 a0_2, .int .i64 a0_3, .int .i64 a0_4] 93 (0, 0)) (by (with_reducible repeat (first | refine blk_drewN ?_ _ | refine blk_drew ?_ | refine blk_alloc ?_ _)); refine blk_far ?_ NB132_134.out _; (with_reducible repeat (first | refine blk_drewN ?_ _ | refine blk_drew ?_ | refine blk_alloc ?_ _)); refine blk_far ?_ NB132_134.out _; (with_reducible repeat (first | refine blk_drewN ?_ _ | refine blk_drew ?_ | refine blk_alloc ?_ _)); exact BK132.out) hb); replace BK133 := am (blk_below (g := gb133) (o := .cells #[.int .i64 0, .int .i64 0, .int .i64 0, .int .i64 0, .int .i64 0] 90 (0, 0)) (by (with_reducible repeat (first | refine blk_drewN ?_ _ | refine blk_drew ?_ | refine blk_alloc ?_ _)); refine blk_far ?_ NB133_134.out _; (with_reducible repeat (first | refine blk_drewN ?_ _ | refine blk_drew ?_ | refine blk_alloc ?_ _)); refine blk_far ?_ NB133_134.out _; (with_reducible repeat (first | refine blk_drewN ?_ _ | refine blk_drew ?_ | refine blk_alloc ?_ _)); exact BK133.out) hb); replace BK134 := am (blk_below (g := gb134) (o := .cells #[.int .i64 a0_0, .int .i64 a0_1, .int .i64 0, .int .i64 0, .int .i64 0] 90 (0, 0)) (by (with_reducible repeat (first | refine blk_drewN ?_ _ | refine blk_drew ?_ | refine blk_alloc ?_ _)); refine blk_put (cs := #[.int .i64 a0_0, .int .i64 0, .int .i64 0, .int .i64 0, .int .i64 0]) ?_ 1 _ rfl; (with_reducible repeat (first | refine blk_drewN ?_ _ | refine blk_drew ?_ | refine blk_alloc ?_ _)); refine blk_put (cs := #[.int .i64 0, .int .i64 0, .int .i64 0, .int .i64 0, .int .i64 0]) ?_ 0 _ rfl; (with_reducible repeat (first | refine blk_drewN ?_ _ | refine blk_drew ?_ | refine blk_alloc ?_ _)); exact BK134.out) hb); replace HB := am (below_step (by repeat (first | (with_reducible first | exact HB.out | apply below_alloc | apply pw_below_drewN | apply below_drew1 | refine below_set ?_ GE132.out | refine below_set ?_ GE133.out | refine below_set ?_ GE134.out) | exact HB.out)) hb); (try clear hb); obtain ⟨hcz12_0, hcz12_1, hcz12_2, hcz12_3, hcz12_4, hfz12_0, hfz12_1, hfz12_2, hfz12_3, hfz12_4⟩ := bx5_ BK134; obtain ⟨hcz13_0, hcz13_1, hcz13_2, hcz13_3, hcz13_4, hfz13_0, hfz13_1, hfz13_2, hfz13_3, hfz13_4⟩ := bx5_ BK132; obtain ⟨hcz14_0, hcz14_1, hcz14_2, hcz14_3, hcz14_4, hfz14_0, hfz14_1, hfz14_2, hfz14_3, hfz14_4⟩ := bx5_ BK133))
 refine bodyPost_ret (results_cell_row rfl _ _ gb133 90 #[.int .i64 a0_0, .int .i64 a0_1, .int .i64 t135, .int .i64 t136, .int .i64 a0_4] (0, 0) _ rfl (by (with_reducible repeat (first | refine blk_drewN ?_ _ | refine blk_drew ?_ | refine blk_alloc ?_ _)); refine blk_put (cs := #[.int .i64 a0_0, .int .i64 a0_1, .int .i64 t135, .int .i64 t136, .int .i64 0]) ?_ 4 _ rfl; (with_reducible repeat (first | refine blk_drewN ?_ _ | refine blk_drew ?_ | refine blk_alloc ?_ _)); refine blk_put (cs := #[.int .i64 a0_0, .int .i64 a0_1, .int .i64 t135, .int .i64 0, .int .i64 0]) ?_ 3 _ rfl; (with_reducible repeat (first | refine blk_drewN ?_ _ | refine blk_drew ?_ | refine blk_alloc ?_ _)); refine blk_put (cs := #[.int .i64 a0_0, .int .i64 a0_1, .int .i64 0, .int .i64 0, .int .i64 0]) ?_ 2 _ rfl; (with_reducible repeat (first | refine blk_drewN ?_ _ | refine blk_drew ?_ | refine blk_alloc ?_ _)); refine blk_put (cs := #[.int .i64 a0_0, .int .i64 0, .int .i64 0, .int .i64 0, .int .i64 0]) ?_ 1 _ rfl; (with_reducible repeat (first | refine blk_drewN ?_ _ | refine blk_drew ?_ | refine blk_alloc ?_ _)); refine blk_put (cs := #[.int .i64 0, .int .i64 0, .int .i64 0, .int .i64 0, .int .i64 0]) ?_ 0 _ rfl; (with_reducible repeat (first | refine blk_drewN ?_ _ | refine blk_drew ?_ | refine blk_alloc ?_ _)); refine blk_far ?_ NB133_134.out _; (with_reducible repeat (first | refine blk_drewN ?_ _ | refine blk_drew ?_ | refine blk_alloc ?_ _)); refine blk_far ?_ NB133_134.out _; (with_reducible repeat (first | refine blk_drewN ?_ _ | refine blk_drew ?_ | refine blk_alloc ?_ _)); refine blk_far ?_ NB133_134.out _; (with_reducible repeat (first | refine blk_drewN ?_ _ | refine blk_drew ?_ | refine blk_alloc ?_ _)); exact BK133.out) Try.underlying90 rfl Q0) rfl ?_
 exact ⟨Q6, by repeat (first | (with_reducible first | exact HB.out | apply below_alloc | apply pw_below_drewN | apply below_drew1 | refine below_set ?_ GE132.out | refine below_set ?_ GE133.out | refine below_set ?_ GE134.out) | exact HB.out)⟩
def laws_toRowS.l0 : Nat → List (S93) → List (S90) → Int → Option ((List (S90)))
 | 0, _, _, _ => none
 | k + 1, x0, x3, x4 => if x4 < (x0.length : Int) then (if 0 ≤ x4 then ((laws_toRow.f ((rd_T93 x0 x4).f0) ((rd_T93 x0 x4).f1) ((rd_T93 x0 x4).f2.f0) ((rd_T93 x0 x4).f2.f1) ((rd_T93 x0 x4).f3)).bind fun bt141 => (if x4 < (x3.length : Int) then (laws_toRowS.l0 k x0 (x3.set (x4 : Int).toNat (⟨bt141.1, bt141.2.1, (⟨bt141.2.2.1, bt141.2.2.2.1⟩ : S36), bt141.2.2.2.2⟩ : S90)) (wrap64 (x4 + 1))) else (none))) else (none)) else (some x3)
def laws_toRowS.f (k : Nat) (l0 : List (S93)) : Option ((List (S90))) := if 0 ≤ (l0.length : Int) then (if ((l0.length : Int) : Int).toNat ≤ 7036874417766 then (laws_toRowS.l0 k l0 (List.replicate ((l0.length : Int) : Int).toNat z90) 0) else (none)) else (none)
set_option maxHeartbeats 8000000 in
set_option maxRecDepth 100000 in
theorem laws_toRowS.calls (k : Nat) (A0 : Option Addr) (c0 : Nat) (l0 : List (S93)) (r : List (S90)) (w : World) (hr0 : Kd.C k93 w A0 l0.length l0) (hc0 : l0.length ≤ c0) (h : laws_toRowS.f k l0 = some r) :
  Calls Try.prog 51 #[.slice A0 l0.length c0] w fun e w' => ∃ v0_ : Value, e = .returned (v0_) ∧ Kd.R k90 90 w' w.heap.size (fun _ => True) v0_ r ∧ Below w.heap.size w w' := by
 have hu93 := Try.underlying93
 have hu90 := Try.underlying90
 have HR0 := Aside0.mk hr0
 have HC0 := Aside0.mk hc0
 clear hr0 hc0
 have HB := am (Below.refl w.heap.size w)
 have H : (if 0 ≤ (l0.length : Int) then (if ((l0.length : Int) : Int).toNat ≤ 7036874417766 then (laws_toRowS.l0 k l0 (List.replicate ((l0.length : Int) : Int).toNat z90) 0) else (none)) else (none)) = some r := h
 clear h
 have c2 : 0 ≤ (l0.length : Int) := nn_ H
 rw [if_pos c2] at H
 have c2b0 := eq_true c2
 have c2b1 : decide (0 ≤ (l0.length : Int)) = true := decide_eq_true c2
 clear c2
 have c3 : ((l0.length : Int) : Int).toNat ≤ 7036874417766 := nn_ H
 rw [if_pos c3] at H
 have c3b0 := eq_true c3
 have c3b1 : decide (((l0.length : Int) : Int).toNat ≤ 7036874417766) = true := decide_eq_true c3
 clear c3
 obtain ⟨y137, hy_⟩ : ∃ y_ : List (S90), y_ = (List.replicate ((l0.length : Int) : Int).toNat z90) := ⟨_, rfl⟩
 replace H : (laws_toRowS.l0 k l0 y137 0) = some r := Q36
 have Ny137 := Aside0.mk hy_
 clear hy_
 have H' := Aside0.mk H
 clear H
 go_enter Try.func51, Try.ntmps51
 go_wp2_with (first | ((with_reducible refine gate_dst (N := 7) rfl ?_); refine Kd.R_make k90 _ 90 rfl (N := 7) rfl 59 _ _ rfl (l0.length : Int) rfl rfl Try.underlying59 (.agg #[(.int .i64 0), (.int .i64 0), (.int .i64 0), (.int .i64 0), (.int .i64 0)]) 40 info90 rfl (by decide) (by omega) z90 (ok := fun _ => True) (okp := fun _ => True) (k90_mkM _ _ _ z90 ) (fun _ hk => hk) trivial (of_decide_eq_true Q2) (Nat.le_trans (Nat.mul_le_mul_right _ (of_decide_eq_true Q2 : (l0.length : Int).toNat ≤ 7036874417766)) (by omega)) (Below.refl _ _) (Nat.le_refl _) ?_; intro v138 w4 ho5 hb hg_ hnew_; clear hg_ hnew_; (first | rw [← Ny137.out] at ho5 | (simp only [Int.reduceToNat] at ho5; rw [← Ny137.out] at ho5)); have HO139 := am (Kd.R_lower ho5 (below_size Q24)); replace HB := am (below_step Q24 hb); clear hb ho5))
 go_loopg [4] k (fun kq v4 w' => ∃ (x3_1 : List (S90)) (x4_1 : Int), v4 = .int .i64 x4_1 ∧ Aside0 (laws_toRowS.l0 kq l0 x3_1 x4_1 = some r) ∧ Aside0 (kq ≤ k) ∧ Aside0 (Kd.R k90 90 w' w.heap.size (fun _ => True) v138 x3_1) ∧ Aside0 (Below w.heap.size w w'))
 case atStart => exact ⟨(y137), (0), Q1, H', ⟨Nat.le_refl _⟩, ⟨by (with_reducible repeat (first | apply Kd.R_alloc | apply Kd.R_drewN | apply Kd.R_drew)); exact HO139.out⟩, ⟨Q24⟩⟩
 case round =>
  clear H'
  try clear c2
  try clear c2b0
  try clear c2b1
  try clear p2
  try clear c3
  try clear c3b0
  try clear c3b1
  try clear c5
  obtain ⟨x3_1, x4_1, rfl, HA, HK1, HO_3, HB⟩ := hrel
  cases gk with
  | zero => exact absurd HA.out (by simp [laws_toRowS.l0])
  | succ k1 =>
   have H := HA.out
   clear HA
   simp only [laws_toRowS.l0] at H
   by_cases c6 : x4_1 < (l0.length : Int)
   ·rw [if_pos c6] at H
    have c6b0 : decide (x4_1 < (l0.length : Int)) = true := decide_eq_true c6
    clear c6
    have c7 : 0 ≤ x4_1 := nn_ H
    rw [if_pos c7] at H
    have c7b0 : decide (0 ≤ x4_1) = true := decide_eq_true c7
    clear c7
    replace H := Option.bind_eq_some_iff.mp H
    obtain ⟨⟨t141, t142, t143, t144, t145⟩, A80, H⟩ := H
    replace H : (if x4_1 < (x3_1.length : Int) then (laws_toRowS.l0 k1 l0 (x3_1.set (x4_1 : Int).toNat (⟨t141, t142, (⟨t143, t144⟩ : S36), t145⟩ : S90)) (wrap64 (x4_1 + 1))) else (none)) = some r := H
    have A8 := Aside0.mk A80
    clear A80
    have c9 : x4_1 < (x3_1.length : Int) := nn_ H
    rw [if_pos c9] at H
    have c9b0 : decide (x4_1 < (x3_1.length : Int)) = true := decide_eq_true c9
    clear c9
    obtain ⟨y146, hy_⟩ : ∃ y_ : List (S90), y_ = (x3_1.set (x4_1 : Int).toNat (⟨t141, t142, (⟨t143, t144⟩ : S36), t145⟩ : S90)) := ⟨_, rfl⟩
    replace H : (laws_toRowS.l0 k1 l0 y146 (wrap64 (x4_1 + 1))) = some r := Q36
    have Ny146 := Aside0.mk hy_
    clear hy_
    have H' := Aside0.mk H
    clear H
    have p140 : 0 ≤ (x4_1 : Int) := of_decide_eq_true Q2
    have q140 : x4_1 < (l0.length : Int) := of_decide_eq_true Q2
    obtain ⟨ad140, e140, hx140_0, hx140_1, hx140_2, hx140_3, hx140_4⟩ := at_T93 HR0.out x4_1 p140 q140
    cases e140
    replace hx140_0 := (HB.out.cell (World.block_lt_of_cell? w _ hx140_0)).trans hx140_0
    replace hx140_1 := (HB.out.cell (World.block_lt_of_cell? w _ hx140_1)).trans hx140_1
    replace hx140_2 := (HB.out.cell (World.block_lt_of_cell? w _ hx140_2)).trans hx140_2
    replace hx140_3 := (HB.out.cell (World.block_lt_of_cell? w _ hx140_3)).trans hx140_3
    replace hx140_4 := (HB.out.cell (World.block_lt_of_cell? w _ hx140_4)).trans hx140_4
    replace p140 := eq_true p140
    replace q140 := eq_true q140
    go_wp2_with (first | ((with_reducible refine gate_callee (f := 86) rfl ?_); refine goesL_ (some 20) rfl rfl Try.func86 Q0 rfl #[.agg #[.int .i64 ((rd_T93 l0 x4_1).f0), .int .i64 ((rd_T93 l0 x4_1).f1), .int .i64 ((rd_T93 l0 x4_1).f2.f0), .int .i64 ((rd_T93 l0 x4_1).f2.f1), .int .i64 ((rd_T93 l0 x4_1).f3)]] rfl Q25 ?_; (with_reducible refine (laws_toRow.calls ((rd_T93 l0 x4_1).f0) ((rd_T93 l0 x4_1).f1) ((rd_T93 l0 x4_1).f2.f0) ((rd_T93 l0 x4_1).f2.f1) ((rd_T93 l0 x4_1).f3) t141 t142 t143 t144 t145 _ A8.out).mono ?_); rintro e w11 ⟨rfl, hb⟩; refine ⟨_, rfl, ?_⟩; replace HO_3 := am (Kd.R_below Q8 hb); replace HB := am (below_step Q24 hb); (try clear hb); have p10 : 0 ≤ (x4_1 : Int) := of_decide_eq_true Q2; have q10 : (x4_1 : Int) < ((x3_1.length : Int) : Int) := of_decide_eq_true Q2; obtain ⟨go10, co10, eo10, gb10, gl10, cl10, HG10⟩ := Kd.R_form HO_3.out (by omega); (first | cases eo10 | (injection eo10 with ea_ en_ ec_; (first | subst ea_ | (injection ea_ with ea_; subst ea_)); subst ec_; clear en_)); have GB10 := Aside0.mk gb10; have GG10 := Aside0.mk HG10; clear gb10 gl10 HG10; obtain ⟨ce10, hcl10, hM10, hcc10, hfr10⟩ := Kd.R_elem HO_3.out z90 (x4_1 : Int) p10 q10; obtain rfl := k90_openM hM10; have hx10_0 : w11.cell? ⟨go10, (x4_1 : Int).toNat * 5, none⟩ = some (.int .i64 ((rd_T90 x3_1 x4_1).f0)) := hcc10 0 _ rfl; have hx10_1 : w11.cell? ⟨go10, (x4_1 : Int).toNat * 5 + 1, none⟩ = some (.int .i64 ((rd_T90 x3_1 x4_1).f1)) := hcc10 1 _ rfl; have hx10_2 : w11.cell? ⟨go10, (x4_1 : Int).toNat * 5 + 2, none⟩ = some (.int .i64 ((rd_T90 x3_1 x4_1).f2.f0)) := hcc10 2 _ rfl; have hx10_3 : w11.cell? ⟨go10, (x4_1 : Int).toNat * 5 + 3, none⟩ = some (.int .i64 ((rd_T90 x3_1 x4_1).f2.f1)) := hcc10 3 _ rfl; have hx10_4 : w11.cell? ⟨go10, (x4_1 : Int).toNat * 5 + 4, none⟩ = some (.int .i64 ((rd_T90 x3_1 x4_1).f3)) := hcc10 4 _ rfl; have hf10_0 : w11.frozen? ⟨go10, (x4_1 : Int).toNat * 5, none⟩ = false := hfr10 0; have hf10_1 : w11.frozen? ⟨go10, (x4_1 : Int).toNat * 5 + 1, none⟩ = false := hfr10 1; have hf10_2 : w11.frozen? ⟨go10, (x4_1 : Int).toNat * 5 + 2, none⟩ = false := hfr10 2; have hf10_3 : w11.frozen? ⟨go10, (x4_1 : Int).toNat * 5 + 3, none⟩ = false := hfr10 3; have hf10_4 : w11.frozen? ⟨go10, (x4_1 : Int).toNat * 5 + 4, none⟩ = false := hfr10 4; clear hcl10 hcc10 hfr10 hM10; replace p10 := eq_true p10; replace q10 := eq_true q10; have HX12 := am (show Kd.R k90 90 w11 w.heap.size (fun _ => True) (.slice (some ⟨go10, 0, none⟩) x3_1.length co10) x3_1 from Q8); obtain ⟨ce12, hcl12, hM12, hcc12, hfr12⟩ := Kd.R_elem HX12.out z90 (x4_1 : Int) (of_decide_eq_true Q2) (by have h_ : (x4_1 : Int) < ((x3_1.length : Int) : Int) := of_decide_eq_true Q2; first | exact h_ | (have e_ := (Kd.R_reads' HO_3.out).1; omega) | simpa using h_); obtain rfl := k90_openM hM12; have HP12 := Kd.R_seg HX12.out (x4_1 : Int) (of_decide_eq_true Q2) (by have h_ : (x4_1 : Int) < ((x3_1.length : Int) : Int) := of_decide_eq_true Q2; first | exact h_ | (have e_ := (Kd.R_reads' HO_3.out).1; omega) | simpa using h_) (seg := [.int .i64 t141, .int .i64 t142, .int .i64 t143, .int .i64 t144, .int .i64 t145]) (j := 0) hcl12 hcc12 (show 5 ≤ 5 from by decide) (x' := (⟨t141, t142, (⟨t143, t144⟩ : S36), t145⟩ : S90)) (k90_mkM _ _ _ (⟨t141, t142, (⟨t143, t144⟩ : S36), t145⟩ : S90) ) (fun _ hk => hk); have hx12_0 := hcc12 0 _ rfl; (try simp only [show (k90).sz = 5 from rfl, Nat.mul_one, Nat.add_zero] at hx12_0); have hf12_0 := hfr12 0; (try simp only [show (k90).sz = 5 from rfl, Nat.mul_one, Nat.add_zero] at hf12_0); have hx12_1 := hcc12 1 _ rfl; (try simp only [show (k90).sz = 5 from rfl, Nat.mul_one, Nat.add_zero] at hx12_1); have hf12_1 := hfr12 1; (try simp only [show (k90).sz = 5 from rfl, Nat.mul_one, Nat.add_zero] at hf12_1); have hx12_2 := hcc12 2 _ rfl; (try simp only [show (k90).sz = 5 from rfl, Nat.mul_one, Nat.add_zero] at hx12_2); have hf12_2 := hfr12 2; (try simp only [show (k90).sz = 5 from rfl, Nat.mul_one, Nat.add_zero] at hf12_2); have hx12_3 := hcc12 3 _ rfl; (try simp only [show (k90).sz = 5 from rfl, Nat.mul_one, Nat.add_zero] at hx12_3); have hf12_3 := hfr12 3; (try simp only [show (k90).sz = 5 from rfl, Nat.mul_one, Nat.add_zero] at hf12_3); have hx12_4 := hcc12 4 _ rfl; (try simp only [show (k90).sz = 5 from rfl, Nat.mul_one, Nat.add_zero] at hx12_4); have hf12_4 := hfr12 4; (try simp only [show (k90).sz = 5 from rfl, Nat.mul_one, Nat.add_zero] at hf12_4); clear hcl12 hcc12 hfr12 hM12) | ((with_reducible refine gate_store (t := 90) (p := 21) rfl ?_); refine store_event (t := 90) (p := 21) (v := ?vo_w13) (w1 := (((((w11.setCell ⟨go10, (x4_1 : Int).toNat * 5, none⟩ (.int .i64 t141)).setCell ⟨go10, (x4_1 : Int).toNat * 5 + 1, none⟩ (.int .i64 t142)).setCell ⟨go10, (x4_1 : Int).toNat * 5 + 2, none⟩ (.int .i64 t143)).setCell ⟨go10, (x4_1 : Int).toNat * 5 + 3, none⟩ (.int .i64 t144)).setCell ⟨go10, (x4_1 : Int).toNat * 5 + 4, none⟩ (.int .i64 t145))) ?hg ?ho ?hn ?hr ?_; (case ho => rfl); (case hg => rfl); (case hn => rfl); (case hr => first | (go_simp; done) | (go_simp; rfl)); intro w13 hw; have hg : w11.grownBy w13 (some go10) := (by rw [hw]; exact HP12.2); have hp_ : Kd.R k90 90 w13 w.heap.size (fun _ => True) (.slice (some ⟨go10, 0, none⟩) x3_1.length co10) y146 := (by rw [hw, Ny146.out]; exact HP12.1); clear HP12; replace HO_3 := am (hp_); replace HB := am ((by rw [hw]; exact below_set (below_set (below_set (below_set (below_set (HB.out) GB10.out) GB10.out) GB10.out) GB10.out) GB10.out : Below w.heap.size w w13)); clear hg hw hp_))
    go_roundg k1
    case measure => have := HK1.out; omega
    case rel => exact ⟨(y146), (wrap64 (x4_1 + 1)), Q1, H', ⟨by have := HK1.out; omega⟩, ⟨Q8⟩, ⟨Q24⟩⟩
   ·rw [if_neg c6] at H
    have c6b0 : decide (x4_1 < (l0.length : Int)) = false := decide_eq_false c6
    clear c6
    obtain rfl := Option.some.inj H
    go_wp2
    go_ret
    exact ⟨_, Q6, Q8, Q24⟩
def laws_eqRow.f (a0_0 : Int) (a0_1 : Int) (a0_2 : Int) (a0_3 : Int) (a0_4 : Int) (a1_0 : Int) (a1_1 : Int) (a1_2 : Int) (a1_3 : Int) (a1_4 : Int) : Option (Bool) := if a0_0 = a1_0 then (if a0_1 = a1_1 then ((laws_eqTime.f a0_2 a0_3 a1_2 a1_3).bind fun t153 => (if t153 = true then (if a0_4 = a1_4 then (some true) else (some false)) else (some false))) else (some false)) else (some false)
set_option maxHeartbeats 8000000 in
set_option maxRecDepth 100000 in
theorem laws_eqRow.calls (a0_0 : Int) (a0_1 : Int) (a0_2 : Int) (a0_3 : Int) (a0_4 : Int) (a1_0 : Int) (a1_1 : Int) (a1_2 : Int) (a1_3 : Int) (a1_4 : Int) (r : Bool) (w : World) (h : laws_eqRow.f a0_0 a0_1 a0_2 a0_3 a0_4 a1_0 a1_1 a1_2 a1_3 a1_4 = some r) :
  Calls Try.prog 89 #[.agg #[.int .i64 a0_0, .int .i64 a0_1, .int .i64 a0_2, .int .i64 a0_3, .int .i64 a0_4], .agg #[.int .i64 a1_0, .int .i64 a1_1, .int .i64 a1_2, .int .i64 a1_3, .int .i64 a1_4]] w fun e w' => e = .returned (.bool r) ∧ Below w.heap.size w w' := by
 have hu90 := Try.underlying90
 have hu36 := Try.underlying36
 have HB := am (Below.refl w.heap.size w)
 have H : (if a0_0 = a1_0 then (if a0_1 = a1_1 then ((laws_eqTime.f a0_2 a0_3 a1_2 a1_3).bind fun t153 => (if t153 = true then (if a0_4 = a1_4 then (some true) else (some false)) else (some false))) else (some false)) else (some false)) = some r := h
 clear h
 by_cases c3 : a0_0 = a1_0
 ·rw [if_pos c3] at H
  have c3b0 : (a0_0 == a1_0) = true := beq_iff_eq.mpr c3
  have c3b1 : (a0_0 != a1_0) = false := bne_eq_false_iff_eq.mpr c3
  clear c3
  by_cases c4 : a0_1 = a1_1
  ·rw [if_pos c4] at H
   have c4b0 : (a0_1 == a1_1) = true := beq_iff_eq.mpr c4
   have c4b1 : (a0_1 != a1_1) = false := bne_eq_false_iff_eq.mpr c4
   clear c4
   replace H := Option.bind_eq_some_iff.mp H
   obtain ⟨t153, A50, H⟩ := H
   replace H : (if t153 = true then (if a0_4 = a1_4 then (some true) else (some false)) else (some false)) = some r := H
   have A5 := Aside0.mk A50
   clear A50
   by_cases c6 : t153 = true
   ·subst c6
    have H1 : (if a0_4 = a1_4 then (some true) else (some false)) = some r := by rw [if_pos rfl] at H; exact H
    clear H
    have H := H1
    clear H1
    by_cases c7 : a0_4 = a1_4
    ·rw [if_pos c7] at H
     have c7b0 : (a0_4 == a1_4) = true := beq_iff_eq.mpr c7
     have c7b1 : (a0_4 != a1_4) = false := bne_eq_false_iff_eq.mpr c7
     clear c7
     obtain rfl := Option.some.inj H
     go_enter Try.func89, Try.ntmps89
     go_wp2_with (first | ((with_reducible refine gate_dst (N := 2) rfl ?_); refine bE_ 2 #[.int .i64 a0_0, .int .i64 a0_1, .int .i64 a0_2, .int .i64 a0_3, .int .i64 a0_4] 90 ?_; intro gb151 hg w8 hbox hb; have BK151 := am (hbox); have GW151 := am ((Q38 : w.heap.size ≤ gb151)); replace HB := am (below_step Q24 hb); have GE151 := GW151; clear hb hbox hg) | ((with_reducible refine gate_dst (N := 3) rfl ?_); refine bE_ 3 #[.int .i64 a1_0, .int .i64 a1_1, .int .i64 a1_2, .int .i64 a1_3, .int .i64 a1_4] 90 ?_; intro gb152 hg w9 hbox hb; have BK152 := am (hbox); have GW152 := am ((by rw [hg]; exact (below_size Q32) : w.heap.size ≤ gb152)); replace HB := am (below_step Q32 hb); have NB151_152 := am ((Q41 : gb151 ≠ gb152)); have NB152_151 := am ((Q42 : gb152 ≠ gb151)); replace BK151 := am (blk_below (g := gb151) (o := .cells #[.int .i64 a0_0, .int .i64 a0_1, .int .i64 a0_2, .int .i64 a0_3, .int .i64 a0_4] 90 (0, 0)) Q21 hb); have GE152 := GW152; clear hb hbox hg; have hnb10 := NB151_152.out; have hnc10 := NB152_151.out; obtain ⟨hcz11_0, hcz11_1, hcz11_2, hcz11_3, hcz11_4, hfz11_0, hfz11_1, hfz11_2, hfz11_3, hfz11_4⟩ := bx5_ BK151; obtain ⟨hcz12_0, hcz12_1, hcz12_2, hcz12_3, hcz12_4, hfz12_0, hfz12_1, hfz12_2, hfz12_3, hfz12_4⟩ := bx5_ BK152) | ((with_reducible refine gate_callee (f := 65) rfl ?_); refine goesL_ (some 19) rfl rfl Try.func65 Q0 rfl #[.agg #[.int .i64 a0_2, .int .i64 a0_3], .agg #[.int .i64 a1_2, .int .i64 a1_3]] rfl Q25 ?_; (with_reducible refine (laws_eqTime.calls a0_2 a0_3 a1_2 a1_3 true _ A5.out).mono ?_); rintro e w13 ⟨rfl, hb⟩; refine ⟨_, rfl, ?_⟩; replace BK151 := am (blk_below (g := gb151) (o := .cells #[.int .i64 a0_0, .int .i64 a0_1, .int .i64 a0_2, .int .i64 a0_3, .int .i64 a0_4] 90 (0, 0)) Q21 hb); replace BK152 := am (blk_below (g := gb152) (o := .cells #[.int .i64 a1_0, .int .i64 a1_1, .int .i64 a1_2, .int .i64 a1_3, .int .i64 a1_4] 90 (0, 0)) Q22 hb); replace HB := am (below_step Q35 hb); (try clear hb); obtain ⟨hcz14_0, hcz14_1, hcz14_2, hcz14_3, hcz14_4, hfz14_0, hfz14_1, hfz14_2, hfz14_3, hfz14_4⟩ := bx5_ BK151; obtain ⟨hcz15_0, hcz15_1, hcz15_2, hcz15_3, hcz15_4, hfz15_0, hfz15_1, hfz15_2, hfz15_3, hfz15_4⟩ := bx5_ BK152))
     go_ret
     exact ⟨Q6, Q35⟩
    ·rw [if_neg c7] at H
     have c7b0 : (a0_4 == a1_4) = false := beq_eq_false_iff_ne.mpr c7
     have c7b1 : (a0_4 != a1_4) = true := bne_iff_ne.mpr c7
     obtain rfl := Option.some.inj H
     go_enter Try.func89, Try.ntmps89
     go_wp2_with (first | ((with_reducible refine gate_dst (N := 2) rfl ?_); refine bE_ 2 #[.int .i64 a0_0, .int .i64 a0_1, .int .i64 a0_2, .int .i64 a0_3, .int .i64 a0_4] 90 ?_; intro gb151 hg w16 hbox hb; have BK151 := am (hbox); have GW151 := am ((Q38 : w.heap.size ≤ gb151)); replace HB := am (below_step Q24 hb); have GE151 := GW151; clear hb hbox hg) | ((with_reducible refine gate_dst (N := 3) rfl ?_); refine bE_ 3 #[.int .i64 a1_0, .int .i64 a1_1, .int .i64 a1_2, .int .i64 a1_3, .int .i64 a1_4] 90 ?_; intro gb152 hg w17 hbox hb; have BK152 := am (hbox); have GW152 := am ((by rw [hg]; exact (below_size Q32) : w.heap.size ≤ gb152)); replace HB := am (below_step Q32 hb); have NB151_152 := am ((Q41 : gb151 ≠ gb152)); have NB152_151 := am ((Q42 : gb152 ≠ gb151)); replace BK151 := am (blk_below (g := gb151) (o := .cells #[.int .i64 a0_0, .int .i64 a0_1, .int .i64 a0_2, .int .i64 a0_3, .int .i64 a0_4] 90 (0, 0)) Q21 hb); have GE152 := GW152; clear hb hbox hg; have hnb18 := NB151_152.out; have hnc18 := NB152_151.out; obtain ⟨hcz19_0, hcz19_1, hcz19_2, hcz19_3, hcz19_4, hfz19_0, hfz19_1, hfz19_2, hfz19_3, hfz19_4⟩ := bx5_ BK151; obtain ⟨hcz20_0, hcz20_1, hcz20_2, hcz20_3, hcz20_4, hfz20_0, hfz20_1, hfz20_2, hfz20_3, hfz20_4⟩ := bx5_ BK152) | ((with_reducible refine gate_callee (f := 65) rfl ?_); refine goesL_ (some 19) rfl rfl Try.func65 Q0 rfl #[.agg #[.int .i64 a0_2, .int .i64 a0_3], .agg #[.int .i64 a1_2, .int .i64 a1_3]] rfl Q25 ?_; (with_reducible refine (laws_eqTime.calls a0_2 a0_3 a1_2 a1_3 true _ A5.out).mono ?_); rintro e w21 ⟨rfl, hb⟩; refine ⟨_, rfl, ?_⟩; replace BK151 := am (blk_below (g := gb151) (o := .cells #[.int .i64 a0_0, .int .i64 a0_1, .int .i64 a0_2, .int .i64 a0_3, .int .i64 a0_4] 90 (0, 0)) Q21 hb); replace BK152 := am (blk_below (g := gb152) (o := .cells #[.int .i64 a1_0, .int .i64 a1_1, .int .i64 a1_2, .int .i64 a1_3, .int .i64 a1_4] 90 (0, 0)) Q22 hb); replace HB := am (below_step Q35 hb); (try clear hb); obtain ⟨hcz22_0, hcz22_1, hcz22_2, hcz22_3, hcz22_4, hfz22_0, hfz22_1, hfz22_2, hfz22_3, hfz22_4⟩ := bx5_ BK151; obtain ⟨hcz23_0, hcz23_1, hcz23_2, hcz23_3, hcz23_4, hfz23_0, hfz23_1, hfz23_2, hfz23_3, hfz23_4⟩ := bx5_ BK152))
     go_ret
     exact ⟨Q6, Q35⟩
   ·replace c6 := Bool.eq_false_iff.mpr c6
    subst c6
    have H1 : (some false) = some r := by rw [if_neg (show ¬ (false = true) by decide)] at H; exact H
    clear H
    have H := H1
    clear H1
    obtain rfl := Option.some.inj H
    go_enter Try.func89, Try.ntmps89
    go_wp2_with (first | ((with_reducible refine gate_dst (N := 2) rfl ?_); refine bE_ 2 #[.int .i64 a0_0, .int .i64 a0_1, .int .i64 a0_2, .int .i64 a0_3, .int .i64 a0_4] 90 ?_; intro gb151 hg w24 hbox hb; have BK151 := am (hbox); have GW151 := am ((Q38 : w.heap.size ≤ gb151)); replace HB := am (below_step Q24 hb); have GE151 := GW151; clear hb hbox hg) | ((with_reducible refine gate_dst (N := 3) rfl ?_); refine bE_ 3 #[.int .i64 a1_0, .int .i64 a1_1, .int .i64 a1_2, .int .i64 a1_3, .int .i64 a1_4] 90 ?_; intro gb152 hg w25 hbox hb; have BK152 := am (hbox); have GW152 := am ((by rw [hg]; exact (below_size Q32) : w.heap.size ≤ gb152)); replace HB := am (below_step Q32 hb); have NB151_152 := am ((Q41 : gb151 ≠ gb152)); have NB152_151 := am ((Q42 : gb152 ≠ gb151)); replace BK151 := am (blk_below (g := gb151) (o := .cells #[.int .i64 a0_0, .int .i64 a0_1, .int .i64 a0_2, .int .i64 a0_3, .int .i64 a0_4] 90 (0, 0)) Q21 hb); have GE152 := GW152; clear hb hbox hg; have hnb26 := NB151_152.out; have hnc26 := NB152_151.out; obtain ⟨hcz27_0, hcz27_1, hcz27_2, hcz27_3, hcz27_4, hfz27_0, hfz27_1, hfz27_2, hfz27_3, hfz27_4⟩ := bx5_ BK151; obtain ⟨hcz28_0, hcz28_1, hcz28_2, hcz28_3, hcz28_4, hfz28_0, hfz28_1, hfz28_2, hfz28_3, hfz28_4⟩ := bx5_ BK152) | ((with_reducible refine gate_callee (f := 65) rfl ?_); refine goesL_ (some 19) rfl rfl Try.func65 Q0 rfl #[.agg #[.int .i64 a0_2, .int .i64 a0_3], .agg #[.int .i64 a1_2, .int .i64 a1_3]] rfl Q25 ?_; (with_reducible refine (laws_eqTime.calls a0_2 a0_3 a1_2 a1_3 false _ A5.out).mono ?_); rintro e w29 ⟨rfl, hb⟩; refine ⟨_, rfl, ?_⟩; replace BK151 := am (blk_below (g := gb151) (o := .cells #[.int .i64 a0_0, .int .i64 a0_1, .int .i64 a0_2, .int .i64 a0_3, .int .i64 a0_4] 90 (0, 0)) Q21 hb); replace BK152 := am (blk_below (g := gb152) (o := .cells #[.int .i64 a1_0, .int .i64 a1_1, .int .i64 a1_2, .int .i64 a1_3, .int .i64 a1_4] 90 (0, 0)) Q22 hb); replace HB := am (below_step Q35 hb); (try clear hb)))
    go_ret
    exact ⟨Q6, Q35⟩
  ·rw [if_neg c4] at H
   have c4b0 : (a0_1 == a1_1) = false := beq_eq_false_iff_ne.mpr c4
   have c4b1 : (a0_1 != a1_1) = true := bne_iff_ne.mpr c4
   obtain rfl := Option.some.inj H
   go_enter Try.func89, Try.ntmps89
   go_wp2_with (first | ((with_reducible refine gate_dst (N := 2) rfl ?_); refine bE_ 2 #[.int .i64 a0_0, .int .i64 a0_1, .int .i64 a0_2, .int .i64 a0_3, .int .i64 a0_4] 90 ?_; intro gb151 hg w30 hbox hb; have BK151 := am (hbox); have GW151 := am ((Q38 : w.heap.size ≤ gb151)); replace HB := am (below_step Q24 hb); have GE151 := GW151; clear hb hbox hg) | ((with_reducible refine gate_dst (N := 3) rfl ?_); refine bE_ 3 #[.int .i64 a1_0, .int .i64 a1_1, .int .i64 a1_2, .int .i64 a1_3, .int .i64 a1_4] 90 ?_; intro gb152 hg w31 hbox hb; have BK152 := am (hbox); have GW152 := am ((by rw [hg]; exact (below_size Q32) : w.heap.size ≤ gb152)); replace HB := am (below_step Q32 hb); have NB151_152 := am ((Q41 : gb151 ≠ gb152)); have NB152_151 := am ((Q42 : gb152 ≠ gb151)); replace BK151 := am (blk_below (g := gb151) (o := .cells #[.int .i64 a0_0, .int .i64 a0_1, .int .i64 a0_2, .int .i64 a0_3, .int .i64 a0_4] 90 (0, 0)) Q21 hb); have GE152 := GW152; clear hb hbox hg; have hnb32 := NB151_152.out; have hnc32 := NB152_151.out; obtain ⟨hcz33_0, hcz33_1, hcz33_2, hcz33_3, hcz33_4, hfz33_0, hfz33_1, hfz33_2, hfz33_3, hfz33_4⟩ := bx5_ BK151; obtain ⟨hcz34_0, hcz34_1, hcz34_2, hcz34_3, hcz34_4, hfz34_0, hfz34_1, hfz34_2, hfz34_3, hfz34_4⟩ := bx5_ BK152))
   go_ret
   exact ⟨Q6, Q35⟩
 ·rw [if_neg c3] at H
  have c3b0 : (a0_0 == a1_0) = false := beq_eq_false_iff_ne.mpr c3
  have c3b1 : (a0_0 != a1_0) = true := bne_iff_ne.mpr c3
  obtain rfl := Option.some.inj H
  go_enter Try.func89, Try.ntmps89
  go_wp2_with (first | ((with_reducible refine gate_dst (N := 2) rfl ?_); refine bE_ 2 #[.int .i64 a0_0, .int .i64 a0_1, .int .i64 a0_2, .int .i64 a0_3, .int .i64 a0_4] 90 ?_; intro gb151 hg w35 hbox hb; have BK151 := am (hbox); have GW151 := am ((Q38 : w.heap.size ≤ gb151)); replace HB := am (below_step Q24 hb); have GE151 := GW151; clear hb hbox hg) | ((with_reducible refine gate_dst (N := 3) rfl ?_); refine bE_ 3 #[.int .i64 a1_0, .int .i64 a1_1, .int .i64 a1_2, .int .i64 a1_3, .int .i64 a1_4] 90 ?_; intro gb152 hg w36 hbox hb; have BK152 := am (hbox); have GW152 := am ((by rw [hg]; exact (below_size Q32) : w.heap.size ≤ gb152)); replace HB := am (below_step Q32 hb); have NB151_152 := am ((Q41 : gb151 ≠ gb152)); have NB152_151 := am ((Q42 : gb152 ≠ gb151)); replace BK151 := am (blk_below (g := gb151) (o := .cells #[.int .i64 a0_0, .int .i64 a0_1, .int .i64 a0_2, .int .i64 a0_3, .int .i64 a0_4] 90 (0, 0)) Q21 hb); have GE152 := GW152; clear hb hbox hg; have hnb37 := NB151_152.out; have hnc37 := NB152_151.out; obtain ⟨hcz38_0, hcz38_1, hcz38_2, hcz38_3, hcz38_4, hfz38_0, hfz38_1, hfz38_2, hfz38_3, hfz38_4⟩ := bx5_ BK151; obtain ⟨hcz39_0, hcz39_1, hcz39_2, hcz39_3, hcz39_4, hfz39_0, hfz39_1, hfz39_2, hfz39_3, hfz39_4⟩ := bx5_ BK152))
  go_ret
  exact ⟨Q6, Q35⟩
def laws_eqRowS.l0 : Nat → List (S90) → List (S90) → Int → Option (Bool)
 | 0, _, _, _ => none
 | k + 1, x0, x1, x5 => if x5 < (x0.length : Int) then (if 0 ≤ x5 then (if x5 < (x1.length : Int) then ((laws_eqRow.f ((rd_T90 x0 x5).f0) ((rd_T90 x0 x5).f1) ((rd_T90 x0 x5).f2.f0) ((rd_T90 x0 x5).f2.f1) ((rd_T90 x0 x5).f3) ((rd_T90 x1 x5).f0) ((rd_T90 x1 x5).f1) ((rd_T90 x1 x5).f2.f0) ((rd_T90 x1 x5).f2.f1) ((rd_T90 x1 x5).f3)).bind fun t156 => (if t156 = true then (laws_eqRowS.l0 k x0 x1 (wrap64 (x5 + 1))) else (some false))) else (none)) else (none)) else (some true)
def laws_eqRowS.f (k : Nat) (l0 : List (S90)) (l1 : List (S90)) : Option (Bool) := if (l0.length : Int) = (l1.length : Int) then (laws_eqRowS.l0 k l0 l1 0) else (some false)
def laws_eqRowS.T6 : Bool × List (List Nat × List Nat) := (true, [([], []), ([], []), ([0, 1], [0, 1]), ([2], [2]), ([], []), ([], []), ([4, 5], [4, 5]), ([6], [6]), ([3, 7], [3, 7]), ([8], [8])])
def laws_eqRowS.B6 : List Nat := [0, 0, 3, 7, 0, 0, 48, 112, 255, 511]
theorem laws_eqRowS.tab6 : rtab .any (opsOf Try.f53 6) = laws_eqRowS.T6 := by kernel_rfl
theorem laws_eqRowS.bits6 : waitsOk laws_eqRowS.T6.2 laws_eqRowS.B6 = true := by kernel_rfl
set_option maxHeartbeats 8000000 in
set_option maxRecDepth 100000 in
theorem laws_eqRowS.calls (k : Nat) (A0 : Option Addr) (c0 : Nat) (l0 : List (S90)) (A1 : Option Addr) (c1 : Nat) (l1 : List (S90)) (r : Bool) (w : World) (hr0 : Kd.C k90 w A0 l0.length l0) (hc0 : l0.length ≤ c0) (hr1 : Kd.C k90 w A1 l1.length l1) (hc1 : l1.length ≤ c1) (h : laws_eqRowS.f k l0 l1 = some r) :
  Calls Try.prog 53 #[.slice A0 l0.length c0, .slice A1 l1.length c1] w fun e w' => e = .returned (.bool r) ∧ Below w.heap.size w w' := by
 have hu90 := Try.underlying90
 have HR0 := Aside0.mk hr0
 have HC0 := Aside0.mk hc0
 clear hr0 hc0
 have HR1 := Aside0.mk hr1
 have HC1 := Aside0.mk hc1
 clear hr1 hc1
 have HB := am (Below.refl w.heap.size w)
 have H : (if (l0.length : Int) = (l1.length : Int) then (laws_eqRowS.l0 k l0 l1 0) else (some false)) = some r := h
 clear h
 by_cases c3 : (l0.length : Int) = (l1.length : Int)
 ·rw [if_pos c3] at H
  have c3b0 : ((l0.length : Int) == (l1.length : Int)) = true := beq_iff_eq.mpr c3
  have c3b1 : ((l0.length : Int) != (l1.length : Int)) = false := bne_eq_false_iff_eq.mpr c3
  have c3b2 : (l0.length == l1.length) = true := by first | simpa using c3 | (simp at c3 ⊢; omega)
  clear c3
  have H' := Aside0.mk H
  clear H
  go_enter Try.func53, Try.ntmps53
  go_wp2
  go_loopg [5] k (fun kq v5 w' => ∃ (x5_1 : Int), v5 = .int .i64 x5_1 ∧ Aside0 (laws_eqRowS.l0 kq l0 l1 x5_1 = some r) ∧ Aside0 (kq ≤ k) ∧ Aside0 (Below w.heap.size w w'))
  case atStart => exact ⟨(0), Q1, H', ⟨Nat.le_refl _⟩, ⟨Q24⟩⟩
  case round =>
   clear H'
   try clear c1
   try clear p2
   try clear c3
   try clear c3b0
   try clear c3b1
   try clear c3b2
   obtain ⟨x5_1, rfl, HA, HK1, HB⟩ := hrel
   cases gk with
   | zero => exact absurd HA.out (by simp [laws_eqRowS.l0])
   | succ k1 =>
    have H := HA.out
    clear HA
    simp only [laws_eqRowS.l0] at H
    by_cases c4 : x5_1 < (l0.length : Int)
    ·rw [if_pos c4] at H
     have c4b0 : decide (x5_1 < (l0.length : Int)) = true := decide_eq_true c4
     clear c4
     have c5 : 0 ≤ x5_1 := nn_ H
     rw [if_pos c5] at H
     have c5b0 : decide (0 ≤ x5_1) = true := decide_eq_true c5
     clear c5
     have c6 : x5_1 < (l1.length : Int) := nn_ H
     rw [if_pos c6] at H
     have c6b0 : decide (x5_1 < (l1.length : Int)) = true := decide_eq_true c6
     clear c6
     replace H := Option.bind_eq_some_iff.mp H
     obtain ⟨t156, A70, H⟩ := H
     replace H : (if t156 = true then (laws_eqRowS.l0 k1 l0 l1 (wrap64 (x5_1 + 1))) else (some false)) = some r := H
     have A7 := Aside0.mk A70
     clear A70
     by_cases c8 : t156 = true
     ·subst c8
      have H1 : (laws_eqRowS.l0 k1 l0 l1 (wrap64 (x5_1 + 1))) = some r := by rw [if_pos rfl] at H; exact H
      clear H
      have H := H1
      clear H1
      have H' := Aside0.mk H
      clear H
      try go_wp2
      replace HB := am (below_drew1 HB.out)
      have p154 : 0 ≤ (x5_1 : Int) := of_decide_eq_true Q2
      have q154 : x5_1 < (l0.length : Int) := of_decide_eq_true Q2
      obtain ⟨ad154, e154, hx154_0, hx154_1, hx154_2, hx154_3, hx154_4⟩ := at_T90 HR0.out x5_1 p154 q154
      have hw154_4 := hx154_4
      have hw154_3 := hx154_3
      have hw154_2 := hx154_2
      have hw154_1 := hx154_1
      have hw154_0 := hx154_0
      cases e154
      replace hx154_0 := (HB.out.cell (World.block_lt_of_cell? w _ hx154_0)).trans hx154_0
      replace hx154_1 := (HB.out.cell (World.block_lt_of_cell? w _ hx154_1)).trans hx154_1
      replace hx154_2 := (HB.out.cell (World.block_lt_of_cell? w _ hx154_2)).trans hx154_2
      replace hx154_3 := (HB.out.cell (World.block_lt_of_cell? w _ hx154_3)).trans hx154_3
      replace hx154_4 := (HB.out.cell (World.block_lt_of_cell? w _ hx154_4)).trans hx154_4
      replace p154 := eq_true p154
      replace q154 := eq_true q154
      have p155 : 0 ≤ (x5_1 : Int) := of_decide_eq_true Q2
      have q155 : x5_1 < (l1.length : Int) := of_decide_eq_true Q2
      obtain ⟨ad155, e155, hx155_0, hx155_1, hx155_2, hx155_3, hx155_4⟩ := at_T90 HR1.out x5_1 p155 q155
      have hw155_4 := hx155_4
      have hw155_3 := hx155_3
      have hw155_2 := hx155_2
      have hw155_1 := hx155_1
      have hw155_0 := hx155_0
      cases e155
      replace hx155_0 := (HB.out.cell (World.block_lt_of_cell? w _ hx155_0)).trans hx155_0
      replace hx155_1 := (HB.out.cell (World.block_lt_of_cell? w _ hx155_1)).trans hx155_1
      replace hx155_2 := (HB.out.cell (World.block_lt_of_cell? w _ hx155_2)).trans hx155_2
      replace hx155_3 := (HB.out.cell (World.block_lt_of_cell? w _ hx155_3)).trans hx155_3
      replace hx155_4 := (HB.out.cell (World.block_lt_of_cell? w _ hx155_4)).trans hx155_4
      replace p155 := eq_true p155
      replace q155 := eq_true q155
      refine start_ (n := 10) (S := fun w' => w'.cell? (ad154.add ((x5_1).toNat * 5)) = some (.int .i64 ((rd_T90 l0 x5_1).f0)) ∧ w'.cell? ⟨(ad154.add ((x5_1).toNat * 5)).block, (ad154.add ((x5_1).toNat * 5)).off + 1, none⟩ = some (.int .i64 ((rd_T90 l0 x5_1).f1)) ∧ w'.cell? ⟨(ad154.add ((x5_1).toNat * 5)).block, (ad154.add ((x5_1).toNat * 5)).off + 2, none⟩ = some (.int .i64 ((rd_T90 l0 x5_1).f2.f0)) ∧ w'.cell? ⟨(ad154.add ((x5_1).toNat * 5)).block, (ad154.add ((x5_1).toNat * 5)).off + 3, none⟩ = some (.int .i64 ((rd_T90 l0 x5_1).f2.f1)) ∧ w'.cell? ⟨(ad154.add ((x5_1).toNat * 5)).block, (ad154.add ((x5_1).toNat * 5)).off + 4, none⟩ = some (.int .i64 ((rd_T90 l0 x5_1).f3)) ∧ w'.cell? (ad155.add ((x5_1).toNat * 5)) = some (.int .i64 ((rd_T90 l1 x5_1).f0)) ∧ w'.cell? ⟨(ad155.add ((x5_1).toNat * 5)).block, (ad155.add ((x5_1).toNat * 5)).off + 1, none⟩ = some (.int .i64 ((rd_T90 l1 x5_1).f1)) ∧ w'.cell? ⟨(ad155.add ((x5_1).toNat * 5)).block, (ad155.add ((x5_1).toNat * 5)).off + 2, none⟩ = some (.int .i64 ((rd_T90 l1 x5_1).f2.f0)) ∧ w'.cell? ⟨(ad155.add ((x5_1).toNat * 5)).block, (ad155.add ((x5_1).toNat * 5)).off + 3, none⟩ = some (.int .i64 ((rd_T90 l1 x5_1).f2.f1)) ∧ w'.cell? ⟨(ad155.add ((x5_1).toNat * 5)).block, (ad155.add ((x5_1).toNat * 5)).off + 4, none⟩ = some (.int .i64 ((rd_T90 l1 x5_1).f3))) (ds := []) b10_0 Q0 rfl rfl ⟨((HB.out.cell (World.block_lt_of_cell? w _ hw154_0)).trans hw154_0), ((HB.out.cell (World.block_lt_of_cell? w _ hw154_1)).trans hw154_1), ((HB.out.cell (World.block_lt_of_cell? w _ hw154_2)).trans hw154_2), ((HB.out.cell (World.block_lt_of_cell? w _ hw154_3)).trans hw154_3), ((HB.out.cell (World.block_lt_of_cell? w _ hw154_4)).trans hw154_4), ((HB.out.cell (World.block_lt_of_cell? w _ hw155_0)).trans hw155_0), ((HB.out.cell (World.block_lt_of_cell? w _ hw155_1)).trans hw155_1), ((HB.out.cell (World.block_lt_of_cell? w _ hw155_2)).trans hw155_2), ((HB.out.cell (World.block_lt_of_cell? w _ hw155_3)).trans hw155_3), ((HB.out.cell (World.block_lt_of_cell? w _ hw155_4)).trans hw155_4)⟩ (fun hHeld => ?_); refine with_tabW laws_eqRowS.tab6 laws_eqRowS.bits6 (fun HT_ HW_ => ?_)
      generalize wr.drew = w9 at HB hx154_0 hx154_1 hx154_2 hx154_3 hx154_4 hx155_0 hx155_1 hx155_2 hx155_3 hx155_4 hHeld ⊢
      refine pU_ 0 17 b10_1 ?_
      refine pU_ 1 18 b10_2 ?_
      refine pU_ 2 19 b10_3 ?_
      refine pU_ 4 21 c4 ?_
      refine pU_ 5 22 c5 ?_
      refine pU_ 6 23 c6 ?_
      refine tU_ 3 20 b10_7 hHeld ?_
      refine tU_ 7 24 b10_8 hHeld ?_
      refine one_ (i := 8) (N := some 25) b10_9 rfl rfl (one_of HT_.out Q0) (by decide) (fun K hK => ?_)
      refine goes_ Try.func89 Q0 rfl #[.agg #[.int .i64 ((rd_T90 l0 x5_1).f0), .int .i64 ((rd_T90 l0 x5_1).f1), .int .i64 ((rd_T90 l0 x5_1).f2.f0), .int .i64 ((rd_T90 l0 x5_1).f2.f1), .int .i64 ((rd_T90 l0 x5_1).f3)], .agg #[.int .i64 ((rd_T90 l1 x5_1).f0), .int .i64 ((rd_T90 l1 x5_1).f1), .int .i64 ((rd_T90 l1 x5_1).f2.f0), .int .i64 ((rd_T90 l1 x5_1).f2.f1), .int .i64 ((rd_T90 l1 x5_1).f3)]] (by rfl) rfl rfl Q25 ?_
      with_reducible refine (laws_eqRow.calls ((rd_T90 l0 x5_1).f0) ((rd_T90 l0 x5_1).f1) ((rd_T90 l0 x5_1).f2.f0) ((rd_T90 l0 x5_1).f2.f1) ((rd_T90 l0 x5_1).f3) ((rd_T90 l1 x5_1).f0) ((rd_T90 l1 x5_1).f1) ((rd_T90 l1 x5_1).f2.f0) ((rd_T90 l1 x5_1).f2.f1) ((rd_T90 l1 x5_1).f3) true _ A7.out).mono ?_
      rintro e w10 ⟨rfl, hb⟩
      refine ⟨_, rfl, ?_⟩
      replace HB := am (below_step Q24 hb)
      (try clear hb)
      (try clear hb2)
      (try clear hk)
      (try clear hi)
      refine hK.out _ _ ⟨((HB.out.cell (World.block_lt_of_cell? w _ hw154_0)).trans hw154_0), ((HB.out.cell (World.block_lt_of_cell? w _ hw154_1)).trans hw154_1), ((HB.out.cell (World.block_lt_of_cell? w _ hw154_2)).trans hw154_2), ((HB.out.cell (World.block_lt_of_cell? w _ hw154_3)).trans hw154_3), ((HB.out.cell (World.block_lt_of_cell? w _ hw154_4)).trans hw154_4), ((HB.out.cell (World.block_lt_of_cell? w _ hw155_0)).trans hw155_0), ((HB.out.cell (World.block_lt_of_cell? w _ hw155_1)).trans hw155_1), ((HB.out.cell (World.block_lt_of_cell? w _ hw155_2)).trans hw155_2), ((HB.out.cell (World.block_lt_of_cell? w _ hw155_3)).trans hw155_3), ((HB.out.cell (World.block_lt_of_cell? w _ hw155_4)).trans hw155_4)⟩ (fun hHeld => ?_)
      clear hK K
      refine norm_ (a' := ?_) ?_ ?_
      rotate_left
      ·show Act.put _ (some 25) _ = _
       simp only [Act.put, List.setIfInBounds_toArray, List.set_cons_zero, List.set_cons_succ, i64_w, i32_w]
       rfl
      refine pU_ 9 26 b10_10 ?_
      refine done_ (done_of HT_.out Q0) ?_
      try go_wp2
      go_roundg k1
      case measure => have := HK1.out; omega
      case rel => exact ⟨(wrap64 (x5_1 + 1)), Q1, H', ⟨by have := HK1.out; omega⟩, ⟨Q24⟩⟩
     ·replace c8 := Bool.eq_false_iff.mpr c8
      subst c8
      have H1 : (some false) = some r := by rw [if_neg (show ¬ (false = true) by decide)] at H; exact H
      clear H
      have H := H1
      clear H1
      obtain rfl := Option.some.inj H
      try go_wp2
      replace HB := am (below_drew1 HB.out)
      have p154 : 0 ≤ (x5_1 : Int) := of_decide_eq_true Q2
      have q154 : x5_1 < (l0.length : Int) := of_decide_eq_true Q2
      obtain ⟨ad154, e154, hx154_0, hx154_1, hx154_2, hx154_3, hx154_4⟩ := at_T90 HR0.out x5_1 p154 q154
      have hw154_4 := hx154_4
      have hw154_3 := hx154_3
      have hw154_2 := hx154_2
      have hw154_1 := hx154_1
      have hw154_0 := hx154_0
      cases e154
      replace hx154_0 := (HB.out.cell (World.block_lt_of_cell? w _ hx154_0)).trans hx154_0
      replace hx154_1 := (HB.out.cell (World.block_lt_of_cell? w _ hx154_1)).trans hx154_1
      replace hx154_2 := (HB.out.cell (World.block_lt_of_cell? w _ hx154_2)).trans hx154_2
      replace hx154_3 := (HB.out.cell (World.block_lt_of_cell? w _ hx154_3)).trans hx154_3
      replace hx154_4 := (HB.out.cell (World.block_lt_of_cell? w _ hx154_4)).trans hx154_4
      replace p154 := eq_true p154
      replace q154 := eq_true q154
      have p155 : 0 ≤ (x5_1 : Int) := of_decide_eq_true Q2
      have q155 : x5_1 < (l1.length : Int) := of_decide_eq_true Q2
      obtain ⟨ad155, e155, hx155_0, hx155_1, hx155_2, hx155_3, hx155_4⟩ := at_T90 HR1.out x5_1 p155 q155
      have hw155_4 := hx155_4
      have hw155_3 := hx155_3
      have hw155_2 := hx155_2
      have hw155_1 := hx155_1
      have hw155_0 := hx155_0
      cases e155
      replace hx155_0 := (HB.out.cell (World.block_lt_of_cell? w _ hx155_0)).trans hx155_0
      replace hx155_1 := (HB.out.cell (World.block_lt_of_cell? w _ hx155_1)).trans hx155_1
      replace hx155_2 := (HB.out.cell (World.block_lt_of_cell? w _ hx155_2)).trans hx155_2
      replace hx155_3 := (HB.out.cell (World.block_lt_of_cell? w _ hx155_3)).trans hx155_3
      replace hx155_4 := (HB.out.cell (World.block_lt_of_cell? w _ hx155_4)).trans hx155_4
      replace p155 := eq_true p155
      replace q155 := eq_true q155
      refine start_ (n := 10) (S := fun w' => w'.cell? (ad154.add ((x5_1).toNat * 5)) = some (.int .i64 ((rd_T90 l0 x5_1).f0)) ∧ w'.cell? ⟨(ad154.add ((x5_1).toNat * 5)).block, (ad154.add ((x5_1).toNat * 5)).off + 1, none⟩ = some (.int .i64 ((rd_T90 l0 x5_1).f1)) ∧ w'.cell? ⟨(ad154.add ((x5_1).toNat * 5)).block, (ad154.add ((x5_1).toNat * 5)).off + 2, none⟩ = some (.int .i64 ((rd_T90 l0 x5_1).f2.f0)) ∧ w'.cell? ⟨(ad154.add ((x5_1).toNat * 5)).block, (ad154.add ((x5_1).toNat * 5)).off + 3, none⟩ = some (.int .i64 ((rd_T90 l0 x5_1).f2.f1)) ∧ w'.cell? ⟨(ad154.add ((x5_1).toNat * 5)).block, (ad154.add ((x5_1).toNat * 5)).off + 4, none⟩ = some (.int .i64 ((rd_T90 l0 x5_1).f3)) ∧ w'.cell? (ad155.add ((x5_1).toNat * 5)) = some (.int .i64 ((rd_T90 l1 x5_1).f0)) ∧ w'.cell? ⟨(ad155.add ((x5_1).toNat * 5)).block, (ad155.add ((x5_1).toNat * 5)).off + 1, none⟩ = some (.int .i64 ((rd_T90 l1 x5_1).f1)) ∧ w'.cell? ⟨(ad155.add ((x5_1).toNat * 5)).block, (ad155.add ((x5_1).toNat * 5)).off + 2, none⟩ = some (.int .i64 ((rd_T90 l1 x5_1).f2.f0)) ∧ w'.cell? ⟨(ad155.add ((x5_1).toNat * 5)).block, (ad155.add ((x5_1).toNat * 5)).off + 3, none⟩ = some (.int .i64 ((rd_T90 l1 x5_1).f2.f1)) ∧ w'.cell? ⟨(ad155.add ((x5_1).toNat * 5)).block, (ad155.add ((x5_1).toNat * 5)).off + 4, none⟩ = some (.int .i64 ((rd_T90 l1 x5_1).f3))) (ds := []) b10_0 Q0 rfl rfl ⟨((HB.out.cell (World.block_lt_of_cell? w _ hw154_0)).trans hw154_0), ((HB.out.cell (World.block_lt_of_cell? w _ hw154_1)).trans hw154_1), ((HB.out.cell (World.block_lt_of_cell? w _ hw154_2)).trans hw154_2), ((HB.out.cell (World.block_lt_of_cell? w _ hw154_3)).trans hw154_3), ((HB.out.cell (World.block_lt_of_cell? w _ hw154_4)).trans hw154_4), ((HB.out.cell (World.block_lt_of_cell? w _ hw155_0)).trans hw155_0), ((HB.out.cell (World.block_lt_of_cell? w _ hw155_1)).trans hw155_1), ((HB.out.cell (World.block_lt_of_cell? w _ hw155_2)).trans hw155_2), ((HB.out.cell (World.block_lt_of_cell? w _ hw155_3)).trans hw155_3), ((HB.out.cell (World.block_lt_of_cell? w _ hw155_4)).trans hw155_4)⟩ (fun hHeld => ?_); refine with_tabW laws_eqRowS.tab6 laws_eqRowS.bits6 (fun HT_ HW_ => ?_)
      generalize wr.drew = w11 at HB hx154_0 hx154_1 hx154_2 hx154_3 hx154_4 hx155_0 hx155_1 hx155_2 hx155_3 hx155_4 hHeld ⊢
      refine pU_ 0 17 b10_1 ?_
      refine pU_ 1 18 b10_2 ?_
      refine pU_ 2 19 b10_3 ?_
      refine pU_ 4 21 c4 ?_
      refine pU_ 5 22 c5 ?_
      refine pU_ 6 23 c6 ?_
      refine tU_ 3 20 b10_7 hHeld ?_
      refine tU_ 7 24 b10_8 hHeld ?_
      refine one_ (i := 8) (N := some 25) b10_9 rfl rfl (one_of HT_.out Q0) (by decide) (fun K hK => ?_)
      refine goes_ Try.func89 Q0 rfl #[.agg #[.int .i64 ((rd_T90 l0 x5_1).f0), .int .i64 ((rd_T90 l0 x5_1).f1), .int .i64 ((rd_T90 l0 x5_1).f2.f0), .int .i64 ((rd_T90 l0 x5_1).f2.f1), .int .i64 ((rd_T90 l0 x5_1).f3)], .agg #[.int .i64 ((rd_T90 l1 x5_1).f0), .int .i64 ((rd_T90 l1 x5_1).f1), .int .i64 ((rd_T90 l1 x5_1).f2.f0), .int .i64 ((rd_T90 l1 x5_1).f2.f1), .int .i64 ((rd_T90 l1 x5_1).f3)]] (by rfl) rfl rfl Q25 ?_
      with_reducible refine (laws_eqRow.calls ((rd_T90 l0 x5_1).f0) ((rd_T90 l0 x5_1).f1) ((rd_T90 l0 x5_1).f2.f0) ((rd_T90 l0 x5_1).f2.f1) ((rd_T90 l0 x5_1).f3) ((rd_T90 l1 x5_1).f0) ((rd_T90 l1 x5_1).f1) ((rd_T90 l1 x5_1).f2.f0) ((rd_T90 l1 x5_1).f2.f1) ((rd_T90 l1 x5_1).f3) false _ A7.out).mono ?_
      rintro e w12 ⟨rfl, hb⟩
      refine ⟨_, rfl, ?_⟩
      replace HB := am (below_step Q24 hb)
      (try clear hb)
      (try clear hb2)
      (try clear hk)
      (try clear hi)
      refine hK.out _ _ ⟨((HB.out.cell (World.block_lt_of_cell? w _ hw154_0)).trans hw154_0), ((HB.out.cell (World.block_lt_of_cell? w _ hw154_1)).trans hw154_1), ((HB.out.cell (World.block_lt_of_cell? w _ hw154_2)).trans hw154_2), ((HB.out.cell (World.block_lt_of_cell? w _ hw154_3)).trans hw154_3), ((HB.out.cell (World.block_lt_of_cell? w _ hw154_4)).trans hw154_4), ((HB.out.cell (World.block_lt_of_cell? w _ hw155_0)).trans hw155_0), ((HB.out.cell (World.block_lt_of_cell? w _ hw155_1)).trans hw155_1), ((HB.out.cell (World.block_lt_of_cell? w _ hw155_2)).trans hw155_2), ((HB.out.cell (World.block_lt_of_cell? w _ hw155_3)).trans hw155_3), ((HB.out.cell (World.block_lt_of_cell? w _ hw155_4)).trans hw155_4)⟩ (fun hHeld => ?_)
      clear hK K
      refine norm_ (a' := ?_) ?_ ?_
      rotate_left
      ·show Act.put _ (some 25) _ = _
       simp only [Act.put, List.setIfInBounds_toArray, List.set_cons_zero, List.set_cons_succ, i64_w, i32_w]
       rfl
      refine pU_ 9 26 b10_10 ?_
      refine done_ (done_of HT_.out Q0) ?_
      try go_wp2
      go_ret
      exact ⟨Q6, Q24⟩
    ·rw [if_neg c4] at H
     have c4b0 : decide (x5_1 < (l0.length : Int)) = false := decide_eq_false c4
     clear c4
     obtain rfl := Option.some.inj H
     go_wp2
     go_ret
     exact ⟨Q6, Q24⟩
 ·rw [if_neg c3] at H
  have c3b0 : ((l0.length : Int) == (l1.length : Int)) = false := beq_eq_false_iff_ne.mpr c3
  have c3b1 : ((l0.length : Int) != (l1.length : Int)) = true := bne_iff_ne.mpr c3
  have c3b2 : (l0.length == l1.length) = false := by first | simpa using c3 | (simp at c3 ⊢; omega)
  obtain rfl := Option.some.inj H
  go_enter Try.func53, Try.ntmps53
  go_wp2
  go_ret
  exact ⟨Q6, Q24⟩
def laws_FnExactBatchTimes.j0 : Nat → List (S93) → List (S36) → List (S36) → Bool → Option (Bool)
 | 0, _, _, _, _ => none
 | k + 1, x0, x4, x6, x42 => if x42 = true then (some false) else ((laws_markTimeS.f k x6 1).bind fun bt178 => ((laws_heldTimeS.f k bt178.2 1).bind fun t180 => (if t180 < 0 then (some false) else (if t180 = bt178.1 then ((laws_toRowS.f k x0).bind fun t181 => ((impl_BatchTimes.f k t181).bind fun t184 => ((laws_eqTimeS.f k t184 x4).bind fun t187 => (if t187 = true then ((laws_heldTimeS.f k bt178.2 1).bind fun t188 => (if t188 < 0 then (some false) else (if t188 = bt178.1 then (some true) else (some false)))) else (some false))))) else (some false)))))
def laws_FnExactBatchTimes.f (k : Nat) (l0 : List (S93)) : Option (Bool) := (laws_szRowS.f l0 1048576).bind fun t157 => (if t157 < 0 then (some true) else ((laws_toRowS.f k l0).bind fun t158 => ((spec_BatchTimes.f k t158).bind fun t161 => ((laws_toRowS.f k l0).bind fun t164 => ((impl_BatchTimes.f k t164).bind fun t167 => ((laws_eqTimeS.f k t167 t161).bind fun t170 => (if t170 = true then ((laws_toRowS.f k l0).bind fun t171 => ((laws_eqRowS.f k t164 t171).bind fun t174 => (if t174 = true then ((laws_markRowS.f t164 1).bind fun bt175 => (if bt175.1 < 0 then (laws_FnExactBatchTimes.j0 k l0 t161 t167 true) else ((laws_eqTimeS.f k t167 t161).bind fun t177 => (laws_FnExactBatchTimes.j0 k l0 t161 t167 (!t177))))) else (some false)))) else (some false))))))))
set_option maxHeartbeats 8000000 in
set_option maxRecDepth 100000 in
theorem laws_FnExactBatchTimes.calls (k : Nat) (A0 : Option Addr) (c0 : Nat) (l0 : List (S93)) (r : Bool) (w : World) (hr0 : Kd.C k93 w A0 l0.length l0) (hc0 : l0.length ≤ c0) (h : laws_FnExactBatchTimes.f k l0 = some r) (hr_ : r = true) :
  Calls Try.prog 13 #[.slice A0 l0.length c0] w fun e w' => e = .returned (.bool r) ∧ Below w.heap.size w w' := by
 have HR0 := Aside0.mk hr0
 have HC0 := Aside0.mk hc0
 clear hr0 hc0
 have HB := am (Below.refl w.heap.size w)
 have hq_ := Aside0.mk hr_
 clear hr_
 have H : ((laws_szRowS.f l0 1048576).bind fun t157 => (if t157 < 0 then (some true) else ((laws_toRowS.f k l0).bind fun t158 => ((spec_BatchTimes.f k t158).bind fun t161 => ((laws_toRowS.f k l0).bind fun t164 => ((impl_BatchTimes.f k t164).bind fun t167 => ((laws_eqTimeS.f k t167 t161).bind fun t170 => (if t170 = true then ((laws_toRowS.f k l0).bind fun t171 => ((laws_eqRowS.f k t164 t171).bind fun t174 => (if t174 = true then ((laws_markRowS.f t164 1).bind fun bt175 => (if bt175.1 < 0 then (laws_FnExactBatchTimes.j0 k l0 t161 t167 true) else ((laws_eqTimeS.f k t167 t161).bind fun t177 => (laws_FnExactBatchTimes.j0 k l0 t161 t167 (!t177))))) else (some false)))) else (some false))))))))) = some r := h
 clear h
 replace H := Option.bind_eq_some_iff.mp H
 obtain ⟨t157, A20, H⟩ := H
 replace H : (if t157 < 0 then (some true) else ((laws_toRowS.f k l0).bind fun t158 => ((spec_BatchTimes.f k t158).bind fun t161 => ((laws_toRowS.f k l0).bind fun t164 => ((impl_BatchTimes.f k t164).bind fun t167 => ((laws_eqTimeS.f k t167 t161).bind fun t170 => (if t170 = true then ((laws_toRowS.f k l0).bind fun t171 => ((laws_eqRowS.f k t164 t171).bind fun t174 => (if t174 = true then ((laws_markRowS.f t164 1).bind fun bt175 => (if bt175.1 < 0 then (laws_FnExactBatchTimes.j0 k l0 t161 t167 true) else ((laws_eqTimeS.f k t167 t161).bind fun t177 => (laws_FnExactBatchTimes.j0 k l0 t161 t167 (!t177))))) else (some false)))) else (some false)))))))) = some r := H
 have A2 := Aside0.mk A20
 clear A20
 by_cases c3 : t157 < 0
 ·rw [if_pos c3] at H
  have c3b0 : decide (t157 < 0) = true := decide_eq_true c3
  clear c3
  obtain rfl := Option.some.inj H
  go_enter Try.func13, Try.ntmps13
  go_wp2_with (first | ((with_reducible refine gate_callee (f := 49) rfl ?_); refine goesL_ (some 13) rfl rfl Try.func49 Q0 rfl #[.slice A0 l0.length c0, .int .i64 1048576] rfl Q25 ?_; (with_reducible refine (laws_szRowS.calls _ _ l0 1048576 t157 _ ?side1 ?side2 A2.out).mono ?_); (case side1 => exact Q26); (case side2 => exact HC0.out); rintro e w' ⟨rfl, ⟨nd, rfl⟩⟩; refine ⟨_, rfl, ?_⟩))
  go_ret
  exact ⟨by first | rfl | (rw [hq_.out]; done) | (simp [errW_none, errW_some] <;> rfl) | (simp [*, errW_none, errW_some] <;> rfl), Q24⟩
 ·rw [if_neg c3] at H
  have c3b0 : decide (t157 < 0) = false := decide_eq_false c3
  clear c3
  replace H := Option.bind_eq_some_iff.mp H
  obtain ⟨t158, A40, H⟩ := H
  replace H : ((spec_BatchTimes.f k t158).bind fun t161 => ((laws_toRowS.f k l0).bind fun t164 => ((impl_BatchTimes.f k t164).bind fun t167 => ((laws_eqTimeS.f k t167 t161).bind fun t170 => (if t170 = true then ((laws_toRowS.f k l0).bind fun t171 => ((laws_eqRowS.f k t164 t171).bind fun t174 => (if t174 = true then ((laws_markRowS.f t164 1).bind fun bt175 => (if bt175.1 < 0 then (laws_FnExactBatchTimes.j0 k l0 t161 t167 true) else ((laws_eqTimeS.f k t167 t161).bind fun t177 => (laws_FnExactBatchTimes.j0 k l0 t161 t167 (!t177))))) else (some false)))) else (some false)))))) = some r := H
  have A4 := Aside0.mk A40
  clear A40
  replace H := Option.bind_eq_some_iff.mp H
  obtain ⟨t161, A50, H⟩ := H
  replace H : ((laws_toRowS.f k l0).bind fun t164 => ((impl_BatchTimes.f k t164).bind fun t167 => ((laws_eqTimeS.f k t167 t161).bind fun t170 => (if t170 = true then ((laws_toRowS.f k l0).bind fun t171 => ((laws_eqRowS.f k t164 t171).bind fun t174 => (if t174 = true then ((laws_markRowS.f t164 1).bind fun bt175 => (if bt175.1 < 0 then (laws_FnExactBatchTimes.j0 k l0 t161 t167 true) else ((laws_eqTimeS.f k t167 t161).bind fun t177 => (laws_FnExactBatchTimes.j0 k l0 t161 t167 (!t177))))) else (some false)))) else (some false))))) = some r := H
  have A5 := Aside0.mk A50
  clear A50
  replace H := Option.bind_eq_some_iff.mp H
  obtain ⟨t164, A60, H⟩ := H
  replace H : ((impl_BatchTimes.f k t164).bind fun t167 => ((laws_eqTimeS.f k t167 t161).bind fun t170 => (if t170 = true then ((laws_toRowS.f k l0).bind fun t171 => ((laws_eqRowS.f k t164 t171).bind fun t174 => (if t174 = true then ((laws_markRowS.f t164 1).bind fun bt175 => (if bt175.1 < 0 then (laws_FnExactBatchTimes.j0 k l0 t161 t167 true) else ((laws_eqTimeS.f k t167 t161).bind fun t177 => (laws_FnExactBatchTimes.j0 k l0 t161 t167 (!t177))))) else (some false)))) else (some false)))) = some r := H
  have A6 := Aside0.mk A60
  clear A60
  replace H := Option.bind_eq_some_iff.mp H
  obtain ⟨t167, A70, H⟩ := H
  replace H : ((laws_eqTimeS.f k t167 t161).bind fun t170 => (if t170 = true then ((laws_toRowS.f k l0).bind fun t171 => ((laws_eqRowS.f k t164 t171).bind fun t174 => (if t174 = true then ((laws_markRowS.f t164 1).bind fun bt175 => (if bt175.1 < 0 then (laws_FnExactBatchTimes.j0 k l0 t161 t167 true) else ((laws_eqTimeS.f k t167 t161).bind fun t177 => (laws_FnExactBatchTimes.j0 k l0 t161 t167 (!t177))))) else (some false)))) else (some false))) = some r := H
  have A7 := Aside0.mk A70
  clear A70
  replace H := Option.bind_eq_some_iff.mp H
  obtain ⟨t170, A80, H⟩ := H
  replace H : (if t170 = true then ((laws_toRowS.f k l0).bind fun t171 => ((laws_eqRowS.f k t164 t171).bind fun t174 => (if t174 = true then ((laws_markRowS.f t164 1).bind fun bt175 => (if bt175.1 < 0 then (laws_FnExactBatchTimes.j0 k l0 t161 t167 true) else ((laws_eqTimeS.f k t167 t161).bind fun t177 => (laws_FnExactBatchTimes.j0 k l0 t161 t167 (!t177))))) else (some false)))) else (some false)) = some r := H
  have A8 := Aside0.mk A80
  clear A80
  by_cases c9 : t170 = true
  ·subst c9
   have H1 : ((laws_toRowS.f k l0).bind fun t171 => ((laws_eqRowS.f k t164 t171).bind fun t174 => (if t174 = true then ((laws_markRowS.f t164 1).bind fun bt175 => (if bt175.1 < 0 then (laws_FnExactBatchTimes.j0 k l0 t161 t167 true) else ((laws_eqTimeS.f k t167 t161).bind fun t177 => (laws_FnExactBatchTimes.j0 k l0 t161 t167 (!t177))))) else (some false)))) = some r := by rw [if_pos rfl] at H; exact H
   clear H
   have H := H1
   clear H1
   replace H := Option.bind_eq_some_iff.mp H
   obtain ⟨t171, A100, H⟩ := H
   replace H : ((laws_eqRowS.f k t164 t171).bind fun t174 => (if t174 = true then ((laws_markRowS.f t164 1).bind fun bt175 => (if bt175.1 < 0 then (laws_FnExactBatchTimes.j0 k l0 t161 t167 true) else ((laws_eqTimeS.f k t167 t161).bind fun t177 => (laws_FnExactBatchTimes.j0 k l0 t161 t167 (!t177))))) else (some false))) = some r := H
   have A10 := Aside0.mk A100
   clear A100
   replace H := Option.bind_eq_some_iff.mp H
   obtain ⟨t174, A110, H⟩ := H
   replace H : (if t174 = true then ((laws_markRowS.f t164 1).bind fun bt175 => (if bt175.1 < 0 then (laws_FnExactBatchTimes.j0 k l0 t161 t167 true) else ((laws_eqTimeS.f k t167 t161).bind fun t177 => (laws_FnExactBatchTimes.j0 k l0 t161 t167 (!t177))))) else (some false)) = some r := H
   have A11 := Aside0.mk A110
   clear A110
   by_cases c12 : t174 = true
   ·subst c12
    have H1 : ((laws_markRowS.f t164 1).bind fun bt175 => (if bt175.1 < 0 then (laws_FnExactBatchTimes.j0 k l0 t161 t167 true) else ((laws_eqTimeS.f k t167 t161).bind fun t177 => (laws_FnExactBatchTimes.j0 k l0 t161 t167 (!t177))))) = some r := by rw [if_pos rfl] at H; exact H
    clear H
    have H := H1
    clear H1
    replace H := Option.bind_eq_some_iff.mp H
    obtain ⟨⟨t175, t176⟩, A130, H⟩ := H
    replace H : (if t175 < 0 then (laws_FnExactBatchTimes.j0 k l0 t161 t167 true) else ((laws_eqTimeS.f k t167 t161).bind fun t177 => (laws_FnExactBatchTimes.j0 k l0 t161 t167 (!t177)))) = some r := H
    have A13 := Aside0.mk A130
    clear A130
    have HC14 := Aside0.mk H
    clear H
    go_enter Try.func13, Try.ntmps13
    go_upto_region 14 with (first | ((with_reducible refine gate_callee (f := 49) rfl ?_); refine goesL_ (some 13) rfl rfl Try.func49 Q0 rfl #[.slice A0 l0.length c0, .int .i64 1048576] rfl Q25 ?_; (with_reducible refine (laws_szRowS.calls _ _ l0 1048576 t157 _ ?side1 ?side2 A2.out).mono ?_); (case side1 => exact Q26); (case side2 => exact HC0.out); rintro e w' ⟨rfl, ⟨nd, rfl⟩⟩; refine ⟨_, rfl, ?_⟩) | ((with_reducible refine gate_callee (f := 51) rfl ?_); refine goesL_ (some 17) rfl rfl Try.func51 Q0 rfl #[.slice A0 l0.length c0] rfl Q25 ?_; (with_reducible refine (laws_toRowS.calls k _ _ l0 t158 _ ?side1 ?side2 A4.out).mono ?_); (case side1 => exact Q26); (case side2 => exact HC0.out); rintro e w15 ⟨v159, rfl, ho0, hb⟩; refine ⟨_, rfl, ?_⟩; have HO160 := am (Kd.R_lower ho0 (below_size Q24)); replace HB := am (below_step Q24 hb); (try clear hb ho0); obtain ⟨Ao16, co16, eo16⟩ := Kd.R_slice HO160.out; subst eo16) | ((with_reducible refine gate_callee (f := 50) rfl ?_); refine goesL_ (some 18) rfl rfl Try.func50 Q0 rfl #[.slice Ao16 t158.length co16] rfl Q25 ?_; (with_reducible refine (spec_BatchTimes.calls k _ _ t158 t161 _ ?side1 ?side2 A5.out).mono ?_); (case side1 => exact (by repeat (first | exact (Kd.R_reads' HO160.out).2.2 | (with_reducible refine Kd.C_alloc ?_ _) | (with_reducible refine Kd.C_drewN ?_ _) | (with_reducible refine Kd.C_drew ?_)))); (case side2 => exact (Kd.R_reads' HO160.out).2.1); rintro e w17 ⟨v162, rfl, ho0, hb⟩; refine ⟨_, rfl, ?_⟩; replace HO160 := am (Kd.R_below Q11 hb); have HO163 := am (Kd.R_lower ho0 (below_size Q24)); replace HB := am (below_step Q24 hb); (try clear hb ho0)) | ((with_reducible refine gate_callee (f := 51) rfl ?_); refine goesL_ (some 20) rfl rfl Try.func51 Q0 rfl #[.slice A0 l0.length c0] rfl Q25 ?_; (with_reducible refine (laws_toRowS.calls k _ _ l0 t164 _ ?side1 ?side2 A6.out).mono ?_); (case side1 => exact Q33); (case side2 => exact HC0.out); rintro e w18 ⟨v165, rfl, ho0, hb⟩; refine ⟨_, rfl, ?_⟩; replace HO163 := am (Kd.R_below Q12 hb); have HO166 := am (Kd.R_lower (Kd.R_new' ho0 (Kd.R_lt Q11)) (below_size Q24)); replace HO160 := am (Kd.R_elder' Q11 (Kd.R_base ho0) hb); replace HB := am (below_step Q24 hb); (try clear hb ho0); obtain ⟨Ao19, co19, eo19⟩ := Kd.R_slice HO166.out; subst eo19) | ((with_reducible refine gate_callee (f := 52) rfl ?_); refine goesL_ (some 22) rfl rfl Try.func52 Q0 rfl #[.slice Ao19 t164.length co19] rfl Q25 ?_; (with_reducible refine (impl_BatchTimes.calls k _ _ t164 t167 _ ?side1 ?side2 A7.out).mono ?_); (case side1 => exact (by repeat (first | exact (Kd.R_reads' HO166.out).2.2 | (with_reducible refine Kd.C_alloc ?_ _) | (with_reducible refine Kd.C_drewN ?_ _) | (with_reducible refine Kd.C_drew ?_)))); (case side2 => exact (Kd.R_reads' HO166.out).2.1); rintro e w20 ⟨v168, rfl, ho0, hb⟩; refine ⟨_, rfl, ?_⟩; replace HO160 := am (Kd.R_below Q11 hb); replace HO166 := am (Kd.R_below Q13 hb); have HO169 := am (Kd.R_lower (Kd.R_new' ho0 (Kd.R_lt Q12)) (below_size Q24)); replace HO163 := am (Kd.R_elder' Q12 (Kd.R_base ho0) hb); replace HB := am (below_step Q24 hb); (try clear hb ho0); obtain ⟨Ao21, co21, eo21⟩ := Kd.R_slice HO169.out; subst eo21; obtain ⟨Ao22, co22, eo22⟩ := Kd.R_slice HO163.out; subst eo22) | ((with_reducible refine gate_callee (f := 19) rfl ?_); refine goesL_ (some 25) rfl rfl Try.func19 Q0 rfl #[.slice Ao21 t167.length co21, .slice Ao22 t161.length co22] rfl Q25 ?_; (with_reducible refine (laws_eqTimeS.calls k _ _ t167 _ _ t161 true _ ?side1 ?side2 ?side3 ?side4 A8.out).mono ?_); (case side1 => exact (by repeat (first | exact (Kd.R_reads' HO169.out).2.2 | (with_reducible refine Kd.C_alloc ?_ _) | (with_reducible refine Kd.C_drewN ?_ _) | (with_reducible refine Kd.C_drew ?_)))); (case side2 => exact (Kd.R_reads' HO169.out).2.1); (case side3 => exact (by repeat (first | exact (Kd.R_reads' HO163.out).2.2 | (with_reducible refine Kd.C_alloc ?_ _) | (with_reducible refine Kd.C_drewN ?_ _) | (with_reducible refine Kd.C_drew ?_)))); (case side4 => exact (Kd.R_reads' HO163.out).2.1); rintro e w23 ⟨rfl, hb⟩; refine ⟨_, rfl, ?_⟩; replace HO160 := am (Kd.R_below Q11 hb); replace HO163 := am (Kd.R_below Q12 hb); replace HO166 := am (Kd.R_below Q13 hb); replace HO169 := am (Kd.R_below Q14 hb); replace HB := am (below_step Q24 hb); (try clear hb)) | ((with_reducible refine gate_callee (f := 51) rfl ?_); refine goesL_ (some 29) rfl rfl Try.func51 Q0 rfl #[.slice A0 l0.length c0] rfl Q25 ?_; (with_reducible refine (laws_toRowS.calls k _ _ l0 t171 _ ?side1 ?side2 A10.out).mono ?_); (case side1 => exact Q33); (case side2 => exact HC0.out); rintro e w24 ⟨v172, rfl, ho0, hb⟩; refine ⟨_, rfl, ?_⟩; replace HO163 := am (Kd.R_below Q12 hb); replace HO169 := am (Kd.R_below Q14 hb); have HO173 := am (Kd.R_lower (Kd.R_new' (Kd.R_new' ho0 (Kd.R_lt Q11)) (Kd.R_lt Q13)) (below_size Q24)); replace HO160 := am (Kd.R_elder' Q11 (Kd.R_base ho0) hb); replace HO166 := am (Kd.R_elder' Q13 (Kd.R_base ho0) hb); replace HB := am (below_step Q24 hb); (try clear hb ho0); obtain ⟨Ao25, co25, eo25⟩ := Kd.R_slice HO173.out; subst eo25) | ((with_reducible refine gate_callee (f := 53) rfl ?_); refine goesL_ (some 30) rfl rfl Try.func53 Q0 rfl #[.slice Ao19 t164.length co19, .slice Ao25 t171.length co25] rfl Q25 ?_; (with_reducible refine (laws_eqRowS.calls k _ _ t164 _ _ t171 true _ ?side1 ?side2 ?side3 ?side4 A11.out).mono ?_); (case side1 => exact (by repeat (first | exact (Kd.R_reads' HO166.out).2.2 | (with_reducible refine Kd.C_alloc ?_ _) | (with_reducible refine Kd.C_drewN ?_ _) | (with_reducible refine Kd.C_drew ?_)))); (case side2 => exact (Kd.R_reads' HO166.out).2.1); (case side3 => exact (by repeat (first | exact (Kd.R_reads' HO173.out).2.2 | (with_reducible refine Kd.C_alloc ?_ _) | (with_reducible refine Kd.C_drewN ?_ _) | (with_reducible refine Kd.C_drew ?_)))); (case side4 => exact (Kd.R_reads' HO173.out).2.1); rintro e w26 ⟨rfl, hb⟩; refine ⟨_, rfl, ?_⟩; replace HO160 := am (Kd.R_below Q11 hb); replace HO163 := am (Kd.R_below Q12 hb); replace HO166 := am (Kd.R_below Q13 hb); replace HO169 := am (Kd.R_below Q14 hb); replace HO173 := am (Kd.R_below (by (with_reducible repeat (first | apply Kd.R_alloc | apply Kd.R_drewN | apply Kd.R_drew)); exact HO173.out) hb); replace HB := am (below_step Q24 hb); (try clear hb)) | ((with_reducible refine gate_callee (f := 54) rfl ?_); refine goesL_ (some 34) rfl rfl Try.func54 Q0 rfl #[.slice Ao19 t164.length co19, .int .i64 1] rfl Q25 ?_; (with_reducible refine (laws_markRowS.calls (fun k_ => some k_ = (.slice Ao19 t164.length co19 : Value).ownBlock) (.slice Ao19 t164.length co19) t164 1 t175 t176 w _ ?side1 ?side2 A13.out).mono ?_); (case side1 => exact Q24); (case side2 => exact Kd.R_tight rfl HO166.out); rintro e w27 ⟨rfl, hy0, hb, hkp⟩; refine ⟨_, rfl, ?_⟩; replace HO160 := am (Kd.R_mono (ok' := fun k_ => some k_ ≠ (.slice Ao19 t164.length co19 : Value).ownBlock ∧ some k_ ≠ (.slice Ao25 t171.length co25 : Value).ownBlock) (Kd.R_keptB (HO160.out) hkp (fun k_ hk_ hs_ => (hk_.1.2) hs_)) (fun k_ hk_ => ⟨hk_.1.1.2, hk_.1.2⟩)); replace HO163 := am (Kd.R_mono (ok' := fun k_ => some k_ ≠ (.slice Ao21 t167.length co21 : Value).ownBlock) (Kd.R_keptB ((Kd.R_apart' HO163.out (Kd.R_typed HO166.out) (by decide))) hkp (fun k_ hk_ hs_ => (hk_.2) hs_)) (fun k_ hk_ => hk_.1.1.2)); replace HO169 := am (Kd.R_mono (ok' := fun k_ => some k_ ≠ (.slice Ao22 t161.length co22 : Value).ownBlock) (Kd.R_keptB ((Kd.R_apart' HO169.out (Kd.R_typed HO166.out) (by decide))) hkp (fun k_ hk_ hs_ => (hk_.2) hs_)) (fun k_ hk_ => hk_.1.1.2)); replace HO166 := am (Kd.R_reok rfl hy0 (fun k_ e_ => HO166.out.1 k_ e_)); replace HO173 := am (Kd.R_mono (ok' := fun k_ => some k_ ≠ (.slice Ao16 t158.length co16 : Value).ownBlock ∧ some k_ ≠ (.slice Ao19 t164.length co19 : Value).ownBlock) (Kd.R_keptB (HO173.out) hkp (fun k_ hk_ hs_ => (hk_.2) hs_)) (fun k_ hk_ => ⟨hk_.1.1.2, hk_.1.2⟩)); replace HB := am (hb); (try clear hb hkp hy0)))
    (try simp only [Act.put, List.setIfInBounds_toArray, List.set_cons_zero, List.set_cons_succ])
    go_cut [42] (fun v42 wc => ∃ (kq : Nat) (x42_13 : Bool), v42 = .bool x42_13 ∧ Aside0 (laws_FnExactBatchTimes.j0 kq l0 t161 t167 x42_13 = some r) ∧ Aside0 (kq ≤ k) ∧ Aside0 (Kd.R k36 36 wc w.heap.size (fun k_ => some k_ ≠ ((.slice Ao21 t167.length co21) : Value).ownBlock) (.slice Ao22 t161.length co22) t161) ∧ Aside0 (Kd.R k36 36 wc w.heap.size (fun k_ => some k_ ≠ ((.slice Ao22 t161.length co22) : Value).ownBlock) (.slice Ao21 t167.length co21) t167) ∧ Aside0 (Below w.heap.size w wc))
    case first =>
     have H := HC14.out
     clear HC14
     by_cases c28 : t175 < 0
     ·rw [if_pos c28] at H
      have c28b0 : decide (t175 < 0) = true := decide_eq_true c28
      clear c28
      (first | rw [c28b0] | (simp only [i64_w, i32_w]; rw [c28b0]) | skip)
      have H' := Aside0.mk H
      clear H
      go_wp2
      go_meet
      case rel => exact ⟨_, (true), Q1, H', ⟨by first | omega | exact Nat.le_refl _⟩, ⟨Q12⟩, ⟨Q14⟩, ⟨Q24⟩⟩
     ·rw [if_neg c28] at H
      have c28b0 : decide (t175 < 0) = false := decide_eq_false c28
      clear c28
      (first | rw [c28b0] | (simp only [i64_w, i32_w]; rw [c28b0]) | skip)
      replace H := Option.bind_eq_some_iff.mp H
      obtain ⟨t177, A290, H⟩ := H
      replace H : (laws_FnExactBatchTimes.j0 k l0 t161 t167 (!t177)) = some r := H
      have A29 := Aside0.mk A290
      clear A290
      have H' := Aside0.mk H
      clear H
      go_wp2_with (first | (go_at_call 19; (with_reducible refine (laws_eqTimeS.calls k _ _ t167 _ _ t161 t177 _ ?side1 ?side2 ?side3 ?side4 A29.out).mono ?_); (case side1 => exact (by repeat (first | exact (Kd.R_reads' HO169.out).2.2 | (with_reducible refine Kd.C_alloc ?_ _) | (with_reducible refine Kd.C_drewN ?_ _) | (with_reducible refine Kd.C_drew ?_)))); (case side2 => exact (Kd.R_reads' HO169.out).2.1); (case side3 => exact (by repeat (first | exact (Kd.R_reads' HO163.out).2.2 | (with_reducible refine Kd.C_alloc ?_ _) | (with_reducible refine Kd.C_drewN ?_ _) | (with_reducible refine Kd.C_drew ?_)))); (case side4 => exact (Kd.R_reads' HO163.out).2.1); rintro e w30 ⟨rfl, hb⟩; replace HO160 := am (Kd.R_below Q11 hb); replace HO163 := am (Kd.R_below Q12 hb); replace HO166 := am (Kd.R_below Q13 hb); replace HO169 := am (Kd.R_below Q14 hb); replace HO173 := am (Kd.R_below (by (with_reducible repeat (first | apply Kd.R_alloc | apply Kd.R_drewN | apply Kd.R_drew)); exact HO173.out) hb); replace HB := am (below_step Q24 hb); (try clear hb)))
      go_meet
      case rel => exact ⟨_, (!t177), Q1, H', ⟨by first | omega | exact Nat.le_refl _⟩, ⟨Q12⟩, ⟨Q14⟩, ⟨Q24⟩⟩
    case rest =>
     clear HC14
     try clear c1
     try clear c2
     try clear p2
     try clear c3
     try clear c3b0
     try clear c4
     try clear c5
     try clear c9
     try clear c12
     try clear c13
     try clear c19
     try clear c28
     try clear c28b0
     obtain ⟨kq, x42_13, rfl, HA, HJ13, HO_4, HO_6, HB⟩ := hcut
     cases kq with
     | zero => exact absurd HA.out (by simp [laws_FnExactBatchTimes.j0])
     | succ kj13 =>
      have H := HA.out
      clear HA
      simp only [laws_FnExactBatchTimes.j0] at H
      by_cases c31 : x42_13 = true
      ·subst c31
       have H1 : (some false) = some r := by rw [if_pos rfl] at H; exact H
       clear H
       have H := H1
       clear H1
       exact absurd ((Option.some.inj H).trans hq_.out) (by decide)
      ·replace c31 := Bool.eq_false_iff.mpr c31
       subst c31
       have H1 : ((laws_markTimeS.f kj13 t167 1).bind fun bt178 => ((laws_heldTimeS.f kj13 bt178.2 1).bind fun t180 => (if t180 < 0 then (some false) else (if t180 = bt178.1 then ((laws_toRowS.f kj13 l0).bind fun t181 => ((impl_BatchTimes.f kj13 t181).bind fun t184 => ((laws_eqTimeS.f kj13 t184 t161).bind fun t187 => (if t187 = true then ((laws_heldTimeS.f kj13 bt178.2 1).bind fun t188 => (if t188 < 0 then (some false) else (if t188 = bt178.1 then (some true) else (some false)))) else (some false))))) else (some false))))) = some r := by rw [if_neg (show ¬ (false = true) by decide)] at H; exact H
       clear H
       have H := H1
       clear H1
       replace H := Option.bind_eq_some_iff.mp H
       obtain ⟨⟨t178, t179⟩, A320, H⟩ := H
       replace H : ((laws_heldTimeS.f kj13 t179 1).bind fun t180 => (if t180 < 0 then (some false) else (if t180 = t178 then ((laws_toRowS.f kj13 l0).bind fun t181 => ((impl_BatchTimes.f kj13 t181).bind fun t184 => ((laws_eqTimeS.f kj13 t184 t161).bind fun t187 => (if t187 = true then ((laws_heldTimeS.f kj13 t179 1).bind fun t188 => (if t188 < 0 then (some false) else (if t188 = t178 then (some true) else (some false)))) else (some false))))) else (some false)))) = some r := H
       have A32 := Aside0.mk A320
       clear A320
       replace H := Option.bind_eq_some_iff.mp H
       obtain ⟨t180, A330, H⟩ := H
       replace H : (if t180 < 0 then (some false) else (if t180 = t178 then ((laws_toRowS.f kj13 l0).bind fun t181 => ((impl_BatchTimes.f kj13 t181).bind fun t184 => ((laws_eqTimeS.f kj13 t184 t161).bind fun t187 => (if t187 = true then ((laws_heldTimeS.f kj13 t179 1).bind fun t188 => (if t188 < 0 then (some false) else (if t188 = t178 then (some true) else (some false)))) else (some false))))) else (some false))) = some r := H
       have A33 := Aside0.mk A330
       clear A330
       by_cases c34 : t180 < 0
       ·rw [if_pos c34] at H
        have c34b0 : decide (t180 < 0) = true := decide_eq_true c34
        clear c34
        exact absurd ((Option.some.inj H).trans hq_.out) (by decide)
       ·rw [if_neg c34] at H
        have c34b0 : decide (t180 < 0) = false := decide_eq_false c34
        clear c34
        by_cases c35 : t180 = t178
        ·rw [if_pos c35] at H
         have c35b0 : (t180 == t178) = true := beq_iff_eq.mpr c35
         have c35b1 : (t180 != t178) = false := bne_eq_false_iff_eq.mpr c35
         clear c35
         replace H := Option.bind_eq_some_iff.mp H
         obtain ⟨t181, A360, H⟩ := H
         replace H : ((impl_BatchTimes.f kj13 t181).bind fun t184 => ((laws_eqTimeS.f kj13 t184 t161).bind fun t187 => (if t187 = true then ((laws_heldTimeS.f kj13 t179 1).bind fun t188 => (if t188 < 0 then (some false) else (if t188 = t178 then (some true) else (some false)))) else (some false)))) = some r := H
         have A36 := Aside0.mk A360
         clear A360
         replace H := Option.bind_eq_some_iff.mp H
         obtain ⟨t184, A370, H⟩ := H
         replace H : ((laws_eqTimeS.f kj13 t184 t161).bind fun t187 => (if t187 = true then ((laws_heldTimeS.f kj13 t179 1).bind fun t188 => (if t188 < 0 then (some false) else (if t188 = t178 then (some true) else (some false)))) else (some false))) = some r := H
         have A37 := Aside0.mk A370
         clear A370
         replace H := Option.bind_eq_some_iff.mp H
         obtain ⟨t187, A380, H⟩ := H
         replace H : (if t187 = true then ((laws_heldTimeS.f kj13 t179 1).bind fun t188 => (if t188 < 0 then (some false) else (if t188 = t178 then (some true) else (some false)))) else (some false)) = some r := H
         have A38 := Aside0.mk A380
         clear A380
         by_cases c39 : t187 = true
         ·subst c39
          have H1 : ((laws_heldTimeS.f kj13 t179 1).bind fun t188 => (if t188 < 0 then (some false) else (if t188 = t178 then (some true) else (some false)))) = some r := by rw [if_pos rfl] at H; exact H
          clear H
          have H := H1
          clear H1
          replace H := Option.bind_eq_some_iff.mp H
          obtain ⟨t188, A400, H⟩ := H
          replace H : (if t188 < 0 then (some false) else (if t188 = t178 then (some true) else (some false))) = some r := H
          have A40 := Aside0.mk A400
          clear A400
          by_cases c41 : t188 < 0
          ·rw [if_pos c41] at H
           have c41b0 : decide (t188 < 0) = true := decide_eq_true c41
           clear c41
           exact absurd ((Option.some.inj H).trans hq_.out) (by decide)
          ·rw [if_neg c41] at H
           have c41b0 : decide (t188 < 0) = false := decide_eq_false c41
           clear c41
           by_cases c42 : t188 = t178
           ·rw [if_pos c42] at H
            have c42b0 : (t188 == t178) = true := beq_iff_eq.mpr c42
            have c42b1 : (t188 != t178) = false := bne_eq_false_iff_eq.mpr c42
            clear c42
            obtain rfl := Option.some.inj H
            go_wp2_with (first | ((with_reducible refine gate_callee (f := 20) rfl ?_); refine goesL_ (some 45) rfl rfl Try.func20 Q0 rfl #[.slice Ao21 t167.length co21, .int .i64 1] rfl Q25 ?_; (with_reducible refine (laws_markTimeS.calls kj13 (fun k_ => some k_ = (.slice Ao21 t167.length co21 : Value).ownBlock) (.slice Ao21 t167.length co21) t167 1 t178 t179 w _ ?side1 ?side2 A32.out).mono ?_); (case side1 => exact Q24); (case side2 => exact Kd.R_tight rfl HO_6.out); rintro e w43 ⟨rfl, hy0, hb, hkp⟩; refine ⟨_, rfl, ?_⟩; replace HO_4 := am (Kd.R_mono (ok' := fun k_ => some k_ ≠ (.slice Ao21 t167.length co21 : Value).ownBlock) (Kd.R_keptB (HO_4.out) hkp (fun k_ hk_ hs_ => (hk_) hs_)) (fun k_ hk_ => hk_.1)); replace HO_6 := am (Kd.R_reok rfl hy0 (fun k_ e_ => HO_6.out.1 k_ e_)); replace HB := am (hb); (try clear hb hkp hy0)) | ((with_reducible refine gate_callee (f := 21) rfl ?_); refine goesL_ (some 48) rfl rfl Try.func21 Q0 rfl #[.slice Ao21 t179.length co21, .int .i64 1] rfl (by (try simp only [List.map_toArray, List.map_cons, List.map_nil]); first | done | (rw [show t179.length = t167.length from (Kd.R_reads' HO_6.out).1.symm] <;> rfl) | rfl | (simp only [List.length_drop, List.length_take]; rfl)) ?_; (with_reducible refine (laws_heldTimeS.calls kj13 _ _ t179 1 t180 _ ?side1 ?side2 A33.out).mono ?_); (case side1 => exact (by repeat (first | exact (Kd.R_reads' HO_6.out).2.2 | (with_reducible refine Kd.C_alloc ?_ _) | (with_reducible refine Kd.C_drewN ?_ _) | (with_reducible refine Kd.C_drew ?_)))); (case side2 => rw [show t179.length = t167.length from (Kd.R_reads' HO_6.out).1.symm]; exact (Kd.R_reads' HO_6.out).2.1); rintro e w' ⟨rfl, ⟨nd, rfl⟩⟩; refine ⟨_, rfl, ?_⟩) | ((with_reducible refine gate_callee (f := 51) rfl ?_); refine goesL_ (some 55) rfl rfl Try.func51 Q0 rfl #[.slice A0 l0.length c0] rfl Q25 ?_; (with_reducible refine (laws_toRowS.calls kj13 _ _ l0 t181 _ ?side1 ?side2 A36.out).mono ?_); (case side1 => exact (by repeat (first | exact (Kd.C_below HR0.out Q24) | (with_reducible refine Kd.C_alloc ?_ _) | (with_reducible refine Kd.C_drewN ?_ _) | (with_reducible refine Kd.C_drew ?_)))); (case side2 => exact HC0.out); rintro e w44 ⟨v182, rfl, ho0, hb⟩; refine ⟨_, rfl, ?_⟩; replace HO_4 := am (Kd.R_below Q9 hb); replace HO_6 := am (Kd.R_below Q10 hb); have HO183 := am (Kd.R_lower ho0 (below_size Q24)); replace HB := am (below_step Q24 hb); (try clear hb ho0); obtain ⟨Ao45, co45, eo45⟩ := Kd.R_slice HO183.out; subst eo45) | ((with_reducible refine gate_callee (f := 52) rfl ?_); refine goesL_ (some 56) rfl rfl Try.func52 Q0 rfl #[.slice Ao45 t181.length co45] rfl Q25 ?_; (with_reducible refine (impl_BatchTimes.calls kj13 _ _ t181 t184 _ ?side1 ?side2 A37.out).mono ?_); (case side1 => exact (by repeat (first | exact (Kd.R_reads' HO183.out).2.2 | (with_reducible refine Kd.C_alloc ?_ _) | (with_reducible refine Kd.C_drewN ?_ _) | (with_reducible refine Kd.C_drew ?_)))); (case side2 => exact (Kd.R_reads' HO183.out).2.1); rintro e w46 ⟨v185, rfl, ho0, hb⟩; refine ⟨_, rfl, ?_⟩; replace HO183 := am (Kd.R_below (by (with_reducible repeat (first | apply Kd.R_alloc | apply Kd.R_drewN | apply Kd.R_drew)); exact HO183.out) hb); have HO186 := am (Kd.R_lower (Kd.R_new' (Kd.R_new' ho0 (Kd.R_lt Q9)) (Kd.R_lt Q10)) (below_size Q24)); replace HO_4 := am (Kd.R_elder' Q9 (Kd.R_base ho0) hb); replace HO_6 := am (Kd.R_elder' Q10 (Kd.R_base ho0) hb); replace HB := am (below_step Q24 hb); (try clear hb ho0); obtain ⟨Ao47, co47, eo47⟩ := Kd.R_slice HO186.out; subst eo47) | ((with_reducible refine gate_callee (f := 19) rfl ?_); refine goesL_ (some 59) rfl rfl Try.func19 Q0 rfl #[.slice Ao47 t184.length co47, .slice Ao22 t161.length co22] rfl Q25 ?_; (with_reducible refine (laws_eqTimeS.calls kj13 _ _ t184 _ _ t161 true _ ?side1 ?side2 ?side3 ?side4 A38.out).mono ?_); (case side1 => exact (by repeat (first | exact (Kd.R_reads' HO186.out).2.2 | (with_reducible refine Kd.C_alloc ?_ _) | (with_reducible refine Kd.C_drewN ?_ _) | (with_reducible refine Kd.C_drew ?_)))); (case side2 => exact (Kd.R_reads' HO186.out).2.1); (case side3 => exact (by repeat (first | exact (Kd.R_reads' HO_4.out).2.2 | (with_reducible refine Kd.C_alloc ?_ _) | (with_reducible refine Kd.C_drewN ?_ _) | (with_reducible refine Kd.C_drew ?_)))); (case side4 => exact (Kd.R_reads' HO_4.out).2.1); rintro e w48 ⟨rfl, hb⟩; refine ⟨_, rfl, ?_⟩; replace HO_4 := am (Kd.R_below Q9 hb); replace HO_6 := am (Kd.R_below Q10 hb); replace HO183 := am (Kd.R_below (by (with_reducible repeat (first | apply Kd.R_alloc | apply Kd.R_drewN | apply Kd.R_drew)); exact HO183.out) hb); replace HO186 := am (Kd.R_below (by (with_reducible repeat (first | apply Kd.R_alloc | apply Kd.R_drewN | apply Kd.R_drew)); exact HO186.out) hb); replace HB := am (below_step Q24 hb); (try clear hb)) | ((with_reducible refine gate_callee (f := 21) rfl ?_); refine goesL_ (some 63) rfl rfl Try.func21 Q0 rfl #[.slice Ao21 t179.length co21, .int .i64 1] rfl (by (try simp only [List.map_toArray, List.map_cons, List.map_nil]); first | done | (rw [show t179.length = t167.length from (Kd.R_reads' HO_6.out).1.symm] <;> rfl) | rfl | (simp only [List.length_drop, List.length_take]; rfl)) ?_; (with_reducible refine (laws_heldTimeS.calls kj13 _ _ t179 1 t188 _ ?side1 ?side2 A40.out).mono ?_); (case side1 => exact (by repeat (first | exact (Kd.R_reads' HO_6.out).2.2 | (with_reducible refine Kd.C_alloc ?_ _) | (with_reducible refine Kd.C_drewN ?_ _) | (with_reducible refine Kd.C_drew ?_)))); (case side2 => rw [show t179.length = t167.length from (Kd.R_reads' HO_6.out).1.symm]; exact (Kd.R_reads' HO_6.out).2.1); rintro e w' ⟨rfl, ⟨nd, rfl⟩⟩; refine ⟨_, rfl, ?_⟩))
            go_ret
            exact ⟨by first | rfl | (rw [hq_.out]; done) | (simp [errW_none, errW_some] <;> rfl) | (simp [*, errW_none, errW_some] <;> rfl), Q24⟩
           ·rw [if_neg c42] at H
            have c42b0 : (t188 == t178) = false := beq_eq_false_iff_ne.mpr c42
            have c42b1 : (t188 != t178) = true := bne_iff_ne.mpr c42
            exact absurd ((Option.some.inj H).trans hq_.out) (by decide)
         ·replace c39 := Bool.eq_false_iff.mpr c39
          subst c39
          have H1 : (some false) = some r := by rw [if_neg (show ¬ (false = true) by decide)] at H; exact H
          clear H
          have H := H1
          clear H1
          exact absurd ((Option.some.inj H).trans hq_.out) (by decide)
        ·rw [if_neg c35] at H
         have c35b0 : (t180 == t178) = false := beq_eq_false_iff_ne.mpr c35
         have c35b1 : (t180 != t178) = true := bne_iff_ne.mpr c35
         exact absurd ((Option.some.inj H).trans hq_.out) (by decide)
   ·replace c12 := Bool.eq_false_iff.mpr c12
    subst c12
    have H1 : (some false) = some r := by rw [if_neg (show ¬ (false = true) by decide)] at H; exact H
    clear H
    have H := H1
    clear H1
    exact absurd ((Option.some.inj H).trans hq_.out) (by decide)
  ·replace c9 := Bool.eq_false_iff.mpr c9
   subst c9
   have H1 : (some false) = some r := by rw [if_neg (show ¬ (false = true) by decide)] at H; exact H
   clear H
   have H := H1
   clear H1
   exact absurd ((Option.some.inj H).trans hq_.out) (by decide)
end Go.Proofs.Ytpggfdjnebccnaa.PFnExactBatchTimes
