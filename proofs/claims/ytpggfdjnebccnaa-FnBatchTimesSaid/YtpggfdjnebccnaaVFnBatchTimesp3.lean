/- Functions that the law comes to: each as a plain Lean function, with the contract of the Go function. -/
import Derived.Test.YtpggfdjnebccnaaVFnBatchTimesw
import Derived.Test.YtpggfdjnebccnaaVFnBatchTimesp0
import Derived.Test.YtpggfdjnebccnaaVFnBatchTimesp1
import Derived.Test.YtpggfdjnebccnaaVFnBatchTimesp2
import Derived.Test.YtpggfdjnebccnaaVFnBatchTimesg0
import Derived.Test.YtpggfdjnebccnaaVFnBatchTimesg1
import Derived.Test.YtpggfdjnebccnaaVFnBatchTimesg2
namespace Go.Proofs.Ytpggfdjnebccnaa.PFnBatchTimes
open Go.RowKit Go.Proofs.YtpggfdjnebccnaaW.PrintWords Go.Proofs.YtpggfdjnebccnaaW.PrintLast Go.Proofs.YtpggfdjnebccnaaW.PrintMore
attribute [local go_sem] max2_int min2_int max_two min_two max_three min_three max_four min_four
set_option linter.unusedVariables false
set_option linter.unusedSimpArgs false
attribute [local go_sem high] eqA36
set_option maxHeartbeats 8000000 in
set_option maxRecDepth 100000 in
theorem impl_present.calls (k : Nat) (A0 : Option Addr) (c0 : Nat) (l0 : List (S90)) (a1_0 : Int) (a1_1 : Int) (r : List (S80)) (w : World) (hr0 : Kd.C k90 w A0 l0.length l0) (hc0 : l0.length ≤ c0) (h : impl_present.f k l0 a1_0 a1_1 = some r) :
  Calls Try.prog 92 #[.slice A0 l0.length c0, .agg #[.int .i64 a1_0, .int .i64 a1_1]] w fun e w' => ∃ v0_ : Value, e = .returned (v0_) ∧ Kd.R k80 80 w' w.heap.size (fun _ => True) v0_ r ∧ Below w.heap.size w w' := by
 have hu36 := Try.underlying36
 have hu90 := Try.underlying90
 have hu80 := Try.underlying80
 have HR0 := Aside0.mk hr0
 have HC0 := Aside0.mk hc0
 clear hr0 hc0
 have HB := am (Below.refl w.heap.size w)
 have H : (impl_present.l0 k (([] : List (S80))) l0 (l0.length : Int) 0 a1_0 a1_1) = some r := h
 clear h
 obtain ⟨y318, hy_⟩ : ∃ y_ : List (S80), y_ = (([] : List (S80))) := ⟨_, rfl⟩
 replace H : (impl_present.l0 k y318 l0 (l0.length : Int) 0 a1_0 a1_1) = some r := Q74
 have Ny318 := Aside0.mk hy_
 clear hy_
 have H' := Aside0.mk H
 clear H
 go_enter Try.func92, Try.ntmps92
 go_wp2_with (first | ((with_reducible refine gate_dst (N := 3) rfl ?_); refine bE_ 3 #[.int .i64 a1_0, .int .i64 a1_1] 36 ?_; intro gb317 hg w3 hbox hb; have BK317 := am (hbox); have GW317 := am ((Q82 : w.heap.size ≤ gb317)); replace HB := am (below_step Q35 hb); have GE317 := GW317; clear hb hbox hg) | ((with_reducible refine gate_dst (N := 8) rfl ?_); refine Kd.R_lit k80 _ 80 ?hg (N := 8) ?hd (xs := ([] : List (S80))) (inner := []) (ok := fun _ => True) (okp := fun _ => True) ?hr ?hp (fun _ hk => hk) trivial (Below.refl _ _) (Nat.le_refl _) (by simp) ?_; (case hd => rfl); (case hg => rfl); (case hr => first | (go_simp; done) | (go_simp; rfl)); (case hp => exact (Reps.none _ _)); intro v319 w4 ho5 hb hg_ hnew_; clear hg_ hnew_; (first | rw [← Ny318.out] at ho5 | (simp only [Int.reduceToNat] at ho5; rw [← Ny318.out] at ho5)); have HO320 := am (Kd.R_lower ho5 (below_size Q50)); replace BK317 := am (blk_below (g := gb317) (o := .cells #[.int .i64 a1_0, .int .i64 a1_1] 36 (0, 0)) Q32 hb); replace HB := am (below_step Q50 hb); clear hb ho5))
 go_loopg [5, 11] k (fun kq v5 v11 w' => ∃ (x5_1 : List (S80)) (x11_1 : Int), v11 = .int .i64 x11_1 ∧ Aside0 (impl_present.l0 kq x5_1 l0 (l0.length : Int) x11_1 a1_0 a1_1 = some r) ∧ Aside0 (kq ≤ k) ∧ Aside0 (Kd.R k80 80 w' w.heap.size (fun _ => True) v5 x5_1) ∧ Aside0 (w'.heap[gb317]? = some (.cells #[.int .i64 a1_0, .int .i64 a1_1] 36 (0, 0))) ∧ Aside0 (Below w.heap.size w w'))
 case atStart => exact ⟨(y318), (0), Q4, H', ⟨Nat.le_refl _⟩, ⟨by (with_reducible repeat (first | apply Kd.R_alloc | apply Kd.R_drewN | apply Kd.R_drew)); exact HO320.out⟩, ⟨Q32⟩, ⟨Q50⟩⟩
 case round =>
  clear H'
  try clear p2
  obtain ⟨x5_1, x11_1, rfl, HA, HK1, HO_5, BK317, HB⟩ := hrel
  cases gk with
  | zero => exact absurd HA.out (by simp [impl_present.l0])
  | succ k1 =>
   have H := HA.out
   clear HA
   simp only [impl_present.l0] at H
   by_cases c6 : x11_1 < (l0.length : Int)
   ·rw [if_pos c6] at H
    have c6b0 : decide (x11_1 < (l0.length : Int)) = true := decide_eq_true c6
    clear c6
    have c7 : 0 ≤ x11_1 := nn_ H
    rw [if_pos c7] at H
    have c7b0 : decide (0 ≤ x11_1) = true := decide_eq_true c7
    clear c7
    have c8 : x11_1 < (l0.length : Int) := nn_ H
    rw [if_pos c8] at H
    have c8b0 : decide (x11_1 < (l0.length : Int)) = true := decide_eq_true c8
    clear c8
    replace H := Option.bind_eq_some_iff.mp H
    obtain ⟨t323, A90, H⟩ := H
    replace H : (if t323 = true then (if x5_1.length < 5864062014805 then (impl_present.l0 k1 (x5_1 ++ [(⟨(rd_T90 l0 x11_1).f0, (rd_T90 l0 x11_1).f1, (rd_T90 l0 x11_1).f3⟩ : S80)]) l0 (l0.length : Int) (wrap64 (x11_1 + 1)) a1_0 a1_1) else (none)) else (impl_present.l0 k1 x5_1 l0 (l0.length : Int) (wrap64 (x11_1 + 1)) a1_0 a1_1)) = some r := H
    have A9 := Aside0.mk A90
    clear A90
    by_cases c10 : t323 = true
    ·subst c10
     have H1 : (if x5_1.length < 5864062014805 then (impl_present.l0 k1 (x5_1 ++ [(⟨(rd_T90 l0 x11_1).f0, (rd_T90 l0 x11_1).f1, (rd_T90 l0 x11_1).f3⟩ : S80)]) l0 (l0.length : Int) (wrap64 (x11_1 + 1)) a1_0 a1_1) else (none)) = some r := by rw [if_pos rfl] at H; exact H
     clear H
     have H := H1
     clear H1
     have c11 : x5_1.length < 5864062014805 := nn_ H
     rw [if_pos c11] at H
     have LMc11 := Aside0.mk c11
     clear c11
     obtain ⟨y324, hy_⟩ : ∃ y_ : List (S80), y_ = (x5_1 ++ [(⟨(rd_T90 l0 x11_1).f0, (rd_T90 l0 x11_1).f1, (rd_T90 l0 x11_1).f3⟩ : S80)]) := ⟨_, rfl⟩
     replace H : (impl_present.l0 k1 y324 l0 (l0.length : Int) (wrap64 (x11_1 + 1)) a1_0 a1_1) = some r := Q74
     have Ny324 := Aside0.mk hy_
     clear hy_
     have H' := Aside0.mk H
     clear H
     have p321 : 0 ≤ (x11_1 : Int) := of_decide_eq_true Q5
     have q321 : x11_1 < (l0.length : Int) := of_decide_eq_true Q5
     obtain ⟨ad321, e321, hx321_0, hx321_1, hx321_2, hx321_3, hx321_4⟩ := at_T90 HR0.out x11_1 p321 q321
     cases e321
     replace hx321_0 := (HB.out.cell (World.block_lt_of_cell? w _ hx321_0)).trans hx321_0
     replace hx321_1 := (HB.out.cell (World.block_lt_of_cell? w _ hx321_1)).trans hx321_1
     replace hx321_2 := (HB.out.cell (World.block_lt_of_cell? w _ hx321_2)).trans hx321_2
     replace hx321_3 := (HB.out.cell (World.block_lt_of_cell? w _ hx321_3)).trans hx321_3
     replace hx321_4 := (HB.out.cell (World.block_lt_of_cell? w _ hx321_4)).trans hx321_4
     replace p321 := eq_true p321
     replace q321 := eq_true q321
     go_wp2_with (first | ((with_reducible refine gate_dst (N := 7) rfl ?_); refine bE_ 7 #[.int .i64 0, .int .i64 0, .int .i64 0, .int .i64 0, .int .i64 0] 90 ?_; intro gb322 hg w12 hbox hb; replace HO_5 := am (Kd.R_below Q13 hb); have BK322 := am (hbox); have GW322 := am ((by rw [hg]; exact (below_size Q50) : w.heap.size ≤ gb322)); replace HB := am (below_step Q50 hb); have NB317_322 := am ((by rw [hg]; exact Nat.ne_of_lt (blk_lt (g := gb317) (o := .cells #[.int .i64 a1_0, .int .i64 a1_1] 36 (0, 0)) Q32) : gb317 ≠ gb322)); have NB322_317 := am ((by rw [hg]; exact Nat.ne_of_gt (blk_lt (g := gb317) (o := .cells #[.int .i64 a1_0, .int .i64 a1_1] 36 (0, 0)) Q32) : gb322 ≠ gb317)); replace BK317 := am (blk_below (g := gb317) (o := .cells #[.int .i64 a1_0, .int .i64 a1_1] 36 (0, 0)) Q32 hb); have GE322 := GW322; clear hb hbox hg; have hnb13 := NB322_317.out; have hnc13 := NB317_322.out; obtain ⟨hcz14_0, hcz14_1, hcz14_2, hcz14_3, hcz14_4, hfz14_0, hfz14_1, hfz14_2, hfz14_3, hfz14_4⟩ := bx5_ BK322; obtain ⟨hcz15_0, hcz15_1, hfz15_0, hfz15_1⟩ := bx2_ BK317) | ((with_reducible refine gate_callee (f := 73) rfl ?_); refine goesL_ (some 18) rfl rfl Try.func73 Q1 rfl #[.agg #[.int .i64 ((rd_T90 l0 x11_1).f2.f0), .int .i64 ((rd_T90 l0 x11_1).f2.f1)], .agg #[.int .i64 a1_0, .int .i64 a1_1]] rfl Q37 ?_; (with_reducible refine (impl_below.calls ((rd_T90 l0 x11_1).f2.f0) ((rd_T90 l0 x11_1).f2.f1) a1_0 a1_1 true _ A9.out).mono ?_); rintro e w16 ⟨rfl, hb⟩; refine ⟨_, rfl, ?_⟩; replace HO_5 := am (Kd.R_below (by (with_reducible repeat (first | apply Kd.R_alloc | apply Kd.R_drewN | apply Kd.R_drew)); exact (Kd.R_mono (Kd.R_far (p := ⟨gb322, 4, none⟩) (Kd.R_far (p := ⟨gb322, 3, none⟩) (Kd.R_far (p := ⟨gb322, 2, none⟩) (Kd.R_far (p := ⟨gb322, 1, none⟩) (Kd.R_far (p := ⟨gb322, 0, none⟩) (Kd.R_types HO_5.out BK322.out Q0) (fun _ hk => hk.2) (.int .i64 ((rd_T90 l0 x11_1).f0))) (fun _ hk => hk.2) (.int .i64 ((rd_T90 l0 x11_1).f1))) (fun _ hk => hk.2) (.int .i64 ((rd_T90 l0 x11_1).f2.f0))) (fun _ hk => hk.2) (.int .i64 ((rd_T90 l0 x11_1).f2.f1))) (fun _ hk => hk.2) (.int .i64 ((rd_T90 l0 x11_1).f3))) (fun _ h_ => h_.1))) hb); replace BK317 := am (blk_below (g := gb317) (o := .cells #[.int .i64 a1_0, .int .i64 a1_1] 36 (0, 0)) (by (with_reducible repeat (first | refine blk_drewN ?_ _ | refine blk_drew ?_ | refine blk_alloc ?_ _)); refine blk_far ?_ NB317_322.out _; (with_reducible repeat (first | refine blk_drewN ?_ _ | refine blk_drew ?_ | refine blk_alloc ?_ _)); refine blk_far ?_ NB317_322.out _; (with_reducible repeat (first | refine blk_drewN ?_ _ | refine blk_drew ?_ | refine blk_alloc ?_ _)); refine blk_far ?_ NB317_322.out _; (with_reducible repeat (first | refine blk_drewN ?_ _ | refine blk_drew ?_ | refine blk_alloc ?_ _)); refine blk_far ?_ NB317_322.out _; (with_reducible repeat (first | refine blk_drewN ?_ _ | refine blk_drew ?_ | refine blk_alloc ?_ _)); refine blk_far ?_ NB317_322.out _; (with_reducible repeat (first | refine blk_drewN ?_ _ | refine blk_drew ?_ | refine blk_alloc ?_ _)); exact BK317.out) hb); replace BK322 := am (blk_below (g := gb322) (o := .cells #[.int .i64 ((rd_T90 l0 x11_1).f0), .int .i64 ((rd_T90 l0 x11_1).f1), .int .i64 ((rd_T90 l0 x11_1).f2.f0), .int .i64 ((rd_T90 l0 x11_1).f2.f1), .int .i64 ((rd_T90 l0 x11_1).f3)] 90 (0, 0)) (by (with_reducible repeat (first | refine blk_drewN ?_ _ | refine blk_drew ?_ | refine blk_alloc ?_ _)); refine blk_put (cs := #[.int .i64 ((rd_T90 l0 x11_1).f0), .int .i64 ((rd_T90 l0 x11_1).f1), .int .i64 ((rd_T90 l0 x11_1).f2.f0), .int .i64 ((rd_T90 l0 x11_1).f2.f1), .int .i64 0]) ?_ 4 _ rfl; (with_reducible repeat (first | refine blk_drewN ?_ _ | refine blk_drew ?_ | refine blk_alloc ?_ _)); refine blk_put (cs := #[.int .i64 ((rd_T90 l0 x11_1).f0), .int .i64 ((rd_T90 l0 x11_1).f1), .int .i64 ((rd_T90 l0 x11_1).f2.f0), .int .i64 0, .int .i64 0]) ?_ 3 _ rfl; (with_reducible repeat (first | refine blk_drewN ?_ _ | refine blk_drew ?_ | refine blk_alloc ?_ _)); refine blk_put (cs := #[.int .i64 ((rd_T90 l0 x11_1).f0), .int .i64 ((rd_T90 l0 x11_1).f1), .int .i64 0, .int .i64 0, .int .i64 0]) ?_ 2 _ rfl; (with_reducible repeat (first | refine blk_drewN ?_ _ | refine blk_drew ?_ | refine blk_alloc ?_ _)); refine blk_put (cs := #[.int .i64 ((rd_T90 l0 x11_1).f0), .int .i64 0, .int .i64 0, .int .i64 0, .int .i64 0]) ?_ 1 _ rfl; (with_reducible repeat (first | refine blk_drewN ?_ _ | refine blk_drew ?_ | refine blk_alloc ?_ _)); refine blk_put (cs := #[.int .i64 0, .int .i64 0, .int .i64 0, .int .i64 0, .int .i64 0]) ?_ 0 _ rfl; (with_reducible repeat (first | refine blk_drewN ?_ _ | refine blk_drew ?_ | refine blk_alloc ?_ _)); exact BK322.out) hb); replace HB := am (below_step Q66 hb); (try clear hb); obtain ⟨hcz17_0, hcz17_1, hcz17_2, hcz17_3, hcz17_4, hfz17_0, hfz17_1, hfz17_2, hfz17_3, hfz17_4⟩ := bx5_ BK322) | ((with_reducible refine gate_builtin (b := .append) (xs := #[.tmp 19, .tmp 27]) rfl ?_); at_builtin; refine Kd.R_append k80 (w0 := w) w.heap.size rfl (.tmp 19) (.tmp 27) 45 80 (.agg #[(.int .i64 0), (.int .i64 0), (.int .i64 0)]) 24 rfl Try.underlying45 info80 rfl Q0 (by omega) u5 x5_1 (⟨(rd_T90 l0 x11_1).f0, (rd_T90 l0 x11_1).f1, (rd_T90 l0 x11_1).f3⟩ : S80) [.int .i64 ((rd_T90 l0 x11_1).f0), .int .i64 ((rd_T90 l0 x11_1).f1), .int .i64 ((rd_T90 l0 x11_1).f3)] (fun _ => True) (fun _ => False) rfl rfl ?aP (fun _ hk => hk.elim) ?aF ?aO ?aB ?aS ?aL ?_; (case aP => exact k80_mkM _ _ _ (⟨(rd_T90 l0 x11_1).f0, (rd_T90 l0 x11_1).f1, (rd_T90 l0 x11_1).f3⟩ : S80)); (case aB => exact Q66); (case aF => exact (fun _ _ => trivial)); (case aO => exact Q13); (case aS => exact (below_size Q66)); (case aL => have := LMc11.out; omega); intro v325 w18 ho hb hg hat; rw [← Ny324.out] at ho; replace BK317 := am (blk_grown (g := gb317) (o := .cells #[.int .i64 a1_0, .int .i64 a1_1] 36 (0, 0)) Q32 hg (Kd.R_ne HO_5.out BK317.out Q0)); replace BK322 := am (blk_grown (g := gb322) (o := .cells #[.int .i64 ((rd_T90 l0 x11_1).f0), .int .i64 ((rd_T90 l0 x11_1).f1), .int .i64 ((rd_T90 l0 x11_1).f2.f0), .int .i64 ((rd_T90 l0 x11_1).f2.f1), .int .i64 ((rd_T90 l0 x11_1).f3)] 90 (0, 0)) (by (with_reducible repeat (first | refine blk_drewN ?_ _ | refine blk_drew ?_ | refine blk_alloc ?_ _)); exact BK322.out) hg (Kd.R_ne HO_5.out BK322.out Q0)); replace HB := am (hb); have HO326 := am (ho); clear HO_5; clear ho hb hg hat))
     go_roundg k1
     case measure => have := HK1.out; omega
     case rel => exact ⟨(y324), (wrap64 (x11_1 + 1)), Q4, H', ⟨Q2⟩, ⟨by (with_reducible repeat (first | apply Kd.R_alloc | apply Kd.R_drewN | apply Kd.R_drew)); exact HO326.out⟩, ⟨Q32⟩, ⟨Q66⟩⟩
    ·replace c10 := Bool.eq_false_iff.mpr c10
     subst c10
     have H1 : (impl_present.l0 k1 x5_1 l0 (l0.length : Int) (wrap64 (x11_1 + 1)) a1_0 a1_1) = some r := by rw [if_neg (show ¬ (false = true) by decide)] at H; exact H
     clear H
     have H := H1
     clear H1
     have H' := Aside0.mk H
     clear H
     have p321 : 0 ≤ (x11_1 : Int) := of_decide_eq_true Q5
     have q321 : x11_1 < (l0.length : Int) := of_decide_eq_true Q5
     obtain ⟨ad321, e321, hx321_0, hx321_1, hx321_2, hx321_3, hx321_4⟩ := at_T90 HR0.out x11_1 p321 q321
     cases e321
     replace hx321_0 := (HB.out.cell (World.block_lt_of_cell? w _ hx321_0)).trans hx321_0
     replace hx321_1 := (HB.out.cell (World.block_lt_of_cell? w _ hx321_1)).trans hx321_1
     replace hx321_2 := (HB.out.cell (World.block_lt_of_cell? w _ hx321_2)).trans hx321_2
     replace hx321_3 := (HB.out.cell (World.block_lt_of_cell? w _ hx321_3)).trans hx321_3
     replace hx321_4 := (HB.out.cell (World.block_lt_of_cell? w _ hx321_4)).trans hx321_4
     replace p321 := eq_true p321
     replace q321 := eq_true q321
     go_wp2_with (first | ((with_reducible refine gate_dst (N := 7) rfl ?_); refine bE_ 7 #[.int .i64 0, .int .i64 0, .int .i64 0, .int .i64 0, .int .i64 0] 90 ?_; intro gb322 hg w19 hbox hb; replace HO_5 := am (Kd.R_below Q13 hb); have BK322 := am (hbox); have GW322 := am ((by rw [hg]; exact (below_size Q50) : w.heap.size ≤ gb322)); replace HB := am (below_step Q50 hb); have NB317_322 := am ((by rw [hg]; exact Nat.ne_of_lt (blk_lt (g := gb317) (o := .cells #[.int .i64 a1_0, .int .i64 a1_1] 36 (0, 0)) Q32) : gb317 ≠ gb322)); have NB322_317 := am ((by rw [hg]; exact Nat.ne_of_gt (blk_lt (g := gb317) (o := .cells #[.int .i64 a1_0, .int .i64 a1_1] 36 (0, 0)) Q32) : gb322 ≠ gb317)); replace BK317 := am (blk_below (g := gb317) (o := .cells #[.int .i64 a1_0, .int .i64 a1_1] 36 (0, 0)) Q32 hb); have GE322 := GW322; clear hb hbox hg; have hnb20 := NB322_317.out; have hnc20 := NB317_322.out; obtain ⟨hcz21_0, hcz21_1, hcz21_2, hcz21_3, hcz21_4, hfz21_0, hfz21_1, hfz21_2, hfz21_3, hfz21_4⟩ := bx5_ BK322; obtain ⟨hcz22_0, hcz22_1, hfz22_0, hfz22_1⟩ := bx2_ BK317) | ((with_reducible refine gate_callee (f := 73) rfl ?_); refine goesL_ (some 18) rfl rfl Try.func73 Q1 rfl #[.agg #[.int .i64 ((rd_T90 l0 x11_1).f2.f0), .int .i64 ((rd_T90 l0 x11_1).f2.f1)], .agg #[.int .i64 a1_0, .int .i64 a1_1]] rfl Q37 ?_; (with_reducible refine (impl_below.calls ((rd_T90 l0 x11_1).f2.f0) ((rd_T90 l0 x11_1).f2.f1) a1_0 a1_1 false _ A9.out).mono ?_); rintro e w23 ⟨rfl, hb⟩; refine ⟨_, rfl, ?_⟩; replace HO_5 := am (Kd.R_below (by (with_reducible repeat (first | apply Kd.R_alloc | apply Kd.R_drewN | apply Kd.R_drew)); exact (Kd.R_mono (Kd.R_far (p := ⟨gb322, 4, none⟩) (Kd.R_far (p := ⟨gb322, 3, none⟩) (Kd.R_far (p := ⟨gb322, 2, none⟩) (Kd.R_far (p := ⟨gb322, 1, none⟩) (Kd.R_far (p := ⟨gb322, 0, none⟩) (Kd.R_types HO_5.out BK322.out Q0) (fun _ hk => hk.2) (.int .i64 ((rd_T90 l0 x11_1).f0))) (fun _ hk => hk.2) (.int .i64 ((rd_T90 l0 x11_1).f1))) (fun _ hk => hk.2) (.int .i64 ((rd_T90 l0 x11_1).f2.f0))) (fun _ hk => hk.2) (.int .i64 ((rd_T90 l0 x11_1).f2.f1))) (fun _ hk => hk.2) (.int .i64 ((rd_T90 l0 x11_1).f3))) (fun _ h_ => h_.1))) hb); replace BK317 := am (blk_below (g := gb317) (o := .cells #[.int .i64 a1_0, .int .i64 a1_1] 36 (0, 0)) (by (with_reducible repeat (first | refine blk_drewN ?_ _ | refine blk_drew ?_ | refine blk_alloc ?_ _)); refine blk_far ?_ NB317_322.out _; (with_reducible repeat (first | refine blk_drewN ?_ _ | refine blk_drew ?_ | refine blk_alloc ?_ _)); refine blk_far ?_ NB317_322.out _; (with_reducible repeat (first | refine blk_drewN ?_ _ | refine blk_drew ?_ | refine blk_alloc ?_ _)); refine blk_far ?_ NB317_322.out _; (with_reducible repeat (first | refine blk_drewN ?_ _ | refine blk_drew ?_ | refine blk_alloc ?_ _)); refine blk_far ?_ NB317_322.out _; (with_reducible repeat (first | refine blk_drewN ?_ _ | refine blk_drew ?_ | refine blk_alloc ?_ _)); refine blk_far ?_ NB317_322.out _; (with_reducible repeat (first | refine blk_drewN ?_ _ | refine blk_drew ?_ | refine blk_alloc ?_ _)); exact BK317.out) hb); replace BK322 := am (blk_below (g := gb322) (o := .cells #[.int .i64 ((rd_T90 l0 x11_1).f0), .int .i64 ((rd_T90 l0 x11_1).f1), .int .i64 ((rd_T90 l0 x11_1).f2.f0), .int .i64 ((rd_T90 l0 x11_1).f2.f1), .int .i64 ((rd_T90 l0 x11_1).f3)] 90 (0, 0)) (by (with_reducible repeat (first | refine blk_drewN ?_ _ | refine blk_drew ?_ | refine blk_alloc ?_ _)); refine blk_put (cs := #[.int .i64 ((rd_T90 l0 x11_1).f0), .int .i64 ((rd_T90 l0 x11_1).f1), .int .i64 ((rd_T90 l0 x11_1).f2.f0), .int .i64 ((rd_T90 l0 x11_1).f2.f1), .int .i64 0]) ?_ 4 _ rfl; (with_reducible repeat (first | refine blk_drewN ?_ _ | refine blk_drew ?_ | refine blk_alloc ?_ _)); refine blk_put (cs := #[.int .i64 ((rd_T90 l0 x11_1).f0), .int .i64 ((rd_T90 l0 x11_1).f1), .int .i64 ((rd_T90 l0 x11_1).f2.f0), .int .i64 0, .int .i64 0]) ?_ 3 _ rfl; (with_reducible repeat (first | refine blk_drewN ?_ _ | refine blk_drew ?_ | refine blk_alloc ?_ _)); refine blk_put (cs := #[.int .i64 ((rd_T90 l0 x11_1).f0), .int .i64 ((rd_T90 l0 x11_1).f1), .int .i64 0, .int .i64 0, .int .i64 0]) ?_ 2 _ rfl; (with_reducible repeat (first | refine blk_drewN ?_ _ | refine blk_drew ?_ | refine blk_alloc ?_ _)); refine blk_put (cs := #[.int .i64 ((rd_T90 l0 x11_1).f0), .int .i64 0, .int .i64 0, .int .i64 0, .int .i64 0]) ?_ 1 _ rfl; (with_reducible repeat (first | refine blk_drewN ?_ _ | refine blk_drew ?_ | refine blk_alloc ?_ _)); refine blk_put (cs := #[.int .i64 0, .int .i64 0, .int .i64 0, .int .i64 0, .int .i64 0]) ?_ 0 _ rfl; (with_reducible repeat (first | refine blk_drewN ?_ _ | refine blk_drew ?_ | refine blk_alloc ?_ _)); exact BK322.out) hb); replace HB := am (below_step Q66 hb); (try clear hb)))
     go_roundg k1
     case measure => have := HK1.out; omega
     case rel => exact ⟨(x5_1), (wrap64 (x11_1 + 1)), Q4, H', ⟨Q2⟩, ⟨Q13⟩, ⟨Q32⟩, ⟨Q66⟩⟩
   ·rw [if_neg c6] at H
    have c6b0 : decide (x11_1 < (l0.length : Int)) = false := decide_eq_false c6
    clear c6
    replace H := Option.bind_eq_some_iff.mp H
    obtain ⟨t327, A240, H⟩ := H
    replace H : (some t327) = some r := H
    have A24 := Aside0.mk A240
    clear A240
    obtain rfl := Option.some.inj H
    obtain ⟨Ao25, co25, eo25⟩ := Kd.R_slice HO_5.out
    subst eo25
    go_wp2_with (first | ((with_reducible refine gate_callee (f := 78) rfl ?_); refine goesL_ (some 31) rfl rfl Try.func78 Q1 rfl #[.slice Ao25 x5_1.length co25] rfl Q37 ?_; (with_reducible refine (impl_gathered.calls _ _ x5_1 t327 _ ?side1 ?side2 A24.out).mono ?_); (case side1 => exact Q52); (case side2 => exact (Kd.R_reads' HO_5.out).2.1); rintro e w26 ⟨v328, rfl, ho0, hb⟩; refine ⟨_, rfl, ?_⟩; have HO329 := am (Kd.R_lower (Kd.R_new' ho0 (Kd.R_lt Q13)) (below_size Q50)); replace HO_5 := am (Kd.R_elder' Q13 (Kd.R_base ho0) hb); replace BK317 := am (blk_below (g := gb317) (o := .cells #[.int .i64 a1_0, .int .i64 a1_1] 36 (0, 0)) Q32 hb); replace HB := am (below_step Q50 hb); (try clear hb ho0)))
    go_ret
    exact ⟨_, Q9, by (with_reducible repeat (first | apply Kd.R_alloc | apply Kd.R_drewN | apply Kd.R_drew)); exact Kd.R_mono HO329.out (fun _ hk => trivial), Q50⟩
def impl_BatchAt.f (k : Nat) (l0 : List (S90)) (a1_0 : Int) (a1_1 : Int) : Option ((List (S80))) := (impl_RowsOk.f k l0).bind fun t331 => (if t331 = true then ((impl_TimeOk.f a1_0 a1_1).bind fun t332 => (if t332 = true then ((impl_present.f k l0 a1_0 a1_1).bind fun t333 => (some t333)) else (some ([] : List (S80))))) else (some ([] : List (S80))))
set_option maxHeartbeats 8000000 in
set_option maxRecDepth 100000 in
theorem impl_BatchAt.calls (k : Nat) (A0 : Option Addr) (c0 : Nat) (l0 : List (S90)) (a1_0 : Int) (a1_1 : Int) (r : List (S80)) (w : World) (hr0 : Kd.C k90 w A0 l0.length l0) (hc0 : l0.length ≤ c0) (h : impl_BatchAt.f k l0 a1_0 a1_1 = some r) :
  Calls Try.prog 57 #[.slice A0 l0.length c0, .agg #[.int .i64 a1_0, .int .i64 a1_1]] w fun e w' => ∃ v0_ : Value, e = .returned (v0_) ∧ Kd.R k80 80 w' w.heap.size (fun _ => True) v0_ r ∧ Below w.heap.size w w' := by
 have hu36 := Try.underlying36
 have HR0 := Aside0.mk hr0
 have HC0 := Aside0.mk hc0
 clear hr0 hc0
 have HB := am (Below.refl w.heap.size w)
 have H : ((impl_RowsOk.f k l0).bind fun t331 => (if t331 = true then ((impl_TimeOk.f a1_0 a1_1).bind fun t332 => (if t332 = true then ((impl_present.f k l0 a1_0 a1_1).bind fun t333 => (some t333)) else (some ([] : List (S80))))) else (some ([] : List (S80))))) = some r := h
 clear h
 replace H := Option.bind_eq_some_iff.mp H
 obtain ⟨t331, A30, H⟩ := H
 replace H : (if t331 = true then ((impl_TimeOk.f a1_0 a1_1).bind fun t332 => (if t332 = true then ((impl_present.f k l0 a1_0 a1_1).bind fun t333 => (some t333)) else (some ([] : List (S80))))) else (some ([] : List (S80)))) = some r := H
 have A3 := Aside0.mk A30
 clear A30
 by_cases c4 : t331 = true
 ·subst c4
  have H1 : ((impl_TimeOk.f a1_0 a1_1).bind fun t332 => (if t332 = true then ((impl_present.f k l0 a1_0 a1_1).bind fun t333 => (some t333)) else (some ([] : List (S80))))) = some r := by rw [if_pos rfl] at H; exact H
  clear H
  have H := H1
  clear H1
  replace H := Option.bind_eq_some_iff.mp H
  obtain ⟨t332, A50, H⟩ := H
  replace H : (if t332 = true then ((impl_present.f k l0 a1_0 a1_1).bind fun t333 => (some t333)) else (some ([] : List (S80)))) = some r := H
  have A5 := Aside0.mk A50
  clear A50
  by_cases c6 : t332 = true
  ·subst c6
   have H1 : ((impl_present.f k l0 a1_0 a1_1).bind fun t333 => (some t333)) = some r := by rw [if_pos rfl] at H; exact H
   clear H
   have H := H1
   clear H1
   replace H := Option.bind_eq_some_iff.mp H
   obtain ⟨t333, A70, H⟩ := H
   replace H : (some t333) = some r := H
   have A7 := Aside0.mk A70
   clear A70
   obtain rfl := Option.some.inj H
   go_enter Try.func57, Try.ntmps57
   go_wp2_with (first | ((with_reducible refine gate_dst (N := 3) rfl ?_); refine bE_ 3 #[.int .i64 a1_0, .int .i64 a1_1] 36 ?_; intro gb330 hg w8 hbox hb; have BK330 := am (hbox); have GW330 := am ((Q82 : w.heap.size ≤ gb330)); replace HB := am (below_step Q35 hb); have GE330 := GW330; clear hb hbox hg) | ((with_reducible refine gate_callee (f := 87) rfl ?_); refine goesL_ (some 6) rfl rfl Try.func87 Q1 rfl #[.slice A0 l0.length c0] rfl Q37 ?_; (with_reducible refine (impl_RowsOk.calls k _ _ l0 true _ ?side1 ?side2 A3.out).mono ?_); (case side1 => exact Q53); (case side2 => exact HC0.out); rintro e w9 ⟨rfl, hb⟩; refine ⟨_, rfl, ?_⟩; replace BK330 := am (blk_below (g := gb330) (o := .cells #[.int .i64 a1_0, .int .i64 a1_1] 36 (0, 0)) Q33 hb); replace HB := am (below_step Q51 hb); (try clear hb); obtain ⟨hcz10_0, hcz10_1, hfz10_0, hfz10_1⟩ := bx2_ BK330) | (go_at_call 61; (with_reducible refine (impl_TimeOk.calls a1_0 a1_1 true _ A5.out).mono ?_); rintro e w11 ⟨rfl, hb⟩; replace BK330 := am (blk_below (g := gb330) (o := .cells #[.int .i64 a1_0, .int .i64 a1_1] 36 (0, 0)) Q33 hb); replace HB := am (below_step Q51 hb); (try clear hb); obtain ⟨hcz12_0, hcz12_1, hfz12_0, hfz12_1⟩ := bx2_ BK330) | ((with_reducible refine gate_callee (f := 92) rfl ?_); refine goesL_ (some 15) rfl rfl Try.func92 Q1 rfl #[.slice A0 l0.length c0, .agg #[.int .i64 a1_0, .int .i64 a1_1]] rfl Q37 ?_; (with_reducible refine (impl_present.calls k _ _ l0 a1_0 a1_1 t333 _ ?side1 ?side2 A7.out).mono ?_); (case side1 => exact Q53); (case side2 => exact HC0.out); rintro e w13 ⟨v334, rfl, ho0, hb⟩; refine ⟨_, rfl, ?_⟩; have HO335 := am (Kd.R_lower ho0 (below_size Q51)); replace BK330 := am (blk_below (g := gb330) (o := .cells #[.int .i64 a1_0, .int .i64 a1_1] 36 (0, 0)) Q33 hb); replace HB := am (below_step Q51 hb); (try clear hb ho0)))
   go_ret
   exact ⟨_, Q9, by (with_reducible repeat (first | apply Kd.R_alloc | apply Kd.R_drewN | apply Kd.R_drew)); exact HO335.out, Q51⟩
  ·replace c6 := Bool.eq_false_iff.mpr c6
   subst c6
   have H1 : (some ([] : List (S80))) = some r := by rw [if_neg (show ¬ (false = true) by decide)] at H; exact H
   clear H
   have H := H1
   clear H1
   obtain rfl := Option.some.inj H
   go_enter Try.func57, Try.ntmps57
   go_wp2_with (first | ((with_reducible refine gate_dst (N := 3) rfl ?_); refine bE_ 3 #[.int .i64 a1_0, .int .i64 a1_1] 36 ?_; intro gb330 hg w14 hbox hb; have BK330 := am (hbox); have GW330 := am ((Q82 : w.heap.size ≤ gb330)); replace HB := am (below_step Q35 hb); have GE330 := GW330; clear hb hbox hg) | ((with_reducible refine gate_callee (f := 87) rfl ?_); refine goesL_ (some 6) rfl rfl Try.func87 Q1 rfl #[.slice A0 l0.length c0] rfl Q37 ?_; (with_reducible refine (impl_RowsOk.calls k _ _ l0 true _ ?side1 ?side2 A3.out).mono ?_); (case side1 => exact Q53); (case side2 => exact HC0.out); rintro e w15 ⟨rfl, hb⟩; refine ⟨_, rfl, ?_⟩; replace BK330 := am (blk_below (g := gb330) (o := .cells #[.int .i64 a1_0, .int .i64 a1_1] 36 (0, 0)) Q33 hb); replace HB := am (below_step Q51 hb); (try clear hb); obtain ⟨hcz16_0, hcz16_1, hfz16_0, hfz16_1⟩ := bx2_ BK330) | (go_at_call 61; (with_reducible refine (impl_TimeOk.calls a1_0 a1_1 false _ A5.out).mono ?_); rintro e w17 ⟨rfl, hb⟩; replace BK330 := am (blk_below (g := gb330) (o := .cells #[.int .i64 a1_0, .int .i64 a1_1] 36 (0, 0)) Q33 hb); replace HB := am (below_step Q51 hb); (try clear hb)))
   go_ret
   exact ⟨_, Q9, by first | exact Kd.R_nil _ _ _ _ _ | exact Kd.N_nil _ _ _ _ _ | exact Kd.V_nil _ _ _ _ _ | exact Kd.Q_nil _ _ _ _ _ | exact Kd.S_nil _ _ _ _ _, Q51⟩
 ·replace c4 := Bool.eq_false_iff.mpr c4
  subst c4
  have H1 : (some ([] : List (S80))) = some r := by rw [if_neg (show ¬ (false = true) by decide)] at H; exact H
  clear H
  have H := H1
  clear H1
  obtain rfl := Option.some.inj H
  go_enter Try.func57, Try.ntmps57
  go_wp2_with (first | ((with_reducible refine gate_dst (N := 3) rfl ?_); refine bE_ 3 #[.int .i64 a1_0, .int .i64 a1_1] 36 ?_; intro gb330 hg w18 hbox hb; have BK330 := am (hbox); have GW330 := am ((Q82 : w.heap.size ≤ gb330)); replace HB := am (below_step Q35 hb); have GE330 := GW330; clear hb hbox hg) | ((with_reducible refine gate_callee (f := 87) rfl ?_); refine goesL_ (some 6) rfl rfl Try.func87 Q1 rfl #[.slice A0 l0.length c0] rfl Q37 ?_; (with_reducible refine (impl_RowsOk.calls k _ _ l0 false _ ?side1 ?side2 A3.out).mono ?_); (case side1 => exact Q53); (case side2 => exact HC0.out); rintro e w19 ⟨rfl, hb⟩; refine ⟨_, rfl, ?_⟩; replace BK330 := am (blk_below (g := gb330) (o := .cells #[.int .i64 a1_0, .int .i64 a1_1] 36 (0, 0)) Q33 hb); replace HB := am (below_step Q51 hb); (try clear hb)))
  go_ret
  exact ⟨_, Q9, by first | exact Kd.R_nil _ _ _ _ _ | exact Kd.N_nil _ _ _ _ _ | exact Kd.V_nil _ _ _ _ _ | exact Kd.Q_nil _ _ _ _ _ | exact Kd.S_nil _ _ _ _ _, Q51⟩
mutual
def laws_FnBatchTimes.j0 : Nat → List (S90) → List (S36) → Bool → Option (Bool)
 | 0, _, _, _ => none
 | k + 1, x3, x4, x24 => if x24 = true then ((spec_BatchTimes.f k x3).bind fun t347 => ((laws_lwTimes.f k x4 t347).bind fun t350 => (some t350))) else ((impl_FrontOf.f x4).bind fun t351 => ((laws_lwAll.f k).bind fun t354 => (laws_FnBatchTimes.l0 k x3 x4 t351 t354 0)))
def laws_FnBatchTimes.l0 : Nat → List (S90) → List (S36) → List (S36) → List (S36) → Int → Option (Bool)
 | 0, _, _, _, _, _ => none
 | k + 1, x3, x4, x5, x6, x7 => if x7 < (x6.length : Int) then (if 0 ≤ x7 then ((impl_FrontCovers.f k x5 ((rd_T36 x6 x7).f0) ((rd_T36 x6 x7).f1)).bind fun t358 => (if t358 = true then (laws_FnBatchTimes.l0 k x3 x4 x5 x6 (wrap64 (x7 + 1))) else ((impl_BatchAt.f k x3 ((rd_T36 x6 x7).f0) ((rd_T36 x6 x7).f1)).bind fun t360 => (if (t360.length : Int) > 0 then (some false) else (laws_FnBatchTimes.l0 k x3 x4 x5 x6 (wrap64 (x7 + 1))))))) else (none)) else (some (decide ((x4.length : Int) ≤ (x3.length : Int))))
end
def laws_FnBatchTimes.f (k : Nat) (l0 : List Int) : Option (Bool) := if (l0.length : Int) > 1048576 then (some true) else ((spec_DrawBatchTimes.f k l0).bind fun t336 => ((impl_BatchTimes.f k t336).bind fun t339 => ((spec_BatchTimes.f k t336).bind fun t342 => ((laws_lwTimes.f k t339 t342).bind fun t345 => (if t345 = true then ((spec_RowsOk.f k t336).bind fun t346 => (laws_FnBatchTimes.j0 k t336 t339 (!t346))) else (laws_FnBatchTimes.j0 k t336 t339 true))))))
set_option maxHeartbeats 8000000 in
set_option maxRecDepth 100000 in
theorem laws_FnBatchTimes.calls (k : Nat) (A0 : Option Addr) (c0 : Nat) (l0 : List Int) (r : Bool) (w : World) (hr0 : Kd.C (Kd.int .u8) w A0 l0.length l0) (hc0 : l0.length ≤ c0) (h : laws_FnBatchTimes.f k l0 = some r) (hr_ : r = true) :
  Calls Try.prog 14 #[.slice A0 l0.length c0] w fun e w' => e = .returned (.bool r) ∧ Below w.heap.size w w' := by
 have hu36 := Try.underlying36
 have HR0 := Aside0.mk hr0
 have HC0 := Aside0.mk hc0
 clear hr0 hc0
 have HB := am (Below.refl w.heap.size w)
 have hq_ := Aside0.mk hr_
 clear hr_
 have H : (if (l0.length : Int) > 1048576 then (some true) else ((spec_DrawBatchTimes.f k l0).bind fun t336 => ((impl_BatchTimes.f k t336).bind fun t339 => ((spec_BatchTimes.f k t336).bind fun t342 => ((laws_lwTimes.f k t339 t342).bind fun t345 => (if t345 = true then ((spec_RowsOk.f k t336).bind fun t346 => (laws_FnBatchTimes.j0 k t336 t339 (!t346))) else (laws_FnBatchTimes.j0 k t336 t339 true))))))) = some r := h
 clear h
 by_cases c2 : (l0.length : Int) > 1048576
 ·rw [if_pos c2] at H
  have c2b0 : decide (1048576 < (l0.length : Int)) = true := decide_eq_true c2
  have c2b1 : decide (1048576 < l0.length) = true := decide_eq_true (by omega)
  clear c2
  obtain rfl := Option.some.inj H
  go_enter Try.func14, Try.ntmps14
  go_wp2
  go_ret
  exact ⟨Q34, Q35⟩
 ·rw [if_neg c2] at H
  have c2b0 : decide (1048576 < (l0.length : Int)) = false := decide_eq_false c2
  have c2b1 : decide (1048576 < l0.length) = false := decide_eq_false (by omega)
  clear c2
  replace H := Option.bind_eq_some_iff.mp H
  obtain ⟨t336, A30, H⟩ := H
  replace H : ((impl_BatchTimes.f k t336).bind fun t339 => ((spec_BatchTimes.f k t336).bind fun t342 => ((laws_lwTimes.f k t339 t342).bind fun t345 => (if t345 = true then ((spec_RowsOk.f k t336).bind fun t346 => (laws_FnBatchTimes.j0 k t336 t339 (!t346))) else (laws_FnBatchTimes.j0 k t336 t339 true))))) = some r := H
  have A3 := Aside0.mk A30
  clear A30
  replace H := Option.bind_eq_some_iff.mp H
  obtain ⟨t339, A40, H⟩ := H
  replace H : ((spec_BatchTimes.f k t336).bind fun t342 => ((laws_lwTimes.f k t339 t342).bind fun t345 => (if t345 = true then ((spec_RowsOk.f k t336).bind fun t346 => (laws_FnBatchTimes.j0 k t336 t339 (!t346))) else (laws_FnBatchTimes.j0 k t336 t339 true)))) = some r := H
  have A4 := Aside0.mk A40
  clear A40
  have HC5 := Aside0.mk H
  clear H
  go_enter Try.func14, Try.ntmps14
  go_upto_region 5 with (first | ((with_reducible refine gate_callee (f := 55) rfl ?_); refine goesL_ (some 12) rfl rfl Try.func55 Q1 rfl #[.slice A0 l0.length c0] rfl Q37 ?_; (with_reducible refine (spec_DrawBatchTimes.calls k _ _ l0 t336 _ ?side1 ?side2 A3.out).mono ?_); (case side1 => exact (by repeat (first | exact HR0.out | (with_reducible refine Kd.C_alloc ?_ _) | (with_reducible refine Kd.C_drewN ?_ _) | (with_reducible refine Kd.C_drew ?_)))); (case side2 => exact HC0.out); rintro e w6 ⟨v337, rfl, ho0, hb⟩; refine ⟨_, rfl, ?_⟩; have HO338 := am (Kd.R_lower ho0 (below_size Q35)); replace HB := am (below_step Q35 hb); (try clear hb ho0); obtain ⟨Ao7, co7, eo7⟩ := Kd.R_slice HO338.out; subst eo7) | ((with_reducible refine gate_callee (f := 52) rfl ?_); refine goesL_ (some 14) rfl rfl Try.func52 Q1 rfl #[.slice Ao7 t336.length co7] rfl Q37 ?_; (with_reducible refine (impl_BatchTimes.calls k _ _ t336 t339 _ ?side1 ?side2 A4.out).mono ?_); (case side1 => exact Q54); (case side2 => exact (Kd.R_reads' HO338.out).2.1); rintro e w8 ⟨v340, rfl, ho0, hb⟩; refine ⟨_, rfl, ?_⟩; replace HO338 := am (Kd.R_below Q19 hb); have HO341 := am (Kd.R_lower ho0 (below_size Q35)); replace HB := am (below_step Q35 hb); (try clear hb ho0)))
  (try simp only [Act.put, List.setIfInBounds_toArray, List.set_cons_zero, List.set_cons_succ])
  go_cut [24] (fun v24 wc => ∃ (kq : Nat) (x24_4 : Bool), v24 = .bool x24_4 ∧ Aside0 (laws_FnBatchTimes.j0 kq t336 t339 x24_4 = some r) ∧ Aside0 (kq ≤ k) ∧ Aside0 (Kd.R k90 90 wc w.heap.size (fun _ => True) (.slice Ao7 t336.length co7) t336) ∧ Aside0 (Kd.R k36 36 wc w.heap.size (fun _ => True) v340 t339) ∧ Aside0 (Below w.heap.size w wc))
  case first =>
   have H := HC5.out
   clear HC5
   replace H := Option.bind_eq_some_iff.mp H
   obtain ⟨t342, A90, H⟩ := H
   replace H : ((laws_lwTimes.f k t339 t342).bind fun t345 => (if t345 = true then ((spec_RowsOk.f k t336).bind fun t346 => (laws_FnBatchTimes.j0 k t336 t339 (!t346))) else (laws_FnBatchTimes.j0 k t336 t339 true))) = some r := H
   have A9 := Aside0.mk A90
   clear A90
   replace H := Option.bind_eq_some_iff.mp H
   obtain ⟨t345, A100, H⟩ := H
   replace H : (if t345 = true then ((spec_RowsOk.f k t336).bind fun t346 => (laws_FnBatchTimes.j0 k t336 t339 (!t346))) else (laws_FnBatchTimes.j0 k t336 t339 true)) = some r := H
   have A10 := Aside0.mk A100
   clear A100
   by_cases c11 : t345 = true
   ·subst c11
    have H1 : ((spec_RowsOk.f k t336).bind fun t346 => (laws_FnBatchTimes.j0 k t336 t339 (!t346))) = some r := by rw [if_pos rfl] at H; exact H
    clear H
    have H := H1
    clear H1
    replace H := Option.bind_eq_some_iff.mp H
    obtain ⟨t346, A120, H⟩ := H
    replace H : (laws_FnBatchTimes.j0 k t336 t339 (!t346)) = some r := H
    have A12 := Aside0.mk A120
    clear A120
    have H' := Aside0.mk H
    clear H
    go_wp2_with (first | ((with_reducible refine gate_callee (f := 50) rfl ?_); refine goesL_ (some 17) rfl rfl Try.func50 Q1 rfl #[.slice Ao7 t336.length co7] rfl Q37 ?_; (with_reducible refine (spec_BatchTimes.calls k _ _ t336 t342 _ ?side1 ?side2 A9.out).mono ?_); (case side1 => exact Q54); (case side2 => exact (Kd.R_reads' HO338.out).2.1); rintro e w13 ⟨v343, rfl, ho0, hb⟩; refine ⟨_, rfl, ?_⟩; replace HO338 := am (Kd.R_below Q19 hb); have HO344 := am (Kd.R_lower (Kd.R_new' ho0 (Kd.R_lt Q20)) (below_size Q35)); replace HO341 := am (Kd.R_elder' Q20 (Kd.R_base ho0) hb); replace HB := am (below_step Q35 hb); (try clear hb ho0); obtain ⟨Ao14, co14, eo14⟩ := Kd.R_slice HO341.out; subst eo14; obtain ⟨Ao15, co15, eo15⟩ := Kd.R_slice HO344.out; subst eo15) | ((with_reducible refine gate_callee (f := 25) rfl ?_); refine goesL_ (some 18) rfl rfl Try.func25 Q1 rfl #[.slice Ao14 t339.length co14, .slice Ao15 t342.length co15] rfl Q37 ?_; (with_reducible refine (laws_lwTimes.calls k _ _ t339 _ _ t342 true _ ?side1 ?side2 ?side3 ?side4 A10.out).mono ?_); (case side1 => exact (by repeat (first | exact (Kd.R_reads' HO341.out).2.2 | (with_reducible refine Kd.C_alloc ?_ _) | (with_reducible refine Kd.C_drewN ?_ _) | (with_reducible refine Kd.C_drew ?_)))); (case side2 => exact (Kd.R_reads' HO341.out).2.1); (case side3 => exact (by repeat (first | exact (Kd.R_reads' HO344.out).2.2 | (with_reducible refine Kd.C_alloc ?_ _) | (with_reducible refine Kd.C_drewN ?_ _) | (with_reducible refine Kd.C_drew ?_)))); (case side4 => exact (Kd.R_reads' HO344.out).2.1); rintro e w' ⟨rfl, ⟨nd, rfl⟩⟩; refine ⟨_, rfl, ?_⟩) | (go_at_call 56; (with_reducible refine (spec_RowsOk.calls k _ _ t336 t346 _ ?side1 ?side2 A12.out).mono ?_); (case side1 => exact Q54); (case side2 => exact (Kd.R_reads' HO338.out).2.1); rintro e w16 ⟨rfl, hb⟩; replace HO338 := am (Kd.R_below Q19 hb); replace HO341 := am (Kd.R_below Q20 hb); replace HO344 := am (Kd.R_below (by (with_reducible repeat (first | apply Kd.R_alloc | apply Kd.R_drewN | apply Kd.R_drew)); exact HO344.out) hb); replace HB := am (below_step Q35 hb); (try clear hb)))
    go_meet
    case rel => exact ⟨_, (!t346), Q4, H', ⟨Q3⟩, ⟨Q19⟩, ⟨by (with_reducible repeat (first | apply Kd.R_alloc | apply Kd.R_drewN | apply Kd.R_drew)); exact Kd.R_mono HO341.out (fun _ hk => trivial)⟩, ⟨Q35⟩⟩
   ·replace c11 := Bool.eq_false_iff.mpr c11
    subst c11
    have H1 : (laws_FnBatchTimes.j0 k t336 t339 true) = some r := by rw [if_neg (show ¬ (false = true) by decide)] at H; exact H
    clear H
    have H := H1
    clear H1
    have H' := Aside0.mk H
    clear H
    go_wp2_with (first | ((with_reducible refine gate_callee (f := 50) rfl ?_); refine goesL_ (some 17) rfl rfl Try.func50 Q1 rfl #[.slice Ao7 t336.length co7] rfl Q37 ?_; (with_reducible refine (spec_BatchTimes.calls k _ _ t336 t342 _ ?side1 ?side2 A9.out).mono ?_); (case side1 => exact Q54); (case side2 => exact (Kd.R_reads' HO338.out).2.1); rintro e w17 ⟨v343, rfl, ho0, hb⟩; refine ⟨_, rfl, ?_⟩; replace HO338 := am (Kd.R_below Q19 hb); have HO344 := am (Kd.R_lower (Kd.R_new' ho0 (Kd.R_lt Q20)) (below_size Q35)); replace HO341 := am (Kd.R_elder' Q20 (Kd.R_base ho0) hb); replace HB := am (below_step Q35 hb); (try clear hb ho0); obtain ⟨Ao18, co18, eo18⟩ := Kd.R_slice HO341.out; subst eo18; obtain ⟨Ao19, co19, eo19⟩ := Kd.R_slice HO344.out; subst eo19) | ((with_reducible refine gate_callee (f := 25) rfl ?_); refine goesL_ (some 18) rfl rfl Try.func25 Q1 rfl #[.slice Ao18 t339.length co18, .slice Ao19 t342.length co19] rfl Q37 ?_; (with_reducible refine (laws_lwTimes.calls k _ _ t339 _ _ t342 false _ ?side1 ?side2 ?side3 ?side4 A10.out).mono ?_); (case side1 => exact (by repeat (first | exact (Kd.R_reads' HO341.out).2.2 | (with_reducible refine Kd.C_alloc ?_ _) | (with_reducible refine Kd.C_drewN ?_ _) | (with_reducible refine Kd.C_drew ?_)))); (case side2 => exact (Kd.R_reads' HO341.out).2.1); (case side3 => exact (by repeat (first | exact (Kd.R_reads' HO344.out).2.2 | (with_reducible refine Kd.C_alloc ?_ _) | (with_reducible refine Kd.C_drewN ?_ _) | (with_reducible refine Kd.C_drew ?_)))); (case side4 => exact (Kd.R_reads' HO344.out).2.1); rintro e w' ⟨rfl, ⟨nd, rfl⟩⟩; refine ⟨_, rfl, ?_⟩))
    go_meet
    case rel => exact ⟨_, (true), Q4, H', ⟨Q3⟩, ⟨Q19⟩, ⟨by (with_reducible repeat (first | apply Kd.R_alloc | apply Kd.R_drewN | apply Kd.R_drew)); exact Kd.R_mono HO341.out (fun _ hk => trivial)⟩, ⟨Q35⟩⟩
  case rest =>
   clear HC5
   try clear c1
   try clear c2
   try clear c2b0
   try clear c2b1
   try clear p2
   try clear c5
   try clear c11
   try clear c14
   obtain ⟨kq, x24_4, rfl, HA, HJ4, HO_3, HO_4, HB⟩ := hcut
   cases kq with
   | zero => exact absurd HA.out (by simp [laws_FnBatchTimes.j0])
   | succ kj4 =>
    have H := HA.out
    clear HA
    simp only [laws_FnBatchTimes.j0] at H
    by_cases c20 : x24_4 = true
    ·subst c20
     have H1 : ((spec_BatchTimes.f kj4 t336).bind fun t347 => ((laws_lwTimes.f kj4 t339 t347).bind fun t350 => (some t350))) = some r := by rw [if_pos rfl] at H; exact H
     clear H
     have H := H1
     clear H1
     replace H := Option.bind_eq_some_iff.mp H
     obtain ⟨t347, A210, H⟩ := H
     replace H : ((laws_lwTimes.f kj4 t339 t347).bind fun t350 => (some t350)) = some r := H
     have A21 := Aside0.mk A210
     clear A210
     replace H := Option.bind_eq_some_iff.mp H
     obtain ⟨t350, A220, H⟩ := H
     replace H : (some t350) = some r := H
     have A22 := Aside0.mk A220
     clear A220
     obtain rfl := Option.some.inj H
     go_wp2_with (first | ((with_reducible refine gate_callee (f := 50) rfl ?_); refine goesL_ (some 27) rfl rfl Try.func50 Q1 rfl #[.slice Ao7 t336.length co7] rfl Q37 ?_; (with_reducible refine (spec_BatchTimes.calls kj4 _ _ t336 t347 _ ?side1 ?side2 A21.out).mono ?_); (case side1 => exact (by repeat (first | exact (Kd.R_reads' HO_3.out).2.2 | (with_reducible refine Kd.C_alloc ?_ _) | (with_reducible refine Kd.C_drewN ?_ _) | (with_reducible refine Kd.C_drew ?_)))); (case side2 => exact (Kd.R_reads' HO_3.out).2.1); rintro e w23 ⟨v348, rfl, ho0, hb⟩; refine ⟨_, rfl, ?_⟩; replace HO_3 := am (Kd.R_below Q12 hb); have HO349 := am (Kd.R_lower (Kd.R_new' ho0 (Kd.R_lt Q14)) (below_size Q35)); replace HO_4 := am (Kd.R_elder' Q14 (Kd.R_base ho0) hb); replace HB := am (below_step Q35 hb); (try clear hb ho0); obtain ⟨Ao24, co24, eo24⟩ := Kd.R_slice HO_4.out; subst eo24; obtain ⟨Ao25, co25, eo25⟩ := Kd.R_slice HO349.out; subst eo25) | ((with_reducible refine gate_callee (f := 25) rfl ?_); refine goesL_ (some 28) rfl rfl Try.func25 Q1 rfl #[.slice Ao24 t339.length co24, .slice Ao25 t347.length co25] rfl Q37 ?_; (with_reducible refine (laws_lwTimes.calls kj4 _ _ t339 _ _ t347 t350 _ ?side1 ?side2 ?side3 ?side4 A22.out).mono ?_); (case side1 => exact (by repeat (first | exact (Kd.R_reads' HO_4.out).2.2 | (with_reducible refine Kd.C_alloc ?_ _) | (with_reducible refine Kd.C_drewN ?_ _) | (with_reducible refine Kd.C_drew ?_)))); (case side2 => exact (Kd.R_reads' HO_4.out).2.1); (case side3 => exact (by repeat (first | exact (Kd.R_reads' HO349.out).2.2 | (with_reducible refine Kd.C_alloc ?_ _) | (with_reducible refine Kd.C_drewN ?_ _) | (with_reducible refine Kd.C_drew ?_)))); (case side4 => exact (Kd.R_reads' HO349.out).2.1); rintro e w' ⟨rfl, ⟨nd, rfl⟩⟩; refine ⟨_, rfl, ?_⟩))
     go_ret
     exact ⟨Q34, Q35⟩
    ·replace c20 := Bool.eq_false_iff.mpr c20
     subst c20
     have H1 : ((impl_FrontOf.f t339).bind fun t351 => ((laws_lwAll.f kj4).bind fun t354 => (laws_FnBatchTimes.l0 kj4 t336 t339 t351 t354 0))) = some r := by rw [if_neg (show ¬ (false = true) by decide)] at H; exact H
     clear H
     have H := H1
     clear H1
     replace H := Option.bind_eq_some_iff.mp H
     obtain ⟨t351, A260, H⟩ := H
     replace H : ((laws_lwAll.f kj4).bind fun t354 => (laws_FnBatchTimes.l0 kj4 t336 t339 t351 t354 0)) = some r := H
     have A26 := Aside0.mk A260
     clear A260
     replace H := Option.bind_eq_some_iff.mp H
     obtain ⟨t354, A270, H⟩ := H
     replace H : (laws_FnBatchTimes.l0 kj4 t336 t339 t351 t354 0) = some r := H
     have A27 := Aside0.mk A270
     clear A270
     have H' := Aside0.mk H
     clear H
     obtain ⟨Ao28, co28, eo28⟩ := Kd.R_slice HO_4.out
     subst eo28
     go_wp2_with (first | ((with_reducible refine gate_callee (f := 18) rfl ?_); refine goesL_ (some 30) rfl rfl Try.func18 Q1 rfl #[.slice Ao28 t339.length co28] rfl Q37 ?_; (with_reducible refine (impl_FrontOf.calls _ _ t339 t351 _ ?side1 ?side2 A26.out).mono ?_); (case side1 => exact (by repeat (first | exact (Kd.R_reads' HO_4.out).2.2 | (with_reducible refine Kd.C_alloc ?_ _) | (with_reducible refine Kd.C_drewN ?_ _) | (with_reducible refine Kd.C_drew ?_)))); (case side2 => exact (Kd.R_reads' HO_4.out).2.1); rintro e w29 ⟨v352, rfl, ho0, hb⟩; refine ⟨_, rfl, ?_⟩; replace HO_3 := am (Kd.R_below Q12 hb); have HO353 := am (Kd.R_lower (Kd.R_new' ho0 (Kd.R_lt Q14)) (below_size Q35)); replace HO_4 := am (Kd.R_elder' Q14 (Kd.R_base ho0) hb); replace HB := am (below_step Q35 hb); (try clear hb ho0)) | ((with_reducible refine gate_callee (f := 32) rfl ?_); refine goesL_ (some 31) rfl rfl Try.func32 Q1 rfl #[] rfl Q37 ?_; (with_reducible refine (laws_lwAll.calls kj4  t354 _ A27.out).mono ?_); rintro e w30 ⟨v355, rfl, ho0, hb⟩; refine ⟨_, rfl, ?_⟩; replace HO_3 := am (Kd.R_below Q12 hb); have HO356 := am (Kd.R_lower (Kd.R_new' (Kd.R_new' ho0 (Kd.R_lt Q14)) (Kd.R_lt (by (with_reducible repeat (first | apply Kd.R_alloc | apply Kd.R_drewN | apply Kd.R_drew)); exact HO353.out))) (below_size Q35)); replace HO_4 := am (Kd.R_elder' Q14 (Kd.R_base ho0) hb); replace HO353 := am (Kd.R_elder' (by (with_reducible repeat (first | apply Kd.R_alloc | apply Kd.R_drewN | apply Kd.R_drew)); exact HO353.out) (Kd.R_base ho0) hb); replace HB := am (below_step Q35 hb); (try clear hb ho0)))
     go_loopg [7] kj4 (fun kq v7 w' => ∃ (x7_2 : Int), v7 = .int .i64 x7_2 ∧ Aside0 (laws_FnBatchTimes.l0 kq t336 t339 t351 t354 x7_2 = some r) ∧ Aside0 (kq ≤ kj4) ∧ Aside0 (Kd.R k90 90 w' w.heap.size (fun _ => True) (.slice Ao7 t336.length co7) t336) ∧ Aside0 (Kd.R k36 36 w' w.heap.size (fun k_ => some k_ ≠ (v352 : Value).ownBlock ∧ some k_ ≠ (v355 : Value).ownBlock) (.slice Ao28 t339.length co28) t339) ∧ Aside0 (Kd.R k36 36 w' w.heap.size (fun k_ => some k_ ≠ ((.slice Ao28 t339.length co28) : Value).ownBlock ∧ some k_ ≠ (v355 : Value).ownBlock) v352 t351) ∧ Aside0 (Kd.R k36 36 w' w.heap.size (fun k_ => some k_ ≠ ((.slice Ao28 t339.length co28) : Value).ownBlock ∧ some k_ ≠ (v352 : Value).ownBlock) v355 t354) ∧ Aside0 (Below w.heap.size w w'))
     case atStart => exact ⟨(0), Q4, H', ⟨Nat.le_refl _⟩, ⟨Q12⟩, ⟨by (with_reducible repeat (first | apply Kd.R_alloc | apply Kd.R_drewN | apply Kd.R_drew)); exact Kd.R_mono HO_4.out (fun _ hk => ⟨hk.1.2, hk.2⟩)⟩, ⟨by (with_reducible repeat (first | apply Kd.R_alloc | apply Kd.R_drewN | apply Kd.R_drew)); exact Kd.R_mono HO353.out (fun _ hk => ⟨hk.1.2, hk.2⟩)⟩, ⟨by (with_reducible repeat (first | apply Kd.R_alloc | apply Kd.R_drewN | apply Kd.R_drew)); exact Kd.R_mono HO356.out (fun _ hk => ⟨hk.1.2, hk.2⟩)⟩, ⟨Q35⟩⟩
     case round =>
      clear H'
      try clear c1
      try clear c2
      try clear c2b0
      try clear c2b1
      try clear p2
      try clear c3
      try clear c5
      try clear c11
      try clear c14
      try clear c18
      try clear c20
      try clear c25
      try clear p2
      obtain ⟨x7_2, rfl, HA, HK2, HO_3, HO_4, HO_5, HO_6, HB⟩ := hrel
      cases gk with
      | zero => exact absurd HA.out (by simp [laws_FnBatchTimes.l0])
      | succ k2 =>
       have H := HA.out
       clear HA
       simp only [laws_FnBatchTimes.l0] at H
       by_cases c31 : x7_2 < (t354.length : Int)
       ·rw [if_pos c31] at H
        have c31b0 : decide (x7_2 < (t354.length : Int)) = true := decide_eq_true c31
        clear c31
        have c32 : 0 ≤ x7_2 := nn_ H
        rw [if_pos c32] at H
        have c32b0 : decide (0 ≤ x7_2) = true := decide_eq_true c32
        clear c32
        replace H := Option.bind_eq_some_iff.mp H
        obtain ⟨t358, A330, H⟩ := H
        replace H : (if t358 = true then (laws_FnBatchTimes.l0 k2 t336 t339 t351 t354 (wrap64 (x7_2 + 1))) else ((impl_BatchAt.f k2 t336 ((rd_T36 t354 x7_2).f0) ((rd_T36 t354 x7_2).f1)).bind fun t360 => (if (t360.length : Int) > 0 then (some false) else (laws_FnBatchTimes.l0 k2 t336 t339 t351 t354 (wrap64 (x7_2 + 1)))))) = some r := H
        have A33 := Aside0.mk A330
        clear A330
        by_cases c34 : t358 = true
        ·subst c34
         have H1 : (laws_FnBatchTimes.l0 k2 t336 t339 t351 t354 (wrap64 (x7_2 + 1))) = some r := by rw [if_pos rfl] at H; exact H
         clear H
         have H := H1
         clear H1
         have H' := Aside0.mk H
         clear H
         obtain ⟨Ao35, co35, eo35⟩ := Kd.R_slice HO_6.out
         subst eo35
         have p357 : 0 ≤ (x7_2 : Int) := of_decide_eq_true Q5
         have q357 : x7_2 < (t354.length : Int) := of_decide_eq_true Q5
         obtain ⟨ad357, e357, hx357_0, hx357_1⟩ := at_T36 (Kd.R_reads' HO_6.out).2.2 x7_2 p357 q357
         cases e357
         replace p357 := eq_true p357
         replace q357 := eq_true q357
         obtain ⟨Ao36, co36, eo36⟩ := Kd.R_slice HO_5.out
         subst eo36
         go_wp2_with (first | ((with_reducible refine gate_callee (f := 27) rfl ?_); refine goesL_ (some 43) rfl rfl Try.func27 Q1 rfl #[.slice Ao36 t351.length co36, .agg #[.int .i64 ((rd_T36 t354 x7_2).f0), .int .i64 ((rd_T36 t354 x7_2).f1)]] rfl Q37 ?_; (with_reducible refine (impl_FrontCovers.calls k2 _ _ t351 ((rd_T36 t354 x7_2).f0) ((rd_T36 t354 x7_2).f1) true _ ?side1 ?side2 A33.out).mono ?_); (case side1 => exact Q52); (case side2 => exact (Kd.R_reads' HO_5.out).2.1); rintro e w37 ⟨rfl, hb⟩; refine ⟨_, rfl, ?_⟩; replace HO_3 := am (Kd.R_below Q12 hb); replace HO_4 := am (Kd.R_below Q14 hb); replace HO_5 := am (Kd.R_below Q13 hb); replace HO_6 := am (Kd.R_below Q15 hb); replace HB := am (below_step Q35 hb); (try clear hb)))
         go_roundg k2
         case measure => have := HJ4.out; have := HK2.out; omega
         case rel => exact ⟨(wrap64 (x7_2 + 1)), Q4, H', ⟨by have := HJ4.out; have := HK2.out; omega⟩, ⟨Q12⟩, ⟨Q14⟩, ⟨Q13⟩, ⟨Q15⟩, ⟨Q35⟩⟩
        ·replace c34 := Bool.eq_false_iff.mpr c34
         subst c34
         have H1 : ((impl_BatchAt.f k2 t336 ((rd_T36 t354 x7_2).f0) ((rd_T36 t354 x7_2).f1)).bind fun t360 => (if (t360.length : Int) > 0 then (some false) else (laws_FnBatchTimes.l0 k2 t336 t339 t351 t354 (wrap64 (x7_2 + 1))))) = some r := by rw [if_neg (show ¬ (false = true) by decide)] at H; exact H
         clear H
         have H := H1
         clear H1
         replace H := Option.bind_eq_some_iff.mp H
         obtain ⟨t360, A380, H⟩ := H
         replace H : (if (t360.length : Int) > 0 then (some false) else (laws_FnBatchTimes.l0 k2 t336 t339 t351 t354 (wrap64 (x7_2 + 1)))) = some r := H
         have A38 := Aside0.mk A380
         clear A380
         by_cases c39 : (t360.length : Int) > 0
         ·rw [if_pos c39] at H
          have c39b0 : decide (0 < (t360.length : Int)) = true := decide_eq_true c39
          have c39b1 : decide (0 < t360.length) = true := decide_eq_true (by omega)
          clear c39
          exact absurd ((Option.some.inj H).trans hq_.out) Q0
         ·rw [if_neg c39] at H
          have c39b0 : decide (0 < (t360.length : Int)) = false := decide_eq_false c39
          have c39b1 : decide (0 < t360.length) = false := decide_eq_false (by omega)
          clear c39
          have H' := Aside0.mk H
          clear H
          obtain ⟨Ao40, co40, eo40⟩ := Kd.R_slice HO_6.out
          subst eo40
          have p357 : 0 ≤ (x7_2 : Int) := of_decide_eq_true Q5
          have q357 : x7_2 < (t354.length : Int) := of_decide_eq_true Q5
          obtain ⟨ad357, e357, hx357_0, hx357_1⟩ := at_T36 (Kd.R_reads' HO_6.out).2.2 x7_2 p357 q357
          cases e357
          replace p357 := eq_true p357
          replace q357 := eq_true q357
          obtain ⟨Ao41, co41, eo41⟩ := Kd.R_slice HO_5.out
          subst eo41
          go_wp2_with (first | ((with_reducible refine gate_callee (f := 27) rfl ?_); refine goesL_ (some 43) rfl rfl Try.func27 Q1 rfl #[.slice Ao41 t351.length co41, .agg #[.int .i64 ((rd_T36 t354 x7_2).f0), .int .i64 ((rd_T36 t354 x7_2).f1)]] rfl Q37 ?_; (with_reducible refine (impl_FrontCovers.calls k2 _ _ t351 ((rd_T36 t354 x7_2).f0) ((rd_T36 t354 x7_2).f1) false _ ?side1 ?side2 A33.out).mono ?_); (case side1 => exact Q52); (case side2 => exact (Kd.R_reads' HO_5.out).2.1); rintro e w42 ⟨rfl, hb⟩; refine ⟨_, rfl, ?_⟩; replace HO_3 := am (Kd.R_below Q12 hb); replace HO_4 := am (Kd.R_below Q14 hb); replace HO_5 := am (Kd.R_below Q13 hb); replace HO_6 := am (Kd.R_below Q15 hb); replace HB := am (below_step Q35 hb); (try clear hb); have p359 : 0 ≤ (x7_2 : Int) := of_decide_eq_true Q5; have q359 : x7_2 < (t354.length : Int) := of_decide_eq_true Q5; obtain ⟨ad359, e359, hx359_0, hx359_1⟩ := at_T36 (Kd.R_reads' HO_6.out).2.2 x7_2 p359 q359; obtain rfl : ad357 = ad359 := (by injection e359); replace p359 := eq_true p359; replace q359 := eq_true q359) | (go_at_call 57; (with_reducible refine (impl_BatchAt.calls k2 _ _ t336 ((rd_T36 t354 x7_2).f0) ((rd_T36 t354 x7_2).f1) t360 _ ?side1 ?side2 A38.out).mono ?_); (case side1 => exact (by repeat (first | exact (Kd.R_reads' HO_3.out).2.2 | (with_reducible refine Kd.C_alloc ?_ _) | (with_reducible refine Kd.C_drewN ?_ _) | (with_reducible refine Kd.C_drew ?_)))); (case side2 => exact (Kd.R_reads' HO_3.out).2.1); rintro e w43 ⟨v361, rfl, ho0, hb⟩; replace HO_3 := am (Kd.R_below Q12 hb); replace HO_4 := am (Kd.R_below Q14 hb); replace HO_5 := am (Kd.R_below Q13 hb); replace HO_6 := am (Kd.R_below Q15 hb); have HO362 := am (Kd.R_lower ho0 (below_size Q35)); replace HB := am (below_step Q35 hb); (try clear hb ho0); obtain ⟨Ao44, co44, eo44⟩ := Kd.R_slice HO362.out; subst eo44))
          go_roundg k2
          case measure => have := HJ4.out; have := HK2.out; omega
          case rel => exact ⟨(wrap64 (x7_2 + 1)), Q4, H', ⟨by have := HJ4.out; have := HK2.out; omega⟩, ⟨Q12⟩, ⟨Q14⟩, ⟨Q13⟩, ⟨Q15⟩, ⟨Q35⟩⟩
       ·rw [if_neg c31] at H
        have c31b0 : decide (x7_2 < (t354.length : Int)) = false := decide_eq_false c31
        clear c31
        obtain rfl := Option.some.inj H
        obtain ⟨Ao45, co45, eo45⟩ := Kd.R_slice HO_6.out
        subst eo45
        go_wp2
        go_ret
        exact ⟨Q34, Q35⟩
def laws_FnBatchTimes.Pure : Prop := ∀ (l0 : List Int), l0.length ≤ maxLen → l0.length * 1 ≤ 140737488351232 → (∀ x ∈ l0, (Lit.int .u8 x).wf = true) → ∃ k, laws_FnBatchTimes.f k l0 = some true
end Go.Proofs.Ytpggfdjnebccnaa.PFnBatchTimes
