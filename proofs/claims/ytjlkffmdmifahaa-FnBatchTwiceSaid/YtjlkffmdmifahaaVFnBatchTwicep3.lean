/- Functions that the law comes to: each as a plain Lean function, with the contract of the Go function. -/
import Derived.Test.YtjlkffmdmifahaaVFnBatchTwicew
import Derived.Test.YtjlkffmdmifahaaVFnBatchTwicep0
import Derived.Test.YtjlkffmdmifahaaVFnBatchTwicep1
import Derived.Test.YtjlkffmdmifahaaVFnBatchTwicep2
namespace Go.Proofs.Ytjlkffmdmifahaa.PFnBatchTwice
open Go.RowKit Go.Proofs.YtjlkffmdmifahaaW.PrintWords Go.Proofs.YtjlkffmdmifahaaW.PrintLast Go.Proofs.YtjlkffmdmifahaaW.PrintMore
attribute [local go_sem] max2_int min2_int max_two min_two max_three min_three max_four min_four
set_option linter.unusedVariables false
set_option linter.unusedSimpArgs false
attribute [local go_sem high] eqA38
set_option maxHeartbeats 8000000 in
set_option maxRecDepth 100000 in
theorem spec_l71Rows.calls (k : Nat) (g : Nat) (s0_0 : List Int) (s0_1 : Int) (a1 : Int) (r1 : List (S38)) (r2 : Int) (w0 w : World) (hI : IsS87 w0 w g s0_0 s0_1) (hB : Below w0.heap.size w0 w) (h : spec_l71Rows.f k s0_0 s0_1 a1 = some (r1, r2)) :
  Calls Try.prog 80 #[.pointer (some ⟨g, 0, none⟩), .int .i64 a1] w fun e w' => ∃ v0_ : Value, e = .returned (v0_) ∧ Kd.R k38 38 w' w.heap.size (fun _ => True) v0_ r1 ∧ IsS87 w0 w' g s0_0 r2 ∧ Below w0.heap.size w0 w' ∧ KeepBut w w' g none := by
 have hu38 := Try.underlying38
 have HI0 := Aside0.mk hI
 have HK := Aside0.mk (KeepBut.refl w g none)
 have HL := Aside0.mk hB.size
 clear hI
 have HW0 := Aside0.mk hB.size
 have HB := Aside0.mk hB
 clear hB
 have H : ((spec_l6Rd_pick.f k s0_0 s0_1 (wrap64 (a1 + 1))).bind fun bt250 => (spec_l71Rows.l0 k (([] : List (S38))) bt250.1 s0_0 bt250.2)) = some (r1, r2) := h
 clear h
 obtain ⟨y247, hy_⟩ : ∃ y_ : List (S38), y_ = (([] : List (S38))) := ⟨_, rfl⟩
 replace H : ((spec_l6Rd_pick.f k s0_0 s0_1 (wrap64 (a1 + 1))).bind fun bt250 => (spec_l71Rows.l0 k y247 bt250.1 s0_0 bt250.2)) = some (r1, r2) := Q77
 have Ny247 := Aside0.mk hy_
 clear hy_
 replace H := Option.bind_eq_some_iff.mp H
 obtain ⟨⟨t250, t251⟩, A30, H⟩ := H
 replace H : (spec_l71Rows.l0 k y247 t250 s0_0 t251) = some (r1, r2) := H
 have A3 := Aside0.mk A30
 clear A30
 have H' := Aside0.mk H
 clear H
 go_enter Try.func80, Try.ntmps80
 go_wp2_with (first | ((with_reducible refine gate_dst (N := 9) rfl ?_); refine Kd.R_lit k38 _ 38 ?hg (N := 9) ?hd (xs := ([] : List (S38))) (inner := []) (ok := fun _ => True) (okp := fun _ => True) ?hr ?hp (fun _ hk => hk) trivial (Below.refl _ _) (Nat.le_refl _) Q0 ?_; (case hd => rfl); (case hg => rfl); (case hr => first | (go_simp; done) | (go_simp; rfl)); (case hp => exact (Reps.none _ _)); intro v248 w4 ho5 hb hg_ hnew_; clear hg_ hnew_; (first | rw [← Ny247.out] at ho5 | (simp only [Int.reduceToNat] at ho5; rw [← Ny247.out] at ho5)); have n0_ := Aside0.mk (Kd.R_lower ho5 (keep_size (w := w) (g := g) (row := none) Q39)); have n1_ := Aside0.mk (IsS87.below Q40 hb); have n2_ := Aside0.mk (KeepBut.trans Q39 (KeepBut.of_below hb g none) (.inl rfl)); have n3_ := Aside0.mk (below_step Q55 hb); clear HI0; clear HK; clear HB; have HO249 := n0_; have HI0 := n1_; have HK := n2_; have HB := n3_; clear n0_ n1_ n2_ n3_; clear hb ho5) | ((with_reducible refine gate_callee (f := 68) rfl ?_); refine goesL_ (some 13) rfl rfl Try.func68 Q2 rfl #[.pointer (some ⟨g, 0, none⟩), .int .i64 (wrap64 (a1 + 1))] rfl Q37 ?_; (with_reducible refine (spec_l6Rd_pick.calls k g s0_0 s0_1 (wrap64 (a1 + 1)) t250 t251 w0 _ ?side1 ?side2 A3.out).mono ?_); (case side1 => exact Q40); (case side2 => exact Q55); rintro e w6 ⟨rfl, hi, hb, hk⟩; refine ⟨_, rfl, ?_⟩; have n0_ := Aside0.mk (Kd.R_mono (Kd.R_keep (IsS87.apart (show IsS87 w0 _ g s0_0 s0_1 from by repeat (first | (with_reducible first | exact HI0.out | apply IsS87.alloc | apply IsS87.drewN | apply IsS87.drew | apply IsS87.set_1) | exact HI0.out)) (by (with_reducible repeat (first | apply Kd.R_alloc | apply Kd.R_drewN | apply Kd.R_drew)); exact HO249.out) Q1) hk (fun _ h => h.2)) (fun _ h => h.1)); have n1_ := Aside0.mk (KeepBut.trans Q39 hk (.inl rfl)); have n2_ := Aside0.mk (hb); have n3_ := Aside0.mk (hi); clear HO249; clear HK; clear HB; clear HI0; have HO249 := n0_; have HK := n1_; have HB := n2_; have HI0 := n3_; clear n0_ n1_ n2_ n3_; (try clear hb); (try clear hb2); (try clear hk); (try clear hi)))
 go_loopg [5, 6] k (fun kq v5 v6 w' => ∃ (x5_1 : List (S38)) (x6_1 : Int) (x1001_1 : Int), v6 = .int .i64 x6_1 ∧ Aside0 (spec_l71Rows.l0 kq x5_1 x6_1 s0_0 x1001_1 = some (r1, r2)) ∧ Aside0 (kq ≤ k) ∧ Aside0 (Kd.R k38 38 w' w.heap.size (fun _ => True) v5 x5_1) ∧ Aside0 (IsS87 w0 w' g s0_0 x1001_1) ∧ Aside0 (KeepBut w w' g none) ∧ Aside0 (Below w0.heap.size w0 w'))
 case atStart => exact ⟨(y247), (t250), (t251), Q6, H', ⟨Nat.le_refl _⟩, ⟨by (with_reducible repeat (first | apply Kd.R_alloc | apply Kd.R_drewN | apply Kd.R_drew)); exact HO249.out⟩, ⟨Q40⟩, ⟨Q39⟩, ⟨Q55⟩⟩
 case round =>
  clear H'
  try clear p2
  try clear c6
  try clear p6
  obtain ⟨x5_1, x6_1, x1001_1, rfl, HA, HK1, HO_5, HI0, HK, HB⟩ := hrel
  cases gk with
  | zero => exact absurd HA.out (by simp [spec_l71Rows.l0])
  | succ k1 =>
   have H := HA.out
   clear HA
   simp only [spec_l71Rows.l0] at H
   by_cases c7 : x6_1 > 0
   ·rw [if_pos c7] at H
    have c7b0 : decide (0 < x6_1) = true := decide_eq_true c7
    clear c7
    replace H := Option.bind_eq_some_iff.mp H
    obtain ⟨⟨t252, t253, t254, t255, t256, t257⟩, A80, H⟩ := H
    replace H : (if (x5_1.length : Int) > 0 then ((spec_l6Rd_pick.f k1 s0_0 t257 3).bind fun bt259 => (spec_l71Rows.j1 k1 x5_1 x6_1 (bt259.1 == 0) s0_0 bt259.2 t252 t253 t254 t255 t256)) else (spec_l71Rows.j1 k1 x5_1 x6_1 false s0_0 t257 t252 t253 t254 t255 t256)) = some (r1, r2) := H
    have A8 := Aside0.mk A80
    clear A80
    have HC9 := Aside0.mk H
    clear H
    go_upto_region 6 with (first | ((with_reducible refine gate_callee (f := 70) rfl ?_); refine goesL_ (some 19) rfl rfl Try.func70 Q2 rfl #[.pointer (some ⟨g, 0, none⟩)] rfl Q37 ?_; (with_reducible refine (spec_l71Row.calls k1 g s0_0 x1001_1 t252 t253 t254 t255 t256 t257 w0 _ ?side1 ?side2 A8.out).mono ?_); (case side1 => exact Q40); (case side2 => exact Q55); rintro e w10 ⟨rfl, hi, hb, hk⟩; refine ⟨_, rfl, ?_⟩; have n0_ := Aside0.mk (Kd.R_mono (Kd.R_keep (IsS87.apart (show IsS87 w0 _ g s0_0 x1001_1 from by repeat (first | (with_reducible first | exact HI0.out | apply IsS87.alloc | apply IsS87.drewN | apply IsS87.drew | apply IsS87.set_1) | exact HI0.out)) Q12 Q1) hk (fun _ h => h.2)) (fun _ h => h.1)); have n1_ := Aside0.mk (KeepBut.trans Q39 hk (.inl rfl)); have n2_ := Aside0.mk (hb); have n3_ := Aside0.mk (hi); clear HO_5; clear HK; clear HB; clear HI0; have HO_5 := n0_; have HK := n1_; have HB := n2_; have HI0 := n3_; clear n0_ n1_ n2_ n3_; (try clear hb); (try clear hb2); (try clear hk); (try clear hi)) | ((with_reducible refine gate_dst (N := 7) rfl ?_); refine box_event ?hg (N := 7) ?hd (cs := #[.int .i64 0, .int .i64 0, .int .i64 0, .int .i64 0, .int .i64 0]) (t := 38) ?hr ?_; (case hd => rfl); (case hg => rfl); (case hr => first | (go_simp; done) | (go_simp; rfl)); intro gb258 hg w11 hbox hb; have n0_ := Aside0.mk (Kd.R_below (Kd.R_elderB Q12 gb258 (Nat.le_of_eq hg.symm)) hb); have n1_ := Aside0.mk (IsS87.below Q40 hb); have n2_ := Aside0.mk (KeepBut.trans Q39 (KeepBut.of_below hb g none) (.inl rfl)); have n3_ := Aside0.mk (below_step Q55 hb); have n4_ := Aside0.mk (hbox); have n5_ := Aside0.mk ((Q86 : w.heap.size ≤ gb258)); have n6_ := Aside0.mk ((Nat.le_trans HW0.out (Q86 : w.heap.size ≤ gb258) : w0.heap.size ≤ gb258)); have n7_ := Aside0.mk ((by rw [hg]; exact Nat.ne_of_lt (IsS87.lt (show IsS87 w0 _ g s0_0 t257 from by repeat (first | (with_reducible first | exact HI0.out | apply IsS87.alloc | apply IsS87.drewN | apply IsS87.drew | apply IsS87.set_1) | exact HI0.out))) : g ≠ gb258)); have n8_ := Aside0.mk ((by rw [hg]; exact Nat.ne_of_gt (IsS87.lt (show IsS87 w0 _ g s0_0 t257 from by repeat (first | (with_reducible first | exact HI0.out | apply IsS87.alloc | apply IsS87.drewN | apply IsS87.drew | apply IsS87.set_1) | exact HI0.out))) : gb258 ≠ g)); clear HO_5; clear HI0; clear HK; clear HB; have HO_5 := n0_; have HI0 := n1_; have HK := n2_; have HB := n3_; have BK258 := n4_; have GW258 := n5_; have GE258 := n6_; have NB0_258 := n7_; have NB258_0 := n8_; clear n0_ n1_ n2_ n3_ n4_ n5_ n6_ n7_ n8_; clear hb hbox hg; have hnb12 := NB258_0.out; have hnc12 := NB0_258.out; obtain ⟨hcz13_0, hcz13_1, hcz13_2, hcz13_3, hcz13_4, hfz13_0, hfz13_1, hfz13_2, hfz13_3, hfz13_4⟩ := bx5_ BK258))
    (try simp only [Act.put, List.setIfInBounds_toArray, List.set_cons_zero, List.set_cons_succ])
    go_cut [27] (fun v27 wc => ∃ (kq : Nat) (x27_8 : Bool) (x1001_8 : Int), v27 = .bool x27_8 ∧ Aside0 (spec_l71Rows.j1 kq x5_1 x6_1 x27_8 s0_0 x1001_8 t252 t253 t254 t255 t256 = some (r1, r2)) ∧ Aside0 (kq ≤ k1) ∧ Aside0 (Kd.R k38 38 wc w.heap.size (fun k_ => k_ ≠ gb258) u5 x5_1) ∧ Aside0 (wc.heap[gb258]? = some (.cells #[.int .i64 t252, .int .i64 t253, .int .i64 t254, .int .i64 t255, .int .i64 t256] 38 (0, 0))) ∧ Aside0 (IsS87 w0 wc g s0_0 x1001_8) ∧ Aside0 (KeepBut w wc g none) ∧ Aside0 (Below w0.heap.size w0 wc))
    case first =>
     have H := HC9.out
     clear HC9
     by_cases c14 : (x5_1.length : Int) > 0
     ·rw [if_pos c14] at H
      have c14b0 : decide (0 < (x5_1.length : Int)) = true := decide_eq_true c14
      have c14b1 : decide (0 < x5_1.length) = true := decide_eq_true (by omega)
      clear c14
      (first | rw [c14b0] | (simp only [i64_w, i32_w]; rw [c14b0]) | skip)
      replace H := Option.bind_eq_some_iff.mp H
      obtain ⟨⟨t259, t260⟩, A150, H⟩ := H
      replace H : (spec_l71Rows.j1 k1 x5_1 x6_1 (t259 == 0) s0_0 t260 t252 t253 t254 t255 t256) = some (r1, r2) := H
      have A15 := Aside0.mk A150
      clear A150
      have H' := Aside0.mk H
      clear H
      obtain ⟨Ao16, co16, eo16⟩ := Kd.R_slice HO_5.out
      subst eo16
      go_wp2_with (first | (go_at_call 68; (with_reducible refine (spec_l6Rd_pick.calls k1 g s0_0 t257 3 t259 t260 w0 _ ?side1 ?side2 A15.out).mono ?_); (case side1 => exact Q65); (case side2 => exact Q72); rintro e w17 ⟨rfl, hi, hb, hk⟩; have n0_ := Aside0.mk (Kd.R_mono (Kd.R_keep (IsS87.apart (show IsS87 w0 _ g s0_0 t257 from by repeat (first | (with_reducible first | exact HI0.out | apply IsS87.alloc | apply IsS87.drewN | apply IsS87.drew | apply IsS87.set_1 | refine IsS87.far ?_ NB0_258.out _) | exact HI0.out)) (by (with_reducible repeat (first | apply Kd.R_alloc | apply Kd.R_drewN | apply Kd.R_drew)); exact (Kd.R_mono (Kd.R_far (p := ⟨gb258, 4, none⟩) (Kd.R_far (p := ⟨gb258, 3, none⟩) (Kd.R_far (p := ⟨gb258, 2, none⟩) (Kd.R_far (p := ⟨gb258, 1, none⟩) (Kd.R_far (p := ⟨gb258, 0, none⟩) (Kd.R_mono HO_5.out (fun k_ hk => (⟨hk, hk.2⟩ : _ ∧ k_ ≠ gb258))) (fun _ hk => hk.2) (.int .i64 t252)) (fun _ hk => hk.2) (.int .i64 t253)) (fun _ hk => hk.2) (.int .i64 t254)) (fun _ hk => hk.2) (.int .i64 t255)) (fun _ hk => hk.2) (.int .i64 t256)) (fun _ h_ => h_.1))) Q1) hk (fun _ h => h.2)) (fun _ h => h.1)); have n1_ := Aside0.mk (KeepBut.blk hk (g' := gb258) (o := .cells #[.int .i64 t252, .int .i64 t253, .int .i64 t254, .int .i64 t255, .int .i64 t256] 38 (0, 0)) (by (with_reducible repeat (first | refine blk_drewN ?_ _ | refine blk_drew ?_ | refine blk_alloc ?_ _)); refine blk_put (cs := #[.int .i64 t252, .int .i64 t253, .int .i64 t254, .int .i64 t255, .int .i64 0]) ?_ 4 _ rfl; (with_reducible repeat (first | refine blk_drewN ?_ _ | refine blk_drew ?_ | refine blk_alloc ?_ _)); refine blk_put (cs := #[.int .i64 t252, .int .i64 t253, .int .i64 t254, .int .i64 0, .int .i64 0]) ?_ 3 _ rfl; (with_reducible repeat (first | refine blk_drewN ?_ _ | refine blk_drew ?_ | refine blk_alloc ?_ _)); refine blk_put (cs := #[.int .i64 t252, .int .i64 t253, .int .i64 0, .int .i64 0, .int .i64 0]) ?_ 2 _ rfl; (with_reducible repeat (first | refine blk_drewN ?_ _ | refine blk_drew ?_ | refine blk_alloc ?_ _)); refine blk_put (cs := #[.int .i64 t252, .int .i64 0, .int .i64 0, .int .i64 0, .int .i64 0]) ?_ 1 _ rfl; (with_reducible repeat (first | refine blk_drewN ?_ _ | refine blk_drew ?_ | refine blk_alloc ?_ _)); refine blk_put (cs := #[.int .i64 0, .int .i64 0, .int .i64 0, .int .i64 0, .int .i64 0]) ?_ 0 _ rfl; (with_reducible repeat (first | refine blk_drewN ?_ _ | refine blk_drew ?_ | refine blk_alloc ?_ _)); exact BK258.out) NB258_0.out Q0); have n2_ := Aside0.mk (KeepBut.trans Q61 hk (.inl rfl)); have n3_ := Aside0.mk (hb); have n4_ := Aside0.mk (hi); clear HO_5; clear BK258; clear HK; clear HB; clear HI0; have HO_5 := n0_; have BK258 := n1_; have HK := n2_; have HB := n3_; have HI0 := n4_; clear n0_ n1_ n2_ n3_ n4_; (try clear hb); (try clear hb2); (try clear hk); (try clear hi)))
      go_meet
      case rel => exact ⟨_, ((t259 == 0)), (t260), Q6, H', ⟨Q8⟩, ⟨by (with_reducible repeat (first | apply Kd.R_alloc | apply Kd.R_drewN | apply Kd.R_drew)); exact Kd.R_mono HO_5.out (fun _ hk => hk.2)⟩, ⟨Q31⟩, ⟨Q65⟩, ⟨Q61⟩, ⟨Q72⟩⟩
     ·rw [if_neg c14] at H
      have c14b0 : decide (0 < (x5_1.length : Int)) = false := decide_eq_false c14
      have c14b1 : decide (0 < x5_1.length) = false := decide_eq_false (by omega)
      clear c14
      (first | rw [c14b0] | (simp only [i64_w, i32_w]; rw [c14b0]) | skip)
      have H' := Aside0.mk H
      clear H
      obtain ⟨Ao18, co18, eo18⟩ := Kd.R_slice HO_5.out
      subst eo18
      go_wp2
      go_meet
      case rel => exact ⟨_, (false), (t257), Q6, H', ⟨Q8⟩, ⟨by (with_reducible repeat (first | apply Kd.R_alloc | apply Kd.R_drewN | apply Kd.R_drew)); exact Kd.R_mono (Kd.R_far (p := ⟨gb258, 4, none⟩) (Kd.R_far (p := ⟨gb258, 3, none⟩) (Kd.R_far (p := ⟨gb258, 2, none⟩) (Kd.R_far (p := ⟨gb258, 1, none⟩) (Kd.R_far (p := ⟨gb258, 0, none⟩) (Kd.R_mono HO_5.out (fun k_ hk => (⟨hk, hk.2⟩ : _ ∧ k_ ≠ gb258))) (fun _ hk => hk.2) (.int .i64 t252)) (fun _ hk => hk.2) (.int .i64 t253)) (fun _ hk => hk.2) (.int .i64 t254)) (fun _ hk => hk.2) (.int .i64 t255)) (fun _ hk => hk.2) (.int .i64 t256)) (fun _ hk => hk.1.2)⟩, ⟨by (with_reducible repeat (first | refine blk_drewN ?_ _ | refine blk_drew ?_ | refine blk_alloc ?_ _)); refine blk_put (cs := #[.int .i64 t252, .int .i64 t253, .int .i64 t254, .int .i64 t255, .int .i64 0]) ?_ 4 _ rfl; (with_reducible repeat (first | refine blk_drewN ?_ _ | refine blk_drew ?_ | refine blk_alloc ?_ _)); refine blk_put (cs := #[.int .i64 t252, .int .i64 t253, .int .i64 t254, .int .i64 0, .int .i64 0]) ?_ 3 _ rfl; (with_reducible repeat (first | refine blk_drewN ?_ _ | refine blk_drew ?_ | refine blk_alloc ?_ _)); refine blk_put (cs := #[.int .i64 t252, .int .i64 t253, .int .i64 0, .int .i64 0, .int .i64 0]) ?_ 2 _ rfl; (with_reducible repeat (first | refine blk_drewN ?_ _ | refine blk_drew ?_ | refine blk_alloc ?_ _)); refine blk_put (cs := #[.int .i64 t252, .int .i64 0, .int .i64 0, .int .i64 0, .int .i64 0]) ?_ 1 _ rfl; (with_reducible repeat (first | refine blk_drewN ?_ _ | refine blk_drew ?_ | refine blk_alloc ?_ _)); refine blk_put (cs := #[.int .i64 0, .int .i64 0, .int .i64 0, .int .i64 0, .int .i64 0]) ?_ 0 _ rfl; (with_reducible repeat (first | refine blk_drewN ?_ _ | refine blk_drew ?_ | refine blk_alloc ?_ _)); exact BK258.out⟩, ⟨Q65⟩, ⟨Q61⟩, ⟨Q72⟩⟩
    case rest =>
     clear HC9
     try clear c1
     try clear p2
     try clear c6
     try clear p6
     try clear c7
     try clear c7b0
     try clear c8
     try clear c12
     try clear c14
     try clear c14b0
     try clear c14b1
     try clear hcz13_0
     try clear hcz13_1
     try clear hcz13_2
     try clear hcz13_3
     try clear hcz13_4
     try clear hfz13_0
     try clear hfz13_1
     try clear hfz13_2
     try clear hfz13_3
     try clear hfz13_4
     try clear p2
     try clear p6
     obtain ⟨kq, x27_8, x1001_8, rfl, HA, HJ8, HO_5, BK258, HI0, HK, HB⟩ := hcut
     cases kq with
     | zero => exact absurd HA.out (by simp [spec_l71Rows.j1])
     | succ kj8 =>
      have H := HA.out
      clear HA
      simp only [spec_l71Rows.j1] at H
      by_cases c19 : x27_8 = true
      ·subst c19
       have H1 : ((spec_l6Rd_pick.f kj8 s0_0 x1001_8 (x5_1.length : Int)).bind fun bt261 => (if 0 ≤ bt261.1 then (if bt261.1 < (x5_1.length : Int) then ((spec_l6Rd_pick.f kj8 s0_0 bt261.2 2).bind fun bt265 => (if bt265.1 = 0 then (if x5_1.length < 3518437208883 then (spec_l71Rows.l0 kj8 (x5_1 ++ [(⟨(rd_T38 x5_1 bt261.1).f0, (rd_T38 x5_1 bt261.1).f1, (⟨t254, t255⟩ : S36), wrap64 (-((rd_T38 x5_1 bt261.1).f3))⟩ : S38)]) (wrap64 (x6_1 - 1)) s0_0 bt265.2) else (none)) else (if x5_1.length < 3518437208883 then (spec_l71Rows.l0 kj8 (x5_1 ++ [(⟨(rd_T38 x5_1 bt261.1).f0, (rd_T38 x5_1 bt261.1).f1, (⟨t254, t255⟩ : S36), t256⟩ : S38)]) (wrap64 (x6_1 - 1)) s0_0 bt265.2) else (none)))) else (none)) else (none))) = some (r1, r2) := by rw [if_pos rfl] at H; exact H
       clear H
       have H := H1
       clear H1
       replace H := Option.bind_eq_some_iff.mp H
       obtain ⟨⟨t261, t262⟩, A200, H⟩ := H
       replace H : (if 0 ≤ t261 then (if t261 < (x5_1.length : Int) then ((spec_l6Rd_pick.f kj8 s0_0 t262 2).bind fun bt265 => (if bt265.1 = 0 then (if x5_1.length < 3518437208883 then (spec_l71Rows.l0 kj8 (x5_1 ++ [(⟨(rd_T38 x5_1 t261).f0, (rd_T38 x5_1 t261).f1, (⟨t254, t255⟩ : S36), wrap64 (-((rd_T38 x5_1 t261).f3))⟩ : S38)]) (wrap64 (x6_1 - 1)) s0_0 bt265.2) else (none)) else (if x5_1.length < 3518437208883 then (spec_l71Rows.l0 kj8 (x5_1 ++ [(⟨(rd_T38 x5_1 t261).f0, (rd_T38 x5_1 t261).f1, (⟨t254, t255⟩ : S36), t256⟩ : S38)]) (wrap64 (x6_1 - 1)) s0_0 bt265.2) else (none)))) else (none)) else (none)) = some (r1, r2) := H
       have A20 := Aside0.mk A200
       clear A200
       by_cases c21 : 0 ≤ t261
       ·rw [if_pos c21] at H
        have c21b0 : decide (0 ≤ t261) = true := decide_eq_true c21
        clear c21
        by_cases c22 : t261 < (x5_1.length : Int)
        ·rw [if_pos c22] at H
         have c22b0 : decide (t261 < (x5_1.length : Int)) = true := decide_eq_true c22
         clear c22
         replace H := Option.bind_eq_some_iff.mp H
         obtain ⟨⟨t265, t266⟩, A230, H⟩ := H
         replace H : (if t265 = 0 then (if x5_1.length < 3518437208883 then (spec_l71Rows.l0 kj8 (x5_1 ++ [(⟨(rd_T38 x5_1 t261).f0, (rd_T38 x5_1 t261).f1, (⟨t254, t255⟩ : S36), wrap64 (-((rd_T38 x5_1 t261).f3))⟩ : S38)]) (wrap64 (x6_1 - 1)) s0_0 t266) else (none)) else (if x5_1.length < 3518437208883 then (spec_l71Rows.l0 kj8 (x5_1 ++ [(⟨(rd_T38 x5_1 t261).f0, (rd_T38 x5_1 t261).f1, (⟨t254, t255⟩ : S36), t256⟩ : S38)]) (wrap64 (x6_1 - 1)) s0_0 t266) else (none))) = some (r1, r2) := H
         have A23 := Aside0.mk A230
         clear A230
         by_cases c24 : t265 = 0
         ·rw [if_pos c24] at H
          have c24b0 : (t265 == 0) = true := beq_iff_eq.mpr c24
          have c24b1 : (t265 != 0) = false := bne_eq_false_iff_eq.mpr c24
          clear c24
          by_cases c25 : x5_1.length < 3518437208883
          ·rw [if_pos c25] at H
           have LMc25 := Aside0.mk c25
           clear c25
           obtain ⟨y267, hy_⟩ : ∃ y_ : List (S38), y_ = (x5_1 ++ [(⟨(rd_T38 x5_1 t261).f0, (rd_T38 x5_1 t261).f1, (⟨t254, t255⟩ : S36), wrap64 (-((rd_T38 x5_1 t261).f3))⟩ : S38)]) := ⟨_, rfl⟩
           replace H : (spec_l71Rows.l0 kj8 y267 (wrap64 (x6_1 - 1)) s0_0 t266) = some (r1, r2) := Q77
           have Ny267 := Aside0.mk hy_
           clear hy_
           have H' := Aside0.mk H
           clear H
           obtain ⟨Ao26, co26, eo26⟩ := Kd.R_slice HO_5.out
           subst eo26
           go_wp2_with (first | ((with_reducible refine gate_callee (f := 68) rfl ?_); refine goesL_ (some 32) rfl rfl Try.func68 Q2 rfl #[.pointer (some ⟨g, 0, none⟩), .int .i64 (x5_1.length : Int)] rfl Q37 ?_; (with_reducible refine (spec_l6Rd_pick.calls kj8 g s0_0 x1001_8 (x5_1.length : Int) t261 t262 w0 _ ?side1 ?side2 A20.out).mono ?_); (case side1 => exact Q65); (case side2 => exact Q72); rintro e w27 ⟨rfl, hi, hb, hk⟩; refine ⟨_, rfl, ?_⟩; have n0_ := Aside0.mk (Kd.R_mono (Kd.R_keep (IsS87.apart (show IsS87 w0 _ g s0_0 x1001_8 from by repeat (first | (with_reducible first | exact HI0.out | apply IsS87.alloc | apply IsS87.drewN | apply IsS87.drew | apply IsS87.set_1 | refine IsS87.far ?_ NB0_258.out _) | exact HI0.out)) Q12 Q1) hk (fun _ h => h.2)) (fun _ h => h.1)); have n1_ := Aside0.mk (KeepBut.blk hk (g' := gb258) (o := .cells #[.int .i64 t252, .int .i64 t253, .int .i64 t254, .int .i64 t255, .int .i64 t256] 38 (0, 0)) Q31 NB258_0.out Q0); have n2_ := Aside0.mk (KeepBut.trans Q61 hk (.inl rfl)); have n3_ := Aside0.mk (hb); have n4_ := Aside0.mk (hi); clear HO_5; clear BK258; clear HK; clear HB; clear HI0; have HO_5 := n0_; have BK258 := n1_; have HK := n2_; have HB := n3_; have HI0 := n4_; clear n0_ n1_ n2_ n3_ n4_; (try clear hb); (try clear hb2); (try clear hk); (try clear hi); have p263 : 0 ≤ (t261 : Int) := of_decide_eq_true Q7; have q263 : t261 < (x5_1.length : Int) := of_decide_eq_true Q7; obtain ⟨ad263, e263, hx263_0, hx263_1, hx263_2, hx263_3, hx263_4⟩ := at_T38 (Kd.R_reads' HO_5.out).2.2 t261 p263 q263; cases e263; replace p263 := eq_true p263; replace q263 := eq_true q263) | ((with_reducible refine gate_dst (N := 8) rfl ?_); refine box_event ?hg (N := 8) ?hd (cs := #[.int .i64 0, .int .i64 0, .int .i64 0, .int .i64 0, .int .i64 0]) (t := 38) ?hr ?_; (case hd => rfl); (case hg => rfl); (case hr => first | (go_simp; done) | (go_simp; rfl)); intro gb264 hg w28 hbox hb; have n0_ := Aside0.mk (Kd.R_below (Kd.R_elderB Q12 gb264 (Nat.le_of_eq hg.symm)) hb); have n1_ := Aside0.mk (blk_below (g := gb258) (o := .cells #[.int .i64 t252, .int .i64 t253, .int .i64 t254, .int .i64 t255, .int .i64 t256] 38 (0, 0)) Q31 hb); have n2_ := Aside0.mk (IsS87.below Q65 hb); have n3_ := Aside0.mk (KeepBut.trans Q61 (KeepBut.of_below hb g none) (.inl rfl)); have n4_ := Aside0.mk (below_step Q72 hb); have n5_ := Aside0.mk (hbox); have n6_ := Aside0.mk ((Q87 : w.heap.size ≤ gb264)); have n7_ := Aside0.mk ((Nat.le_trans HW0.out (Q87 : w.heap.size ≤ gb264) : w0.heap.size ≤ gb264)); have n8_ := Aside0.mk ((by rw [hg]; exact Nat.ne_of_lt (blk_lt (g := gb258) (o := .cells #[.int .i64 t252, .int .i64 t253, .int .i64 t254, .int .i64 t255, .int .i64 t256] 38 (0, 0)) Q31) : gb258 ≠ gb264)); have n9_ := Aside0.mk ((by rw [hg]; exact Nat.ne_of_gt (blk_lt (g := gb258) (o := .cells #[.int .i64 t252, .int .i64 t253, .int .i64 t254, .int .i64 t255, .int .i64 t256] 38 (0, 0)) Q31) : gb264 ≠ gb258)); have n10_ := Aside0.mk ((by rw [hg]; exact Nat.ne_of_lt (IsS87.lt (show IsS87 w0 _ g s0_0 t262 from by repeat (first | (with_reducible first | exact HI0.out | apply IsS87.alloc | apply IsS87.drewN | apply IsS87.drew | apply IsS87.set_1 | refine IsS87.far ?_ NB0_258.out _) | exact HI0.out))) : g ≠ gb264)); have n11_ := Aside0.mk ((by rw [hg]; exact Nat.ne_of_gt (IsS87.lt (show IsS87 w0 _ g s0_0 t262 from by repeat (first | (with_reducible first | exact HI0.out | apply IsS87.alloc | apply IsS87.drewN | apply IsS87.drew | apply IsS87.set_1 | refine IsS87.far ?_ NB0_258.out _) | exact HI0.out))) : gb264 ≠ g)); clear HO_5; clear BK258; clear HI0; clear HK; clear HB; have HO_5 := n0_; have BK258 := n1_; have HI0 := n2_; have HK := n3_; have HB := n4_; have BK264 := n5_; have GW264 := n6_; have GE264 := n7_; have NB258_264 := n8_; have NB264_258 := n9_; have NB0_264 := n10_; have NB264_0 := n11_; clear n0_ n1_ n2_ n3_ n4_ n5_ n6_ n7_ n8_ n9_ n10_ n11_; clear hb hbox hg; have hnb29 := NB264_258.out; have hnc29 := NB258_264.out; have hnb30 := NB264_0.out; have hnc30 := NB0_264.out; obtain ⟨hcz31_0, hcz31_1, hcz31_2, hcz31_3, hcz31_4, hfz31_0, hfz31_1, hfz31_2, hfz31_3, hfz31_4⟩ := bx5_ BK264; have hnb32 := NB258_0.out; have hnc32 := NB0_258.out; obtain ⟨hcz33_0, hcz33_1, hcz33_2, hcz33_3, hcz33_4, hfz33_0, hfz33_1, hfz33_2, hfz33_3, hfz33_4⟩ := bx5_ BK258) | ((with_reducible refine gate_callee (f := 68) rfl ?_); refine goesL_ (some 42) rfl rfl Try.func68 Q2 rfl #[.pointer (some ⟨g, 0, none⟩), .int .i64 2] rfl Q37 ?_; (with_reducible refine (spec_l6Rd_pick.calls kj8 g s0_0 t262 2 t265 t266 w0 _ ?side1 ?side2 A23.out).mono ?_); (case side1 => exact Q75); (case side2 => exact Q76); rintro e w34 ⟨rfl, hi, hb, hk⟩; refine ⟨_, rfl, ?_⟩; have n0_ := Aside0.mk (Kd.R_mono (Kd.R_keep (IsS87.apart (show IsS87 w0 _ g s0_0 t262 from by repeat (first | (with_reducible first | exact HI0.out | apply IsS87.alloc | apply IsS87.drewN | apply IsS87.drew | apply IsS87.set_1 | refine IsS87.far ?_ NB0_258.out _ | refine IsS87.far ?_ NB0_264.out _) | exact HI0.out)) (by (with_reducible repeat (first | apply Kd.R_alloc | apply Kd.R_drewN | apply Kd.R_drew)); exact (Kd.R_mono (Kd.R_mono (Kd.R_far (p := ⟨gb258, 1, none⟩) (Kd.R_far (p := ⟨gb258, 0, none⟩) (Kd.R_far (p := ⟨gb264, 4, none⟩) (Kd.R_far (p := ⟨gb264, 3, none⟩) (Kd.R_far (p := ⟨gb264, 2, none⟩) (Kd.R_far (p := ⟨gb264, 1, none⟩) (Kd.R_far (p := ⟨gb264, 0, none⟩) (Kd.R_mono (Kd.R_mono HO_5.out (fun k_ hk => (⟨hk, hk.2⟩ : _ ∧ k_ ≠ gb264))) (fun k_ hk => (⟨hk, hk.1.1⟩ : _ ∧ k_ ≠ gb258))) (fun _ hk => hk.1.2) (.int .i64 ((rd_T38 x5_1 t261).f0))) (fun _ hk => hk.1.2) (.int .i64 ((rd_T38 x5_1 t261).f1))) (fun _ hk => hk.1.2) (.int .i64 ((rd_T38 x5_1 t261).f2.f0))) (fun _ hk => hk.1.2) (.int .i64 ((rd_T38 x5_1 t261).f2.f1))) (fun _ hk => hk.1.2) (.int .i64 ((rd_T38 x5_1 t261).f3))) (fun _ hk => hk.2) (.int .i64 ((rd_T38 x5_1 t261).f0))) (fun _ hk => hk.2) (.int .i64 ((rd_T38 x5_1 t261).f1))) (fun _ h_ => h_.1)) (fun _ h_ => h_.1))) Q1) hk (fun _ h => h.2)) (fun _ h => h.1)); have n1_ := Aside0.mk (KeepBut.blk hk (g' := gb258) (o := .cells #[.int .i64 ((rd_T38 x5_1 t261).f0), .int .i64 ((rd_T38 x5_1 t261).f1), .int .i64 t254, .int .i64 t255, .int .i64 t256] 38 (0, 0)) (by (with_reducible repeat (first | refine blk_drewN ?_ _ | refine blk_drew ?_ | refine blk_alloc ?_ _)); refine blk_put (cs := #[.int .i64 ((rd_T38 x5_1 t261).f0), .int .i64 t253, .int .i64 t254, .int .i64 t255, .int .i64 t256]) ?_ 1 _ rfl; (with_reducible repeat (first | refine blk_drewN ?_ _ | refine blk_drew ?_ | refine blk_alloc ?_ _)); refine blk_put (cs := #[.int .i64 t252, .int .i64 t253, .int .i64 t254, .int .i64 t255, .int .i64 t256]) ?_ 0 _ rfl; (with_reducible repeat (first | refine blk_drewN ?_ _ | refine blk_drew ?_ | refine blk_alloc ?_ _)); refine blk_far ?_ NB258_264.out _; (with_reducible repeat (first | refine blk_drewN ?_ _ | refine blk_drew ?_ | refine blk_alloc ?_ _)); refine blk_far ?_ NB258_264.out _; (with_reducible repeat (first | refine blk_drewN ?_ _ | refine blk_drew ?_ | refine blk_alloc ?_ _)); refine blk_far ?_ NB258_264.out _; (with_reducible repeat (first | refine blk_drewN ?_ _ | refine blk_drew ?_ | refine blk_alloc ?_ _)); refine blk_far ?_ NB258_264.out _; (with_reducible repeat (first | refine blk_drewN ?_ _ | refine blk_drew ?_ | refine blk_alloc ?_ _)); refine blk_far ?_ NB258_264.out _; (with_reducible repeat (first | refine blk_drewN ?_ _ | refine blk_drew ?_ | refine blk_alloc ?_ _)); exact BK258.out) NB258_0.out Q0); have n2_ := Aside0.mk (KeepBut.blk hk (g' := gb264) (o := .cells #[.int .i64 ((rd_T38 x5_1 t261).f0), .int .i64 ((rd_T38 x5_1 t261).f1), .int .i64 ((rd_T38 x5_1 t261).f2.f0), .int .i64 ((rd_T38 x5_1 t261).f2.f1), .int .i64 ((rd_T38 x5_1 t261).f3)] 38 (0, 0)) (by (with_reducible repeat (first | refine blk_drewN ?_ _ | refine blk_drew ?_ | refine blk_alloc ?_ _)); refine blk_far ?_ NB264_258.out _; (with_reducible repeat (first | refine blk_drewN ?_ _ | refine blk_drew ?_ | refine blk_alloc ?_ _)); refine blk_far ?_ NB264_258.out _; (with_reducible repeat (first | refine blk_drewN ?_ _ | refine blk_drew ?_ | refine blk_alloc ?_ _)); refine blk_put (cs := #[.int .i64 ((rd_T38 x5_1 t261).f0), .int .i64 ((rd_T38 x5_1 t261).f1), .int .i64 ((rd_T38 x5_1 t261).f2.f0), .int .i64 ((rd_T38 x5_1 t261).f2.f1), .int .i64 0]) ?_ 4 _ rfl; (with_reducible repeat (first | refine blk_drewN ?_ _ | refine blk_drew ?_ | refine blk_alloc ?_ _)); refine blk_put (cs := #[.int .i64 ((rd_T38 x5_1 t261).f0), .int .i64 ((rd_T38 x5_1 t261).f1), .int .i64 ((rd_T38 x5_1 t261).f2.f0), .int .i64 0, .int .i64 0]) ?_ 3 _ rfl; (with_reducible repeat (first | refine blk_drewN ?_ _ | refine blk_drew ?_ | refine blk_alloc ?_ _)); refine blk_put (cs := #[.int .i64 ((rd_T38 x5_1 t261).f0), .int .i64 ((rd_T38 x5_1 t261).f1), .int .i64 0, .int .i64 0, .int .i64 0]) ?_ 2 _ rfl; (with_reducible repeat (first | refine blk_drewN ?_ _ | refine blk_drew ?_ | refine blk_alloc ?_ _)); refine blk_put (cs := #[.int .i64 ((rd_T38 x5_1 t261).f0), .int .i64 0, .int .i64 0, .int .i64 0, .int .i64 0]) ?_ 1 _ rfl; (with_reducible repeat (first | refine blk_drewN ?_ _ | refine blk_drew ?_ | refine blk_alloc ?_ _)); refine blk_put (cs := #[.int .i64 0, .int .i64 0, .int .i64 0, .int .i64 0, .int .i64 0]) ?_ 0 _ rfl; (with_reducible repeat (first | refine blk_drewN ?_ _ | refine blk_drew ?_ | refine blk_alloc ?_ _)); exact BK264.out) NB264_0.out Q0); have n3_ := Aside0.mk (KeepBut.trans Q74 hk (.inl rfl)); have n4_ := Aside0.mk (hb); have n5_ := Aside0.mk (hi); clear HO_5; clear BK258; clear BK264; clear HK; clear HB; clear HI0; have HO_5 := n0_; have BK258 := n1_; have BK264 := n2_; have HK := n3_; have HB := n4_; have HI0 := n5_; clear n0_ n1_ n2_ n3_ n4_ n5_; (try clear hb); (try clear hb2); (try clear hk); (try clear hi); obtain ⟨hcz35_0, hcz35_1, hcz35_2, hcz35_3, hcz35_4, hfz35_0, hfz35_1, hfz35_2, hfz35_3, hfz35_4⟩ := bx5_ BK264; obtain ⟨hcz36_0, hcz36_1, hcz36_2, hcz36_3, hcz36_4, hfz36_0, hfz36_1, hfz36_2, hfz36_3, hfz36_4⟩ := bx5_ BK258) | ((with_reducible refine gate_builtin (b := .append) (xs := #[.tmp 48, .tmp 50]) rfl ?_); at_builtin; refine Kd.R_append k38 w.heap.size rfl (.tmp 48) (.tmp 50) 23 38 (.agg #[(.int .i64 0), (.int .i64 0), (.int .i64 0), (.int .i64 0), (.int .i64 0)]) 40 rfl Try.underlying23 info38 rfl Q1 (by omega) (.slice (some ad263) x5_1.length co26) x5_1 (⟨(rd_T38 x5_1 t261).f0, (rd_T38 x5_1 t261).f1, (⟨t254, t255⟩ : S36), wrap64 (-((rd_T38 x5_1 t261).f3))⟩ : S38) [.int .i64 ((rd_T38 x5_1 t261).f0), .int .i64 ((rd_T38 x5_1 t261).f1), .int .i64 t254, .int .i64 t255, .int .i64 (wrap64 (-((rd_T38 x5_1 t261).f3)))] (fun k_ => k_ ≠ gb258 ∧ k_ ≠ gb264) (fun _ => False) rfl (by first | (go_simp; done) | (go_simp; rfl)) ?aP (fun _ hk => hk.elim) ?aF ?aO (Below.refl _ _) ?aS ?aL ?_; (case aP => exact k38_mkM _ _ _ (⟨(rd_T38 x5_1 t261).f0, (rd_T38 x5_1 t261).f1, (⟨t254, t255⟩ : S36), wrap64 (-((rd_T38 x5_1 t261).f3))⟩ : S38)); (case aF => exact (fun k_ hk => ⟨Kd.freshB (g := gb258) (o := .cells #[.int .i64 ((rd_T38 x5_1 t261).f0), .int .i64 ((rd_T38 x5_1 t261).f1), .int .i64 t254, .int .i64 t255, .int .i64 (wrap64 (-((rd_T38 x5_1 t261).f3)))] 38 (0, 0)) (by (with_reducible repeat (first | refine blk_drewN ?_ _ | refine blk_drew ?_ | refine blk_alloc ?_ _)); refine blk_put (cs := #[.int .i64 ((rd_T38 x5_1 t261).f0), .int .i64 ((rd_T38 x5_1 t261).f1), .int .i64 t254, .int .i64 t255, .int .i64 t256]) ?_ 4 _ rfl; (with_reducible repeat (first | refine blk_drewN ?_ _ | refine blk_drew ?_ | refine blk_alloc ?_ _)); exact BK258.out) k_ hk, Kd.freshB (g := gb264) (o := .cells #[.int .i64 ((rd_T38 x5_1 t261).f0), .int .i64 ((rd_T38 x5_1 t261).f1), .int .i64 ((rd_T38 x5_1 t261).f2.f0), .int .i64 ((rd_T38 x5_1 t261).f2.f1), .int .i64 ((rd_T38 x5_1 t261).f3)] 38 (0, 0)) (by (with_reducible repeat (first | refine blk_drewN ?_ _ | refine blk_drew ?_ | refine blk_alloc ?_ _)); refine blk_far ?_ NB264_258.out _; (with_reducible repeat (first | refine blk_drewN ?_ _ | refine blk_drew ?_ | refine blk_alloc ?_ _)); exact BK264.out) k_ hk⟩)); (case aO => exact (by (with_reducible repeat (first | apply Kd.R_alloc | apply Kd.R_drewN | apply Kd.R_drew)); exact Kd.R_mono (Kd.R_far (p := ⟨gb258, 4, none⟩) (Kd.R_mono HO_5.out (fun k_ hk => (⟨hk, hk.1⟩ : _ ∧ k_ ≠ gb258))) (fun _ hk => hk.2) (.int .i64 (wrap64 (-((rd_T38 x5_1 t261).f3))))) (fun _ hk => ⟨hk.1.1, hk.1.2⟩))); (case aS => exact (keep_size (w := w) (g := g) (row := none) Q74)); (case aL => have := LMc25.out; omega); intro v268 w37 ho hb hg hat; rw [← Ny267.out] at ho; have n0_ := Aside0.mk (blk_grown (g := gb258) (o := .cells #[.int .i64 ((rd_T38 x5_1 t261).f0), .int .i64 ((rd_T38 x5_1 t261).f1), .int .i64 t254, .int .i64 t255, .int .i64 (wrap64 (-((rd_T38 x5_1 t261).f3)))] 38 (0, 0)) (by (with_reducible repeat (first | refine blk_drewN ?_ _ | refine blk_drew ?_ | refine blk_alloc ?_ _)); refine blk_put (cs := #[.int .i64 ((rd_T38 x5_1 t261).f0), .int .i64 ((rd_T38 x5_1 t261).f1), .int .i64 t254, .int .i64 t255, .int .i64 t256]) ?_ 4 _ rfl; (with_reducible repeat (first | refine blk_drewN ?_ _ | refine blk_drew ?_ | refine blk_alloc ?_ _)); exact BK258.out) hg (Kd.R_away HO_5.out (fun _ hk => hk.1))); have n1_ := Aside0.mk (IsS87.grown (show IsS87 w0 _ g s0_0 t266 from by repeat (first | (with_reducible first | exact HI0.out | apply IsS87.alloc | apply IsS87.drewN | apply IsS87.drew | apply IsS87.set_1 | refine IsS87.far ?_ NB0_258.out _ | refine IsS87.far ?_ NB0_264.out _) | exact HI0.out)) hg (IsS87.own_ne HI0.out HO_5.out Q1)); have n2_ := Aside0.mk (blk_grown (g := gb264) (o := .cells #[.int .i64 ((rd_T38 x5_1 t261).f0), .int .i64 ((rd_T38 x5_1 t261).f1), .int .i64 ((rd_T38 x5_1 t261).f2.f0), .int .i64 ((rd_T38 x5_1 t261).f2.f1), .int .i64 ((rd_T38 x5_1 t261).f3)] 38 (0, 0)) (by (with_reducible repeat (first | refine blk_drewN ?_ _ | refine blk_drew ?_ | refine blk_alloc ?_ _)); refine blk_far ?_ NB264_258.out _; (with_reducible repeat (first | refine blk_drewN ?_ _ | refine blk_drew ?_ | refine blk_alloc ?_ _)); exact BK264.out) hg (Kd.R_away HO_5.out (fun _ hk => hk.2))); have n3_ := Aside0.mk (below_weaken Q76 HL.out hb); have n4_ := Aside0.mk (KeepBut.trans Q74 (KeepBut.of_grown hg g) (Kd.R_base2 HO_5.out)); have n5_ := Aside0.mk (ho); clear BK258; clear HI0; clear BK264; clear HB; clear HK; clear HO_5; have BK258 := n0_; have HI0 := n1_; have BK264 := n2_; have HB := n3_; have HK := n4_; have HO269 := n5_; clear n0_ n1_ n2_ n3_ n4_ n5_; clear ho hb hg hat))
           go_roundg kj8
           case measure => have := HK1.out; have := HJ8.out; omega
           case rel => exact ⟨(y267), (wrap64 (x6_1 - 1)), (t266), Q6, H', ⟨Q5⟩, ⟨by (with_reducible repeat (first | apply Kd.R_alloc | apply Kd.R_drewN | apply Kd.R_drew)); exact Kd.R_mono HO269.out (fun _ hk => trivial)⟩, ⟨Q75⟩, ⟨Q74⟩, ⟨Q76⟩⟩
          ·rw [if_neg c25] at H
           exact absurd H Q0
         ·rw [if_neg c24] at H
          have c24b0 : (t265 == 0) = false := beq_eq_false_iff_ne.mpr c24
          have c24b1 : (t265 != 0) = true := bne_iff_ne.mpr c24
          by_cases c38 : x5_1.length < 3518437208883
          ·rw [if_pos c38] at H
           have LMc38 := Aside0.mk c38
           clear c38
           obtain ⟨y270, hy_⟩ : ∃ y_ : List (S38), y_ = (x5_1 ++ [(⟨(rd_T38 x5_1 t261).f0, (rd_T38 x5_1 t261).f1, (⟨t254, t255⟩ : S36), t256⟩ : S38)]) := ⟨_, rfl⟩
           replace H : (spec_l71Rows.l0 kj8 y270 (wrap64 (x6_1 - 1)) s0_0 t266) = some (r1, r2) := Q77
           have Ny270 := Aside0.mk hy_
           clear hy_
           have H' := Aside0.mk H
           clear H
           obtain ⟨Ao39, co39, eo39⟩ := Kd.R_slice HO_5.out
           subst eo39
           go_wp2_with (first | ((with_reducible refine gate_callee (f := 68) rfl ?_); refine goesL_ (some 32) rfl rfl Try.func68 Q2 rfl #[.pointer (some ⟨g, 0, none⟩), .int .i64 (x5_1.length : Int)] rfl Q37 ?_; (with_reducible refine (spec_l6Rd_pick.calls kj8 g s0_0 x1001_8 (x5_1.length : Int) t261 t262 w0 _ ?side1 ?side2 A20.out).mono ?_); (case side1 => exact Q65); (case side2 => exact Q72); rintro e w40 ⟨rfl, hi, hb, hk⟩; refine ⟨_, rfl, ?_⟩; have n0_ := Aside0.mk (Kd.R_mono (Kd.R_keep (IsS87.apart (show IsS87 w0 _ g s0_0 x1001_8 from by repeat (first | (with_reducible first | exact HI0.out | apply IsS87.alloc | apply IsS87.drewN | apply IsS87.drew | apply IsS87.set_1 | refine IsS87.far ?_ NB0_258.out _) | exact HI0.out)) Q12 Q1) hk (fun _ h => h.2)) (fun _ h => h.1)); have n1_ := Aside0.mk (KeepBut.blk hk (g' := gb258) (o := .cells #[.int .i64 t252, .int .i64 t253, .int .i64 t254, .int .i64 t255, .int .i64 t256] 38 (0, 0)) Q31 NB258_0.out Q0); have n2_ := Aside0.mk (KeepBut.trans Q61 hk (.inl rfl)); have n3_ := Aside0.mk (hb); have n4_ := Aside0.mk (hi); clear HO_5; clear BK258; clear HK; clear HB; clear HI0; have HO_5 := n0_; have BK258 := n1_; have HK := n2_; have HB := n3_; have HI0 := n4_; clear n0_ n1_ n2_ n3_ n4_; (try clear hb); (try clear hb2); (try clear hk); (try clear hi); have p263 : 0 ≤ (t261 : Int) := of_decide_eq_true Q7; have q263 : t261 < (x5_1.length : Int) := of_decide_eq_true Q7; obtain ⟨ad263, e263, hx263_0, hx263_1, hx263_2, hx263_3, hx263_4⟩ := at_T38 (Kd.R_reads' HO_5.out).2.2 t261 p263 q263; cases e263; replace p263 := eq_true p263; replace q263 := eq_true q263) | ((with_reducible refine gate_dst (N := 8) rfl ?_); refine box_event ?hg (N := 8) ?hd (cs := #[.int .i64 0, .int .i64 0, .int .i64 0, .int .i64 0, .int .i64 0]) (t := 38) ?hr ?_; (case hd => rfl); (case hg => rfl); (case hr => first | (go_simp; done) | (go_simp; rfl)); intro gb264 hg w41 hbox hb; have n0_ := Aside0.mk (Kd.R_below (Kd.R_elderB Q12 gb264 (Nat.le_of_eq hg.symm)) hb); have n1_ := Aside0.mk (blk_below (g := gb258) (o := .cells #[.int .i64 t252, .int .i64 t253, .int .i64 t254, .int .i64 t255, .int .i64 t256] 38 (0, 0)) Q31 hb); have n2_ := Aside0.mk (IsS87.below Q65 hb); have n3_ := Aside0.mk (KeepBut.trans Q61 (KeepBut.of_below hb g none) (.inl rfl)); have n4_ := Aside0.mk (below_step Q72 hb); have n5_ := Aside0.mk (hbox); have n6_ := Aside0.mk ((Q87 : w.heap.size ≤ gb264)); have n7_ := Aside0.mk ((Nat.le_trans HW0.out (Q87 : w.heap.size ≤ gb264) : w0.heap.size ≤ gb264)); have n8_ := Aside0.mk ((by rw [hg]; exact Nat.ne_of_lt (blk_lt (g := gb258) (o := .cells #[.int .i64 t252, .int .i64 t253, .int .i64 t254, .int .i64 t255, .int .i64 t256] 38 (0, 0)) Q31) : gb258 ≠ gb264)); have n9_ := Aside0.mk ((by rw [hg]; exact Nat.ne_of_gt (blk_lt (g := gb258) (o := .cells #[.int .i64 t252, .int .i64 t253, .int .i64 t254, .int .i64 t255, .int .i64 t256] 38 (0, 0)) Q31) : gb264 ≠ gb258)); have n10_ := Aside0.mk ((by rw [hg]; exact Nat.ne_of_lt (IsS87.lt (show IsS87 w0 _ g s0_0 t262 from by repeat (first | (with_reducible first | exact HI0.out | apply IsS87.alloc | apply IsS87.drewN | apply IsS87.drew | apply IsS87.set_1 | refine IsS87.far ?_ NB0_258.out _) | exact HI0.out))) : g ≠ gb264)); have n11_ := Aside0.mk ((by rw [hg]; exact Nat.ne_of_gt (IsS87.lt (show IsS87 w0 _ g s0_0 t262 from by repeat (first | (with_reducible first | exact HI0.out | apply IsS87.alloc | apply IsS87.drewN | apply IsS87.drew | apply IsS87.set_1 | refine IsS87.far ?_ NB0_258.out _) | exact HI0.out))) : gb264 ≠ g)); clear HO_5; clear BK258; clear HI0; clear HK; clear HB; have HO_5 := n0_; have BK258 := n1_; have HI0 := n2_; have HK := n3_; have HB := n4_; have BK264 := n5_; have GW264 := n6_; have GE264 := n7_; have NB258_264 := n8_; have NB264_258 := n9_; have NB0_264 := n10_; have NB264_0 := n11_; clear n0_ n1_ n2_ n3_ n4_ n5_ n6_ n7_ n8_ n9_ n10_ n11_; clear hb hbox hg; have hnb42 := NB264_258.out; have hnc42 := NB258_264.out; have hnb43 := NB264_0.out; have hnc43 := NB0_264.out; obtain ⟨hcz44_0, hcz44_1, hcz44_2, hcz44_3, hcz44_4, hfz44_0, hfz44_1, hfz44_2, hfz44_3, hfz44_4⟩ := bx5_ BK264; have hnb45 := NB258_0.out; have hnc45 := NB0_258.out; obtain ⟨hcz46_0, hcz46_1, hcz46_2, hcz46_3, hcz46_4, hfz46_0, hfz46_1, hfz46_2, hfz46_3, hfz46_4⟩ := bx5_ BK258) | ((with_reducible refine gate_callee (f := 68) rfl ?_); refine goesL_ (some 42) rfl rfl Try.func68 Q2 rfl #[.pointer (some ⟨g, 0, none⟩), .int .i64 2] rfl Q37 ?_; (with_reducible refine (spec_l6Rd_pick.calls kj8 g s0_0 t262 2 t265 t266 w0 _ ?side1 ?side2 A23.out).mono ?_); (case side1 => exact Q75); (case side2 => exact Q76); rintro e w47 ⟨rfl, hi, hb, hk⟩; refine ⟨_, rfl, ?_⟩; have n0_ := Aside0.mk (Kd.R_mono (Kd.R_keep (IsS87.apart (show IsS87 w0 _ g s0_0 t262 from by repeat (first | (with_reducible first | exact HI0.out | apply IsS87.alloc | apply IsS87.drewN | apply IsS87.drew | apply IsS87.set_1 | refine IsS87.far ?_ NB0_258.out _ | refine IsS87.far ?_ NB0_264.out _) | exact HI0.out)) (by (with_reducible repeat (first | apply Kd.R_alloc | apply Kd.R_drewN | apply Kd.R_drew)); exact (Kd.R_mono (Kd.R_mono (Kd.R_far (p := ⟨gb258, 1, none⟩) (Kd.R_far (p := ⟨gb258, 0, none⟩) (Kd.R_far (p := ⟨gb264, 4, none⟩) (Kd.R_far (p := ⟨gb264, 3, none⟩) (Kd.R_far (p := ⟨gb264, 2, none⟩) (Kd.R_far (p := ⟨gb264, 1, none⟩) (Kd.R_far (p := ⟨gb264, 0, none⟩) (Kd.R_mono (Kd.R_mono HO_5.out (fun k_ hk => (⟨hk, hk.2⟩ : _ ∧ k_ ≠ gb264))) (fun k_ hk => (⟨hk, hk.1.1⟩ : _ ∧ k_ ≠ gb258))) (fun _ hk => hk.1.2) (.int .i64 ((rd_T38 x5_1 t261).f0))) (fun _ hk => hk.1.2) (.int .i64 ((rd_T38 x5_1 t261).f1))) (fun _ hk => hk.1.2) (.int .i64 ((rd_T38 x5_1 t261).f2.f0))) (fun _ hk => hk.1.2) (.int .i64 ((rd_T38 x5_1 t261).f2.f1))) (fun _ hk => hk.1.2) (.int .i64 ((rd_T38 x5_1 t261).f3))) (fun _ hk => hk.2) (.int .i64 ((rd_T38 x5_1 t261).f0))) (fun _ hk => hk.2) (.int .i64 ((rd_T38 x5_1 t261).f1))) (fun _ h_ => h_.1)) (fun _ h_ => h_.1))) Q1) hk (fun _ h => h.2)) (fun _ h => h.1)); have n1_ := Aside0.mk (KeepBut.blk hk (g' := gb258) (o := .cells #[.int .i64 ((rd_T38 x5_1 t261).f0), .int .i64 ((rd_T38 x5_1 t261).f1), .int .i64 t254, .int .i64 t255, .int .i64 t256] 38 (0, 0)) (by (with_reducible repeat (first | refine blk_drewN ?_ _ | refine blk_drew ?_ | refine blk_alloc ?_ _)); refine blk_put (cs := #[.int .i64 ((rd_T38 x5_1 t261).f0), .int .i64 t253, .int .i64 t254, .int .i64 t255, .int .i64 t256]) ?_ 1 _ rfl; (with_reducible repeat (first | refine blk_drewN ?_ _ | refine blk_drew ?_ | refine blk_alloc ?_ _)); refine blk_put (cs := #[.int .i64 t252, .int .i64 t253, .int .i64 t254, .int .i64 t255, .int .i64 t256]) ?_ 0 _ rfl; (with_reducible repeat (first | refine blk_drewN ?_ _ | refine blk_drew ?_ | refine blk_alloc ?_ _)); refine blk_far ?_ NB258_264.out _; (with_reducible repeat (first | refine blk_drewN ?_ _ | refine blk_drew ?_ | refine blk_alloc ?_ _)); refine blk_far ?_ NB258_264.out _; (with_reducible repeat (first | refine blk_drewN ?_ _ | refine blk_drew ?_ | refine blk_alloc ?_ _)); refine blk_far ?_ NB258_264.out _; (with_reducible repeat (first | refine blk_drewN ?_ _ | refine blk_drew ?_ | refine blk_alloc ?_ _)); refine blk_far ?_ NB258_264.out _; (with_reducible repeat (first | refine blk_drewN ?_ _ | refine blk_drew ?_ | refine blk_alloc ?_ _)); refine blk_far ?_ NB258_264.out _; (with_reducible repeat (first | refine blk_drewN ?_ _ | refine blk_drew ?_ | refine blk_alloc ?_ _)); exact BK258.out) NB258_0.out Q0); have n2_ := Aside0.mk (KeepBut.blk hk (g' := gb264) (o := .cells #[.int .i64 ((rd_T38 x5_1 t261).f0), .int .i64 ((rd_T38 x5_1 t261).f1), .int .i64 ((rd_T38 x5_1 t261).f2.f0), .int .i64 ((rd_T38 x5_1 t261).f2.f1), .int .i64 ((rd_T38 x5_1 t261).f3)] 38 (0, 0)) (by (with_reducible repeat (first | refine blk_drewN ?_ _ | refine blk_drew ?_ | refine blk_alloc ?_ _)); refine blk_far ?_ NB264_258.out _; (with_reducible repeat (first | refine blk_drewN ?_ _ | refine blk_drew ?_ | refine blk_alloc ?_ _)); refine blk_far ?_ NB264_258.out _; (with_reducible repeat (first | refine blk_drewN ?_ _ | refine blk_drew ?_ | refine blk_alloc ?_ _)); refine blk_put (cs := #[.int .i64 ((rd_T38 x5_1 t261).f0), .int .i64 ((rd_T38 x5_1 t261).f1), .int .i64 ((rd_T38 x5_1 t261).f2.f0), .int .i64 ((rd_T38 x5_1 t261).f2.f1), .int .i64 0]) ?_ 4 _ rfl; (with_reducible repeat (first | refine blk_drewN ?_ _ | refine blk_drew ?_ | refine blk_alloc ?_ _)); refine blk_put (cs := #[.int .i64 ((rd_T38 x5_1 t261).f0), .int .i64 ((rd_T38 x5_1 t261).f1), .int .i64 ((rd_T38 x5_1 t261).f2.f0), .int .i64 0, .int .i64 0]) ?_ 3 _ rfl; (with_reducible repeat (first | refine blk_drewN ?_ _ | refine blk_drew ?_ | refine blk_alloc ?_ _)); refine blk_put (cs := #[.int .i64 ((rd_T38 x5_1 t261).f0), .int .i64 ((rd_T38 x5_1 t261).f1), .int .i64 0, .int .i64 0, .int .i64 0]) ?_ 2 _ rfl; (with_reducible repeat (first | refine blk_drewN ?_ _ | refine blk_drew ?_ | refine blk_alloc ?_ _)); refine blk_put (cs := #[.int .i64 ((rd_T38 x5_1 t261).f0), .int .i64 0, .int .i64 0, .int .i64 0, .int .i64 0]) ?_ 1 _ rfl; (with_reducible repeat (first | refine blk_drewN ?_ _ | refine blk_drew ?_ | refine blk_alloc ?_ _)); refine blk_put (cs := #[.int .i64 0, .int .i64 0, .int .i64 0, .int .i64 0, .int .i64 0]) ?_ 0 _ rfl; (with_reducible repeat (first | refine blk_drewN ?_ _ | refine blk_drew ?_ | refine blk_alloc ?_ _)); exact BK264.out) NB264_0.out Q0); have n3_ := Aside0.mk (KeepBut.trans Q74 hk (.inl rfl)); have n4_ := Aside0.mk (hb); have n5_ := Aside0.mk (hi); clear HO_5; clear BK258; clear BK264; clear HK; clear HB; clear HI0; have HO_5 := n0_; have BK258 := n1_; have BK264 := n2_; have HK := n3_; have HB := n4_; have HI0 := n5_; clear n0_ n1_ n2_ n3_ n4_ n5_; (try clear hb); (try clear hb2); (try clear hk); (try clear hi); obtain ⟨hcz48_0, hcz48_1, hcz48_2, hcz48_3, hcz48_4, hfz48_0, hfz48_1, hfz48_2, hfz48_3, hfz48_4⟩ := bx5_ BK258) | ((with_reducible refine gate_builtin (b := .append) (xs := #[.tmp 48, .tmp 50]) rfl ?_); at_builtin; refine Kd.R_append k38 w.heap.size rfl (.tmp 48) (.tmp 50) 23 38 (.agg #[(.int .i64 0), (.int .i64 0), (.int .i64 0), (.int .i64 0), (.int .i64 0)]) 40 rfl Try.underlying23 info38 rfl Q1 (by omega) (.slice (some ad263) x5_1.length co39) x5_1 (⟨(rd_T38 x5_1 t261).f0, (rd_T38 x5_1 t261).f1, (⟨t254, t255⟩ : S36), t256⟩ : S38) [.int .i64 ((rd_T38 x5_1 t261).f0), .int .i64 ((rd_T38 x5_1 t261).f1), .int .i64 t254, .int .i64 t255, .int .i64 t256] (fun k_ => k_ ≠ gb258 ∧ k_ ≠ gb264) (fun _ => False) rfl rfl ?aP (fun _ hk => hk.elim) ?aF ?aO (Below.refl _ _) ?aS ?aL ?_; (case aP => exact k38_mkM _ _ _ (⟨(rd_T38 x5_1 t261).f0, (rd_T38 x5_1 t261).f1, (⟨t254, t255⟩ : S36), t256⟩ : S38)); (case aF => exact (fun k_ hk => ⟨Kd.freshB (g := gb258) (o := .cells #[.int .i64 ((rd_T38 x5_1 t261).f0), .int .i64 ((rd_T38 x5_1 t261).f1), .int .i64 t254, .int .i64 t255, .int .i64 t256] 38 (0, 0)) Q31 k_ hk, Kd.freshB (g := gb264) (o := .cells #[.int .i64 ((rd_T38 x5_1 t261).f0), .int .i64 ((rd_T38 x5_1 t261).f1), .int .i64 ((rd_T38 x5_1 t261).f2.f0), .int .i64 ((rd_T38 x5_1 t261).f2.f1), .int .i64 ((rd_T38 x5_1 t261).f3)] 38 (0, 0)) (by (with_reducible repeat (first | refine blk_drewN ?_ _ | refine blk_drew ?_ | refine blk_alloc ?_ _)); exact BK264.out) k_ hk⟩)); (case aO => exact Q12); (case aS => exact (keep_size (w := w) (g := g) (row := none) Q74)); (case aL => have := LMc38.out; omega); intro v271 w49 ho hb hg hat; rw [← Ny270.out] at ho; have n0_ := Aside0.mk (blk_grown (g := gb258) (o := .cells #[.int .i64 ((rd_T38 x5_1 t261).f0), .int .i64 ((rd_T38 x5_1 t261).f1), .int .i64 t254, .int .i64 t255, .int .i64 t256] 38 (0, 0)) Q31 hg (Kd.R_away HO_5.out (fun _ hk => hk.1))); have n1_ := Aside0.mk (IsS87.grown (show IsS87 w0 _ g s0_0 t266 from by repeat (first | (with_reducible first | exact HI0.out | apply IsS87.alloc | apply IsS87.drewN | apply IsS87.drew | apply IsS87.set_1 | refine IsS87.far ?_ NB0_258.out _ | refine IsS87.far ?_ NB0_264.out _) | exact HI0.out)) hg (IsS87.own_ne HI0.out HO_5.out Q1)); have n2_ := Aside0.mk (blk_grown (g := gb264) (o := .cells #[.int .i64 ((rd_T38 x5_1 t261).f0), .int .i64 ((rd_T38 x5_1 t261).f1), .int .i64 ((rd_T38 x5_1 t261).f2.f0), .int .i64 ((rd_T38 x5_1 t261).f2.f1), .int .i64 ((rd_T38 x5_1 t261).f3)] 38 (0, 0)) (by (with_reducible repeat (first | refine blk_drewN ?_ _ | refine blk_drew ?_ | refine blk_alloc ?_ _)); exact BK264.out) hg (Kd.R_away HO_5.out (fun _ hk => hk.2))); have n3_ := Aside0.mk (below_weaken Q76 HL.out hb); have n4_ := Aside0.mk (KeepBut.trans Q74 (KeepBut.of_grown hg g) (Kd.R_base2 HO_5.out)); have n5_ := Aside0.mk (ho); clear BK258; clear HI0; clear BK264; clear HB; clear HK; clear HO_5; have BK258 := n0_; have HI0 := n1_; have BK264 := n2_; have HB := n3_; have HK := n4_; have HO272 := n5_; clear n0_ n1_ n2_ n3_ n4_ n5_; clear ho hb hg hat))
           go_roundg kj8
           case measure => have := HK1.out; have := HJ8.out; omega
           case rel => exact ⟨(y270), (wrap64 (x6_1 - 1)), (t266), Q6, H', ⟨Q5⟩, ⟨by (with_reducible repeat (first | apply Kd.R_alloc | apply Kd.R_drewN | apply Kd.R_drew)); exact Kd.R_mono HO272.out (fun _ hk => trivial)⟩, ⟨Q75⟩, ⟨Q74⟩, ⟨Q76⟩⟩
          ·rw [if_neg c38] at H
           exact absurd H Q0
        ·rw [if_neg c22] at H
         exact absurd H Q0
       ·rw [if_neg c21] at H
        exact absurd H Q0
      ·replace c19 := Bool.eq_false_iff.mpr c19
       subst c19
       have H1 : (if x5_1.length < 3518437208883 then (spec_l71Rows.l0 kj8 (x5_1 ++ [(⟨t252, t253, (⟨t254, t255⟩ : S36), t256⟩ : S38)]) (wrap64 (x6_1 - 1)) s0_0 x1001_8) else (none)) = some (r1, r2) := by rw [if_neg (show ¬ (false = true) by decide)] at H; exact H
       clear H
       have H := H1
       clear H1
       by_cases c50 : x5_1.length < 3518437208883
       ·rw [if_pos c50] at H
        have LMc50 := Aside0.mk c50
        clear c50
        obtain ⟨y273, hy_⟩ : ∃ y_ : List (S38), y_ = (x5_1 ++ [(⟨t252, t253, (⟨t254, t255⟩ : S36), t256⟩ : S38)]) := ⟨_, rfl⟩
        replace H : (spec_l71Rows.l0 kj8 y273 (wrap64 (x6_1 - 1)) s0_0 x1001_8) = some (r1, r2) := Q77
        have Ny273 := Aside0.mk hy_
        clear hy_
        have H' := Aside0.mk H
        clear H
        have hnb51 := NB258_0.out
        have hnc51 := NB0_258.out
        have hcz52_0 : wc.cell? ⟨gb258, 0, none⟩ = some (.int .i64 t252) := (blk_cell BK258.out 0).trans rfl
        have hcz52_1 : wc.cell? ⟨gb258, 1, none⟩ = some (.int .i64 t253) := (blk_cell BK258.out 1).trans rfl
        have hcz52_2 : wc.cell? ⟨gb258, 2, none⟩ = some (.int .i64 t254) := (blk_cell BK258.out 2).trans rfl
        have hcz52_3 : wc.cell? ⟨gb258, 3, none⟩ = some (.int .i64 t255) := (blk_cell BK258.out 3).trans rfl
        have hcz52_4 : wc.cell? ⟨gb258, 4, none⟩ = some (.int .i64 t256) := (blk_cell BK258.out 4).trans rfl
        have hfz52_0 := blk_frozen BK258.out 0
        have hfz52_1 := blk_frozen BK258.out 1
        have hfz52_2 := blk_frozen BK258.out 2
        have hfz52_3 := blk_frozen BK258.out 3
        have hfz52_4 := blk_frozen BK258.out 4
        go_wp2_with (first | ((with_reducible refine gate_builtin (b := .append) (xs := #[.tmp 48, .tmp 50]) rfl ?_); at_builtin; refine Kd.R_append k38 w.heap.size rfl (.tmp 48) (.tmp 50) 23 38 (.agg #[(.int .i64 0), (.int .i64 0), (.int .i64 0), (.int .i64 0), (.int .i64 0)]) 40 rfl Try.underlying23 info38 rfl Q1 (by omega) u5 x5_1 (⟨t252, t253, (⟨t254, t255⟩ : S36), t256⟩ : S38) [.int .i64 t252, .int .i64 t253, .int .i64 t254, .int .i64 t255, .int .i64 t256] (fun k_ => k_ ≠ gb258) (fun _ => False) rfl rfl ?aP (fun _ hk => hk.elim) ?aF ?aO (Below.refl _ _) ?aS ?aL ?_; (case aP => exact k38_mkM _ _ _ (⟨t252, t253, (⟨t254, t255⟩ : S36), t256⟩ : S38)); (case aF => exact (fun k_ hk => Kd.freshB (g := gb258) (o := .cells #[.int .i64 t252, .int .i64 t253, .int .i64 t254, .int .i64 t255, .int .i64 t256] 38 (0, 0)) Q31 k_ hk)); (case aO => exact Q12); (case aS => exact (keep_size (w := w) (g := g) (row := none) Q61)); (case aL => have := LMc50.out; omega); intro v274 w53 ho hb hg hat; rw [← Ny273.out] at ho; have n0_ := Aside0.mk (blk_grown (g := gb258) (o := .cells #[.int .i64 t252, .int .i64 t253, .int .i64 t254, .int .i64 t255, .int .i64 t256] 38 (0, 0)) Q31 hg (Kd.R_away HO_5.out (fun _ hk => hk))); have n1_ := Aside0.mk (IsS87.grown (show IsS87 w0 _ g s0_0 x1001_8 from by repeat (first | (with_reducible first | exact HI0.out | apply IsS87.alloc | apply IsS87.drewN | apply IsS87.drew | apply IsS87.set_1 | refine IsS87.far ?_ NB0_258.out _) | exact HI0.out)) hg (IsS87.own_ne HI0.out HO_5.out Q1)); have n2_ := Aside0.mk (below_weaken Q72 HL.out hb); have n3_ := Aside0.mk (KeepBut.trans Q61 (KeepBut.of_grown hg g) (Kd.R_base2 HO_5.out)); have n4_ := Aside0.mk (ho); clear BK258; clear HI0; clear HB; clear HK; clear HO_5; have BK258 := n0_; have HI0 := n1_; have HB := n2_; have HK := n3_; have HO275 := n4_; clear n0_ n1_ n2_ n3_ n4_; clear ho hb hg hat))
        go_roundg kj8
        case measure => have := HK1.out; have := HJ8.out; omega
        case rel => exact ⟨(y273), (wrap64 (x6_1 - 1)), (x1001_8), Q6, H', ⟨Q5⟩, ⟨by (with_reducible repeat (first | apply Kd.R_alloc | apply Kd.R_drewN | apply Kd.R_drew)); exact Kd.R_mono HO275.out (fun _ hk => trivial)⟩, ⟨Q65⟩, ⟨Q61⟩, ⟨Q72⟩⟩
       ·rw [if_neg c50] at H
        exact absurd H Q0
   ·rw [if_neg c7] at H
    have c7b0 : decide (0 < x6_1) = false := decide_eq_false c7
    clear c7
    simp only [Option.some.injEq, Prod.mk.injEq] at H
    obtain ⟨rfl, rfl⟩ := H
    go_wp2
    go_ret
    exact ⟨_, Q10, Q12, Q40, Q55, Q39⟩
def spec_l71Spoil.f (k : Nat) (s0_0 : List Int) (s0_1 : Int) (l1 : List (S38)) : Option ((List (S38)) × Int) := (spec_l71Row.f k s0_0 s0_1).bind fun bt276 => ((spec_l6Rd_pick.f k s0_0 bt276.2.2.2.2.2 5).bind fun bt283 => (if bt283.1 = 0 then ((some (([(-1), 4] : List Int) : List Int)).bind fun y285 => ((spec_l6Rd_pick.f k s0_0 bt283.2 2).bind fun bt288 => (if 0 ≤ bt288.1 then (if bt288.1 < (y285.length : Int) then ((some (([] : List (S38)) : List (S38))).bind fun y291 => (if y291.length + l1.length < 3518437208883 then ((some (y291 ++ l1 : List (S38))).bind fun y294 => ((some (([(⟨rd y285 bt288.1, bt276.2.1, (⟨bt276.2.2.1, bt276.2.2.2.1⟩ : S36), bt276.2.2.2.2.1⟩ : S38)] : List (S38)) : List (S38))).bind fun y297 => (if y294.length + y297.length < 3518437208883 then (some ((y294 ++ y297), bt288.2)) else (none)))) else (none))) else (none)) else (none)))) else (if bt283.1 = 1 then ((some (([(-1), 100] : List Int) : List Int)).bind fun y303 => ((spec_l6Rd_pick.f k s0_0 bt283.2 2).bind fun bt306 => (if 0 ≤ bt306.1 then (if bt306.1 < (y303.length : Int) then ((some (([] : List (S38)) : List (S38))).bind fun y309 => (if y309.length + l1.length < 3518437208883 then ((some (y309 ++ l1 : List (S38))).bind fun y312 => ((some (([(⟨bt276.1, rd y303 bt306.1, (⟨bt276.2.2.1, bt276.2.2.2.1⟩ : S36), bt276.2.2.2.2.1⟩ : S38)] : List (S38)) : List (S38))).bind fun y315 => (if y312.length + y315.length < 3518437208883 then (some ((y312 ++ y315), bt306.2)) else (none)))) else (none))) else (none)) else (none)))) else (if bt283.1 = 2 then ((some (([] : List (S38)) : List (S38))).bind fun y321 => (if y321.length + l1.length < 3518437208883 then ((some (y321 ++ l1 : List (S38))).bind fun y324 => ((some (([(⟨bt276.1, bt276.2.1, (⟨(-1), 0⟩ : S36), bt276.2.2.2.2.1⟩ : S38)] : List (S38)) : List (S38))).bind fun y327 => (if y324.length + y327.length < 3518437208883 then (some ((y324 ++ y327), bt283.2)) else (none)))) else (none))) else (if bt283.1 = 3 then ((some (([(-100000), 100000] : List Int) : List Int)).bind fun y333 => ((spec_l6Rd_pick.f k s0_0 bt283.2 2).bind fun bt336 => (if 0 ≤ bt336.1 then (if bt336.1 < (y333.length : Int) then ((some (([] : List (S38)) : List (S38))).bind fun y339 => (if y339.length + l1.length < 3518437208883 then ((some (y339 ++ l1 : List (S38))).bind fun y342 => ((some (([(⟨bt276.1, bt276.2.1, (⟨bt276.2.2.1, bt276.2.2.2.1⟩ : S36), rd y333 bt336.1⟩ : S38)] : List (S38)) : List (S38))).bind fun y345 => (if y342.length + y345.length < 3518437208883 then (some ((y342 ++ y345), bt336.2)) else (none)))) else (none))) else (none)) else (none)))) else ((some (([] : List (S38)) : List (S38))).bind fun y351 => (if y351.length + l1.length < 3518437208883 then ((some (y351 ++ l1 : List (S38))).bind fun y354 => ((some (([(⟨bt276.1, bt276.2.1, (⟨bt276.2.2.1, 8⟩ : S36), bt276.2.2.2.2.1⟩ : S38)] : List (S38)) : List (S38))).bind fun y357 => (if y354.length + y357.length < 3518437208883 then (some ((y354 ++ y357), bt283.2)) else (none)))) else (none))))))))
theorem spec_l71Spoil.mono : ∀ a0 a1 a2 k, LeO (spec_l71Spoil.f k a0 a1 a2) (spec_l71Spoil.f (k + 1) a0 a1 a2) := by
 intro a0 a1 a2 k
 unfold spec_l71Spoil.f
 repeat' first
   | (with_reducible exact spec_l6Rd_pick.mono _ _ _ _)
   | (with_reducible exact spec_l71Row.mono _ _ _)
   | (with_reducible exact LeO.refl _)
   | (with_reducible exact LeO.none _)
   | (with_reducible refine LeO.ite ?_ ?_)
   | (with_reducible refine LeO.bind ?_ (fun _ => ?_))
   | exact spec_l6Rd_pick.mono _ _ _ _
   | exact spec_l71Row.mono _ _ _
   | exact LeO.none _
   | refine LeO.ite ?_ ?_
   | refine LeO.bind ?_ (fun _ => ?_)
set_option maxHeartbeats 8000000 in
set_option maxRecDepth 100000 in
theorem spec_l71Spoil.calls (k : Nat) (g : Nat) (s0_0 : List Int) (s0_1 : Int) (A1 : Option Addr) (c1 : Nat) (l1 : List (S38)) (r1 : List (S38)) (r2 : Int) (w0 w : World) (hI : IsS87 w0 w g s0_0 s0_1) (hB : Below w0.heap.size w0 w) (hr1 : ∀ W_, KeepBut w W_ g none → Kd.C k38 W_ A1 l1.length l1) (hc1 : l1.length ≤ c1) (h : spec_l71Spoil.f k s0_0 s0_1 l1 = some (r1, r2)) :
  Calls Try.prog 81 #[.pointer (some ⟨g, 0, none⟩), .slice A1 l1.length c1] w fun e w' => ∃ v0_ : Value, e = .returned (v0_) ∧ Kd.R k38 38 w' w.heap.size (fun _ => True) v0_ r1 ∧ IsS87 w0 w' g s0_0 r2 ∧ Below w0.heap.size w0 w' ∧ KeepBut w w' g none := by
 have hu38 := Try.underlying38
 have hu36 := Try.underlying36
 have HR1 := Aside0.mk hr1
 have HC1 := Aside0.mk hc1
 clear hr1 hc1
 have HI0 := Aside0.mk hI
 have HK := Aside0.mk (KeepBut.refl w g none)
 have HL := Aside0.mk hB.size
 clear hI
 have HW0 := Aside0.mk hB.size
 have HB := Aside0.mk hB
 clear hB
 have H : ((spec_l71Row.f k s0_0 s0_1).bind fun bt276 => ((spec_l6Rd_pick.f k s0_0 bt276.2.2.2.2.2 5).bind fun bt283 => (if bt283.1 = 0 then ((some (([(-1), 4] : List Int) : List Int)).bind fun y285 => ((spec_l6Rd_pick.f k s0_0 bt283.2 2).bind fun bt288 => (if 0 ≤ bt288.1 then (if bt288.1 < (y285.length : Int) then ((some (([] : List (S38)) : List (S38))).bind fun y291 => (if y291.length + l1.length < 3518437208883 then ((some (y291 ++ l1 : List (S38))).bind fun y294 => ((some (([(⟨rd y285 bt288.1, bt276.2.1, (⟨bt276.2.2.1, bt276.2.2.2.1⟩ : S36), bt276.2.2.2.2.1⟩ : S38)] : List (S38)) : List (S38))).bind fun y297 => (if y294.length + y297.length < 3518437208883 then (some ((y294 ++ y297), bt288.2)) else (none)))) else (none))) else (none)) else (none)))) else (if bt283.1 = 1 then ((some (([(-1), 100] : List Int) : List Int)).bind fun y303 => ((spec_l6Rd_pick.f k s0_0 bt283.2 2).bind fun bt306 => (if 0 ≤ bt306.1 then (if bt306.1 < (y303.length : Int) then ((some (([] : List (S38)) : List (S38))).bind fun y309 => (if y309.length + l1.length < 3518437208883 then ((some (y309 ++ l1 : List (S38))).bind fun y312 => ((some (([(⟨bt276.1, rd y303 bt306.1, (⟨bt276.2.2.1, bt276.2.2.2.1⟩ : S36), bt276.2.2.2.2.1⟩ : S38)] : List (S38)) : List (S38))).bind fun y315 => (if y312.length + y315.length < 3518437208883 then (some ((y312 ++ y315), bt306.2)) else (none)))) else (none))) else (none)) else (none)))) else (if bt283.1 = 2 then ((some (([] : List (S38)) : List (S38))).bind fun y321 => (if y321.length + l1.length < 3518437208883 then ((some (y321 ++ l1 : List (S38))).bind fun y324 => ((some (([(⟨bt276.1, bt276.2.1, (⟨(-1), 0⟩ : S36), bt276.2.2.2.2.1⟩ : S38)] : List (S38)) : List (S38))).bind fun y327 => (if y324.length + y327.length < 3518437208883 then (some ((y324 ++ y327), bt283.2)) else (none)))) else (none))) else (if bt283.1 = 3 then ((some (([(-100000), 100000] : List Int) : List Int)).bind fun y333 => ((spec_l6Rd_pick.f k s0_0 bt283.2 2).bind fun bt336 => (if 0 ≤ bt336.1 then (if bt336.1 < (y333.length : Int) then ((some (([] : List (S38)) : List (S38))).bind fun y339 => (if y339.length + l1.length < 3518437208883 then ((some (y339 ++ l1 : List (S38))).bind fun y342 => ((some (([(⟨bt276.1, bt276.2.1, (⟨bt276.2.2.1, bt276.2.2.2.1⟩ : S36), rd y333 bt336.1⟩ : S38)] : List (S38)) : List (S38))).bind fun y345 => (if y342.length + y345.length < 3518437208883 then (some ((y342 ++ y345), bt336.2)) else (none)))) else (none))) else (none)) else (none)))) else ((some (([] : List (S38)) : List (S38))).bind fun y351 => (if y351.length + l1.length < 3518437208883 then ((some (y351 ++ l1 : List (S38))).bind fun y354 => ((some (([(⟨bt276.1, bt276.2.1, (⟨bt276.2.2.1, 8⟩ : S36), bt276.2.2.2.2.1⟩ : S38)] : List (S38)) : List (S38))).bind fun y357 => (if y354.length + y357.length < 3518437208883 then (some ((y354 ++ y357), bt283.2)) else (none)))) else (none))))))))) = some (r1, r2) := h
 clear h
 replace H := Option.bind_eq_some_iff.mp H
 obtain ⟨⟨t276, t277, t278, t279, t280, t281⟩, A30, H⟩ := H
 replace H : ((spec_l6Rd_pick.f k s0_0 t281 5).bind fun bt283 => (if bt283.1 = 0 then ((some (([(-1), 4] : List Int) : List Int)).bind fun y285 => ((spec_l6Rd_pick.f k s0_0 bt283.2 2).bind fun bt288 => (if 0 ≤ bt288.1 then (if bt288.1 < (y285.length : Int) then ((some (([] : List (S38)) : List (S38))).bind fun y291 => (if y291.length + l1.length < 3518437208883 then ((some (y291 ++ l1 : List (S38))).bind fun y294 => ((some (([(⟨rd y285 bt288.1, t277, (⟨t278, t279⟩ : S36), t280⟩ : S38)] : List (S38)) : List (S38))).bind fun y297 => (if y294.length + y297.length < 3518437208883 then (some ((y294 ++ y297), bt288.2)) else (none)))) else (none))) else (none)) else (none)))) else (if bt283.1 = 1 then ((some (([(-1), 100] : List Int) : List Int)).bind fun y303 => ((spec_l6Rd_pick.f k s0_0 bt283.2 2).bind fun bt306 => (if 0 ≤ bt306.1 then (if bt306.1 < (y303.length : Int) then ((some (([] : List (S38)) : List (S38))).bind fun y309 => (if y309.length + l1.length < 3518437208883 then ((some (y309 ++ l1 : List (S38))).bind fun y312 => ((some (([(⟨t276, rd y303 bt306.1, (⟨t278, t279⟩ : S36), t280⟩ : S38)] : List (S38)) : List (S38))).bind fun y315 => (if y312.length + y315.length < 3518437208883 then (some ((y312 ++ y315), bt306.2)) else (none)))) else (none))) else (none)) else (none)))) else (if bt283.1 = 2 then ((some (([] : List (S38)) : List (S38))).bind fun y321 => (if y321.length + l1.length < 3518437208883 then ((some (y321 ++ l1 : List (S38))).bind fun y324 => ((some (([(⟨t276, t277, (⟨(-1), 0⟩ : S36), t280⟩ : S38)] : List (S38)) : List (S38))).bind fun y327 => (if y324.length + y327.length < 3518437208883 then (some ((y324 ++ y327), bt283.2)) else (none)))) else (none))) else (if bt283.1 = 3 then ((some (([(-100000), 100000] : List Int) : List Int)).bind fun y333 => ((spec_l6Rd_pick.f k s0_0 bt283.2 2).bind fun bt336 => (if 0 ≤ bt336.1 then (if bt336.1 < (y333.length : Int) then ((some (([] : List (S38)) : List (S38))).bind fun y339 => (if y339.length + l1.length < 3518437208883 then ((some (y339 ++ l1 : List (S38))).bind fun y342 => ((some (([(⟨t276, t277, (⟨t278, t279⟩ : S36), rd y333 bt336.1⟩ : S38)] : List (S38)) : List (S38))).bind fun y345 => (if y342.length + y345.length < 3518437208883 then (some ((y342 ++ y345), bt336.2)) else (none)))) else (none))) else (none)) else (none)))) else ((some (([] : List (S38)) : List (S38))).bind fun y351 => (if y351.length + l1.length < 3518437208883 then ((some (y351 ++ l1 : List (S38))).bind fun y354 => ((some (([(⟨t276, t277, (⟨t278, 8⟩ : S36), t280⟩ : S38)] : List (S38)) : List (S38))).bind fun y357 => (if y354.length + y357.length < 3518437208883 then (some ((y354 ++ y357), bt283.2)) else (none)))) else (none)))))))) = some (r1, r2) := H
 have A3 := Aside0.mk A30
 clear A30
 replace H := Option.bind_eq_some_iff.mp H
 obtain ⟨⟨t283, t284⟩, A40, H⟩ := H
 replace H : (if t283 = 0 then ((some (([(-1), 4] : List Int) : List Int)).bind fun y285 => ((spec_l6Rd_pick.f k s0_0 t284 2).bind fun bt288 => (if 0 ≤ bt288.1 then (if bt288.1 < (y285.length : Int) then ((some (([] : List (S38)) : List (S38))).bind fun y291 => (if y291.length + l1.length < 3518437208883 then ((some (y291 ++ l1 : List (S38))).bind fun y294 => ((some (([(⟨rd y285 bt288.1, t277, (⟨t278, t279⟩ : S36), t280⟩ : S38)] : List (S38)) : List (S38))).bind fun y297 => (if y294.length + y297.length < 3518437208883 then (some ((y294 ++ y297), bt288.2)) else (none)))) else (none))) else (none)) else (none)))) else (if t283 = 1 then ((some (([(-1), 100] : List Int) : List Int)).bind fun y303 => ((spec_l6Rd_pick.f k s0_0 t284 2).bind fun bt306 => (if 0 ≤ bt306.1 then (if bt306.1 < (y303.length : Int) then ((some (([] : List (S38)) : List (S38))).bind fun y309 => (if y309.length + l1.length < 3518437208883 then ((some (y309 ++ l1 : List (S38))).bind fun y312 => ((some (([(⟨t276, rd y303 bt306.1, (⟨t278, t279⟩ : S36), t280⟩ : S38)] : List (S38)) : List (S38))).bind fun y315 => (if y312.length + y315.length < 3518437208883 then (some ((y312 ++ y315), bt306.2)) else (none)))) else (none))) else (none)) else (none)))) else (if t283 = 2 then ((some (([] : List (S38)) : List (S38))).bind fun y321 => (if y321.length + l1.length < 3518437208883 then ((some (y321 ++ l1 : List (S38))).bind fun y324 => ((some (([(⟨t276, t277, (⟨(-1), 0⟩ : S36), t280⟩ : S38)] : List (S38)) : List (S38))).bind fun y327 => (if y324.length + y327.length < 3518437208883 then (some ((y324 ++ y327), t284)) else (none)))) else (none))) else (if t283 = 3 then ((some (([(-100000), 100000] : List Int) : List Int)).bind fun y333 => ((spec_l6Rd_pick.f k s0_0 t284 2).bind fun bt336 => (if 0 ≤ bt336.1 then (if bt336.1 < (y333.length : Int) then ((some (([] : List (S38)) : List (S38))).bind fun y339 => (if y339.length + l1.length < 3518437208883 then ((some (y339 ++ l1 : List (S38))).bind fun y342 => ((some (([(⟨t276, t277, (⟨t278, t279⟩ : S36), rd y333 bt336.1⟩ : S38)] : List (S38)) : List (S38))).bind fun y345 => (if y342.length + y345.length < 3518437208883 then (some ((y342 ++ y345), bt336.2)) else (none)))) else (none))) else (none)) else (none)))) else ((some (([] : List (S38)) : List (S38))).bind fun y351 => (if y351.length + l1.length < 3518437208883 then ((some (y351 ++ l1 : List (S38))).bind fun y354 => ((some (([(⟨t276, t277, (⟨t278, 8⟩ : S36), t280⟩ : S38)] : List (S38)) : List (S38))).bind fun y357 => (if y354.length + y357.length < 3518437208883 then (some ((y354 ++ y357), t284)) else (none)))) else (none))))))) = some (r1, r2) := H
 have A4 := Aside0.mk A40
 clear A40
 by_cases c5 : t283 = 0
 case' pos =>
  rw [if_pos c5] at H
  have c5b0 : (t283 == 0) = true := beq_iff_eq.mpr c5
  have c5b1 : (t283 != 0) = false := bne_eq_false_iff_eq.mpr c5
  clear c5
  obtain ⟨y285, hy_⟩ : ∃ y_ : List Int, y_ = (([(-1), 4] : List Int)) := ⟨_, rfl⟩
  replace H : ((spec_l6Rd_pick.f k s0_0 t284 2).bind fun bt288 => (if 0 ≤ bt288.1 then (if bt288.1 < (y285.length : Int) then ((some (([] : List (S38)) : List (S38))).bind fun ya => (if ya.length + l1.length < 3518437208883 then ((some (ya ++ l1 : List (S38))).bind fun yb => ((some (([(⟨rd y285 bt288.1, t277, (⟨t278, t279⟩ : S36), t280⟩ : S38)] : List (S38)) : List (S38))).bind fun yc => (if yb.length + yc.length < 3518437208883 then (some ((yb ++ yc), bt288.2)) else (none)))) else (none))) else (none)) else (none))) = some (r1, r2) := Q77
  have Ny285 := Aside0.mk hy_
  clear hy_
  replace H := Option.bind_eq_some_iff.mp H
  obtain ⟨⟨t288, tp⟩, A60, H⟩ := H
  replace H : (if 0 ≤ t288 then (if t288 < (y285.length : Int) then ((some (([] : List (S38)) : List (S38))).bind fun ya => (if ya.length + l1.length < 3518437208883 then ((some (ya ++ l1 : List (S38))).bind fun yb => ((some (([(⟨rd y285 t288, t277, (⟨t278, t279⟩ : S36), t280⟩ : S38)] : List (S38)) : List (S38))).bind fun yc => (if yb.length + yc.length < 3518437208883 then (some ((yb ++ yc), tp)) else (none)))) else (none))) else (none)) else (none)) = some (r1, r2) := H
  have A6 := Aside0.mk A60
  clear A60
  have c7 : 0 ≤ t288 := Classical.byContradiction fun hn_ => by rw [if_neg hn_] at H; exact absurd H Q0
  rw [if_pos c7] at H
  have c7b0 : decide (0 ≤ t288) = true := decide_eq_true c7
  clear c7
  have c8 : t288 < (y285.length : Int) := Classical.byContradiction fun hn_ => by rw [if_neg hn_] at H; exact absurd H Q0
  rw [if_pos c8] at H
  have c8b0 : decide (t288 < (y285.length : Int)) = true := decide_eq_true c8
  clear c8
  obtain ⟨ya, hya⟩ : ∃ y_ : List (S38), y_ = (([] : List (S38))) := ⟨_, rfl⟩
  replace H : (if ya.length + l1.length < 3518437208883 then ((some (ya ++ l1 : List (S38))).bind fun yb => ((some (([(⟨rd y285 t288, t277, (⟨t278, t279⟩ : S36), t280⟩ : S38)] : List (S38)) : List (S38))).bind fun yc => (if yb.length + yc.length < 3518437208883 then (some ((yb ++ yc), tp)) else (none)))) else (none)) = some (r1, r2) := Q78
  have Nya := Aside0.mk hya
  clear hya
  have c9 : ya.length + l1.length < 3518437208883 := Classical.byContradiction fun hn_ => by rw [if_neg hn_] at H; exact absurd H Q0
  rw [if_pos c9] at H
  have LMca := Aside0.mk c9
  clear c9
  obtain ⟨yb, hyb⟩ : ∃ y_ : List (S38), y_ = (ya ++ l1) := ⟨_, rfl⟩
  replace H : ((some (([(⟨rd y285 t288, t277, (⟨t278, t279⟩ : S36), t280⟩ : S38)] : List (S38)) : List (S38))).bind fun yc => (if yb.length + yc.length < 3518437208883 then (some ((yb ++ yc), tp)) else (none))) = some (r1, r2) := Q79
  have Nyb := Aside0.mk hyb
  clear hyb
  obtain ⟨yc, hyc⟩ : ∃ y_ : List (S38), y_ = (([(⟨rd y285 t288, t277, (⟨t278, t279⟩ : S36), t280⟩ : S38)] : List (S38))) := ⟨_, rfl⟩
  replace H : (if yb.length + yc.length < 3518437208883 then (some ((yb ++ yc), tp)) else (none)) = some (r1, r2) := Q80
  have Nyc := Aside0.mk hyc
  clear hyc
  have c10 : yb.length + yc.length < 3518437208883 := Classical.byContradiction fun hn_ => by rw [if_neg hn_] at H; exact absurd H Q0
  rw [if_pos c10] at H
  have LMcb := Aside0.mk c10
  clear c10
  obtain ⟨yd, hyd⟩ : ∃ y_ : List (S38), y_ = (yb ++ yc) := ⟨_, rfl⟩
  replace H : (some (yd, tp)) = some (r1, r2) := Q81
  have Nyd := Aside0.mk hyd
  clear hyd
  simp only [Option.some.injEq, Prod.mk.injEq] at H
  obtain ⟨rfl, rfl⟩ := H
  go_enter Try.func81, Try.ntmps81
  try go_wp2_with (first | ((with_reducible refine gate_callee (f := 70) rfl ?_); refine goesL_ (some 7) rfl rfl Try.func70 Q2 rfl #[.pointer (some ⟨g, 0, none⟩)] rfl Q37 ?_; (with_reducible refine (spec_l71Row.calls k g s0_0 s0_1 t276 t277 t278 t279 t280 t281 w0 _ ?side1 ?side2 A3.out).mono ?_); (case side1 => exact Q40); (case side2 => exact Q55); rintro e w11 ⟨rfl, hi, hb, hk⟩; refine ⟨_, rfl, ?_⟩; have n0_ := Aside0.mk (KeepBut.trans Q39 hk (.inl rfl)); have n1_ := Aside0.mk (hb); have n2_ := Aside0.mk (hi); clear HK; clear HB; clear HI0; have HK := n0_; have HB := n1_; have HI0 := n2_; clear n0_ n1_ n2_; (try clear hb); (try clear hb2); (try clear hk); (try clear hi)) | ((with_reducible refine gate_dst (N := 5) rfl ?_); refine box_event ?hg (N := 5) ?hd (cs := #[.int .i64 0, .int .i64 0, .int .i64 0, .int .i64 0, .int .i64 0]) (t := 38) ?hr ?_; (case hd => rfl); (case hg => rfl); (case hr => first | (go_simp; done) | (go_simp; rfl)); intro gb282 hg w12 hbox hb; have n0_ := Aside0.mk (IsS87.below Q40 hb); have n1_ := Aside0.mk (KeepBut.trans Q39 (KeepBut.of_below hb g none) (.inl rfl)); have n2_ := Aside0.mk (below_step Q55 hb); have n3_ := Aside0.mk (hbox); have n4_ := Aside0.mk ((Q86 : w.heap.size ≤ gb282)); have n5_ := Aside0.mk ((Nat.le_trans HW0.out (Q86 : w.heap.size ≤ gb282) : w0.heap.size ≤ gb282)); have n6_ := Aside0.mk ((by rw [hg]; exact Nat.ne_of_lt (IsS87.lt (show IsS87 w0 _ g s0_0 t281 from by repeat (first | (with_reducible first | exact HI0.out | apply IsS87.alloc | apply IsS87.drewN | apply IsS87.drew | apply IsS87.set_1) | exact HI0.out))) : g ≠ gb282)); have n7_ := Aside0.mk ((by rw [hg]; exact Nat.ne_of_gt (IsS87.lt (show IsS87 w0 _ g s0_0 t281 from by repeat (first | (with_reducible first | exact HI0.out | apply IsS87.alloc | apply IsS87.drewN | apply IsS87.drew | apply IsS87.set_1) | exact HI0.out))) : gb282 ≠ g)); clear HI0; clear HK; clear HB; have HI0 := n0_; have HK := n1_; have HB := n2_; have BK282 := n3_; have GW282 := n4_; have GE282 := n5_; have NB0_282 := n6_; have NB282_0 := n7_; clear n0_ n1_ n2_ n3_ n4_ n5_ n6_ n7_; clear hb hbox hg; have hnb13 := NB282_0.out; have hnc13 := NB0_282.out; obtain ⟨hcz14_0, hcz14_1, hcz14_2, hcz14_3, hcz14_4, hfz14_0, hfz14_1, hfz14_2, hfz14_3, hfz14_4⟩ := bx5_ BK282) | ((with_reducible refine gate_callee (f := 68) rfl ?_); refine goesL_ (some 9) rfl rfl Try.func68 Q2 rfl #[.pointer (some ⟨g, 0, none⟩), .int .i64 5] rfl Q37 ?_; (with_reducible refine (spec_l6Rd_pick.calls k g s0_0 t281 5 t283 t284 w0 _ ?side1 ?side2 A4.out).mono ?_); (case side1 => exact Q66); (case side2 => exact Q73); rintro e w15 ⟨rfl, hi, hb, hk⟩; refine ⟨_, rfl, ?_⟩; have n0_ := Aside0.mk (KeepBut.blk hk (g' := gb282) (o := .cells #[.int .i64 t276, .int .i64 t277, .int .i64 t278, .int .i64 t279, .int .i64 t280] 38 (0, 0)) Q82 NB282_0.out Q0); have n1_ := Aside0.mk (KeepBut.trans Q62 hk (.inl rfl)); have n2_ := Aside0.mk (hb); have n3_ := Aside0.mk (hi); clear BK282; clear HK; clear HB; clear HI0; have BK282 := n0_; have HK := n1_; have HB := n2_; have HI0 := n3_; clear n0_ n1_ n2_ n3_; (try clear hb); (try clear hb2); (try clear hk); (try clear hi)) | ((with_reducible refine gate_dst (N := 14) rfl ?_); refine Kd.R_lit (Kd.int .i64) _ 3 ?hg (N := 14) ?hd (xs := ([(-1), 4] : List Int)) (inner := [.int .i64 (-1), .int .i64 4]) (ok := fun _ => True) (okp := fun _ => True) ?hr ?hp (fun _ hk => hk) trivial (Below.refl _ _) (Nat.le_refl _) Q0 ?_; (case hd => rfl); (case hg => rfl); (case hr => first | (go_simp; done) | (go_simp; rfl)); (case hp => exact (Reps.one (show Kd.M (Kd.int .i64) _ _ _ (-1) [.int .i64 (-1)] from rfl) (Reps.one (show Kd.M (Kd.int .i64) _ _ _ 4 [.int .i64 4] from rfl) (Reps.none _ _)))); intro v286 w16 ho17 hb hg_ hnew_; clear hg_ hnew_; (first | rw [← Ny285.out] at ho17 | (simp only [Int.reduceToNat] at ho17; rw [← Ny285.out] at ho17)); have n0_ := Aside0.mk (Kd.R_lower ho17 (keep_size (w := w) (g := g) (row := none) Q62)); have n1_ := Aside0.mk (IsS87.below Q66 hb); have n2_ := Aside0.mk (blk_below (g := gb282) (o := .cells #[.int .i64 t276, .int .i64 t277, .int .i64 t278, .int .i64 t279, .int .i64 t280] 38 (0, 0)) Q32 hb); have n3_ := Aside0.mk (KeepBut.trans Q62 (KeepBut.of_below hb g none) (.inl rfl)); have n4_ := Aside0.mk (below_step Q73 hb); clear HI0; clear BK282; clear HK; clear HB; have HO287 := n0_; have HI0 := n1_; have BK282 := n2_; have HK := n3_; have HB := n4_; clear n0_ n1_ n2_ n3_ n4_; clear hb ho17) | ((with_reducible refine gate_callee (f := 68) rfl ?_); refine goesL_ (some 16) rfl rfl Try.func68 Q2 rfl #[.pointer (some ⟨g, 0, none⟩), .int .i64 2] rfl Q37 ?_; (with_reducible refine (spec_l6Rd_pick.calls k g s0_0 t284 2 t288 tp w0 _ ?side1 ?side2 A6.out).mono ?_); (case side1 => exact Q66); (case side2 => exact Q73); rintro e w18 ⟨rfl, hi, hb, hk⟩; refine ⟨_, rfl, ?_⟩; have n0_ := Aside0.mk (KeepBut.blk hk (g' := gb282) (o := .cells #[.int .i64 t276, .int .i64 t277, .int .i64 t278, .int .i64 t279, .int .i64 t280] 38 (0, 0)) Q32 NB282_0.out Q0); have n1_ := Aside0.mk (Kd.R_mono (Kd.R_keep (IsS87.apart (show IsS87 w0 _ g s0_0 t284 from by repeat (first | (with_reducible first | exact HI0.out | apply IsS87.alloc | apply IsS87.drewN | apply IsS87.drew | apply IsS87.set_1 | refine IsS87.far ?_ NB0_282.out _) | exact HI0.out)) (by (with_reducible repeat (first | apply Kd.R_alloc | apply Kd.R_drewN | apply Kd.R_drew)); exact HO287.out) Q1) hk (fun _ h => h.2)) (fun _ h => h.1)); have n2_ := Aside0.mk (KeepBut.trans Q62 hk (.inl rfl)); have n3_ := Aside0.mk (hb); have n4_ := Aside0.mk (hi); clear BK282; clear HO287; clear HK; clear HB; clear HI0; have BK282 := n0_; have HO287 := n1_; have HK := n2_; have HB := n3_; have HI0 := n4_; clear n0_ n1_ n2_ n3_ n4_; (try clear hb); (try clear hb2); (try clear hk); (try clear hi); obtain ⟨Ao19, co19, eo19⟩ := Kd.R_slice HO287.out; subst eo19; have p290 : 0 ≤ (t288 : Int) := of_decide_eq_true Q7; have q290 : t288 < (y285.length : Int) := of_decide_eq_true Q7; obtain ⟨ad290, e290, hx290_0⟩ := Kd.at_int (Kd.R_reads' HO287.out).2.2 t288 p290 q290; cases e290; replace p290 := eq_true p290; replace q290 := eq_true q290; obtain ⟨hcz20_0, hcz20_1, hcz20_2, hcz20_3, hcz20_4, hfz20_0, hfz20_1, hfz20_2, hfz20_3, hfz20_4⟩ := bx5_ BK282))
  have n0_ : Aside0 (Kd.R (Kd.int .i64) 3 (w18.setCell ⟨gb282, 0, none⟩ (.int .i64 (rd y285 t288))) w.heap.size (fun _ => True) (.slice (some ad290) y285.length co19) y285) := ⟨by (with_reducible repeat (first | apply Kd.R_alloc | apply Kd.R_drewN | apply Kd.R_drew)); exact Kd.R_mono (Kd.R_far (p := ⟨gb282, 0, none⟩) (Kd.R_types HO287.out BK282.out Q1) (fun _ hk => hk.2) (.int .i64 (rd y285 t288))) (fun _ hk => trivial)⟩
  have n1_ : Aside0 ((w18.setCell ⟨gb282, 0, none⟩ (.int .i64 (rd y285 t288))).heap[gb282]? = some (.cells #[.int .i64 (rd y285 t288), .int .i64 t277, .int .i64 t278, .int .i64 t279, .int .i64 t280] 38 (0, 0))) := ⟨by (with_reducible repeat (first | refine blk_drewN ?_ _ | refine blk_drew ?_ | refine blk_alloc ?_ _)); refine blk_put (cs := #[.int .i64 t276, .int .i64 t277, .int .i64 t278, .int .i64 t279, .int .i64 t280]) ?_ 0 _ rfl; (with_reducible repeat (first | refine blk_drewN ?_ _ | refine blk_drew ?_ | refine blk_alloc ?_ _)); exact BK282.out⟩
  have n2_ : Aside0 (IsS87 w0 (w18.setCell ⟨gb282, 0, none⟩ (.int .i64 (rd y285 t288))) g s0_0 tp) := ⟨Q66⟩
  have n3_ : Aside0 (KeepBut w (w18.setCell ⟨gb282, 0, none⟩ (.int .i64 (rd y285 t288))) g none) := ⟨Q62⟩
  have n4_ : Aside0 (Below w0.heap.size w0 (w18.setCell ⟨gb282, 0, none⟩ (.int .i64 (rd y285 t288)))) := ⟨Q73⟩
  (try clear HO287)
  (try clear BK282)
  (try clear HI0)
  (try clear HK)
  (try clear HB)
  generalize (w18.setCell ⟨gb282, 0, none⟩ (.int .i64 (rd y285 t288))) = wT at n0_ n1_ n2_ n3_ n4_ ⊢
  have HO287 := n0_
  have BK282 := n1_
  have HI0 := n2_
  have HK := n3_
  have HB := n4_
  clear n0_ n1_ n2_ n3_ n4_
  clear HO287
  obtain ⟨e0, e1, e2, e3, e4, hE, BKE⟩ : ∃ e0 e1 e2 e3 e4 : Int, (⟨e0, e1, ⟨e2, e3⟩, e4⟩ : S38) = ⟨(rd y285 t288), t277, ⟨t278, t279⟩, t280⟩ ∧ Aside0 (wT.heap[gb282]? = some (.cells #[.int .i64 e0, .int .i64 e1, .int .i64 e2, .int .i64 e3, .int .i64 e4] 38 (0, 0))) := ⟨_, _, _, _, _, rfl, BK282⟩
  clear BK282; have BK282 := BKE; clear BKE
  have Ny_ := Aside0.mk (Nyc.out.trans (congrArg (fun z : S38 => [z]) hE.symm)); clear Nyc; have Nyc := Ny_; clear Ny_ hE
 case' neg =>
  rw [if_neg c5] at H
  have c5b0 : (t283 == 0) = false := beq_eq_false_iff_ne.mpr c5
  have c5b1 : (t283 != 0) = true := bne_iff_ne.mpr c5
  by_cases c31 : t283 = 1
  case' pos =>
   rw [if_pos c31] at H
   have c31b0 : (t283 == 1) = true := beq_iff_eq.mpr c31
   have c31b1 : (t283 != 1) = false := bne_eq_false_iff_eq.mpr c31
   clear c31
   obtain ⟨y303, hy_⟩ : ∃ y_ : List Int, y_ = (([(-1), 100] : List Int)) := ⟨_, rfl⟩
   replace H : ((spec_l6Rd_pick.f k s0_0 t284 2).bind fun bt306 => (if 0 ≤ bt306.1 then (if bt306.1 < (y303.length : Int) then ((some (([] : List (S38)) : List (S38))).bind fun ya => (if ya.length + l1.length < 3518437208883 then ((some (ya ++ l1 : List (S38))).bind fun yb => ((some (([(⟨t276, rd y303 bt306.1, (⟨t278, t279⟩ : S36), t280⟩ : S38)] : List (S38)) : List (S38))).bind fun yc => (if yb.length + yc.length < 3518437208883 then (some ((yb ++ yc), bt306.2)) else (none)))) else (none))) else (none)) else (none))) = some (r1, r2) := Q77
   have Ny303 := Aside0.mk hy_
   clear hy_
   replace H := Option.bind_eq_some_iff.mp H
   obtain ⟨⟨t306, tp⟩, A320, H⟩ := H
   replace H : (if 0 ≤ t306 then (if t306 < (y303.length : Int) then ((some (([] : List (S38)) : List (S38))).bind fun ya => (if ya.length + l1.length < 3518437208883 then ((some (ya ++ l1 : List (S38))).bind fun yb => ((some (([(⟨t276, rd y303 t306, (⟨t278, t279⟩ : S36), t280⟩ : S38)] : List (S38)) : List (S38))).bind fun yc => (if yb.length + yc.length < 3518437208883 then (some ((yb ++ yc), tp)) else (none)))) else (none))) else (none)) else (none)) = some (r1, r2) := H
   have A32 := Aside0.mk A320
   clear A320
   have c33 : 0 ≤ t306 := Classical.byContradiction fun hn_ => by rw [if_neg hn_] at H; exact absurd H Q0
   rw [if_pos c33] at H
   have c33b0 : decide (0 ≤ t306) = true := decide_eq_true c33
   clear c33
   have c34 : t306 < (y303.length : Int) := Classical.byContradiction fun hn_ => by rw [if_neg hn_] at H; exact absurd H Q0
   rw [if_pos c34] at H
   have c34b0 : decide (t306 < (y303.length : Int)) = true := decide_eq_true c34
   clear c34
   obtain ⟨ya, hya⟩ : ∃ y_ : List (S38), y_ = (([] : List (S38))) := ⟨_, rfl⟩
   replace H : (if ya.length + l1.length < 3518437208883 then ((some (ya ++ l1 : List (S38))).bind fun yb => ((some (([(⟨t276, rd y303 t306, (⟨t278, t279⟩ : S36), t280⟩ : S38)] : List (S38)) : List (S38))).bind fun yc => (if yb.length + yc.length < 3518437208883 then (some ((yb ++ yc), tp)) else (none)))) else (none)) = some (r1, r2) := Q78
   have Nya := Aside0.mk hya
   clear hya
   have c35 : ya.length + l1.length < 3518437208883 := Classical.byContradiction fun hn_ => by rw [if_neg hn_] at H; exact absurd H Q0
   rw [if_pos c35] at H
   have LMca := Aside0.mk c35
   clear c35
   obtain ⟨yb, hyb⟩ : ∃ y_ : List (S38), y_ = (ya ++ l1) := ⟨_, rfl⟩
   replace H : ((some (([(⟨t276, rd y303 t306, (⟨t278, t279⟩ : S36), t280⟩ : S38)] : List (S38)) : List (S38))).bind fun yc => (if yb.length + yc.length < 3518437208883 then (some ((yb ++ yc), tp)) else (none))) = some (r1, r2) := Q79
   have Nyb := Aside0.mk hyb
   clear hyb
   obtain ⟨yc, hyc⟩ : ∃ y_ : List (S38), y_ = (([(⟨t276, rd y303 t306, (⟨t278, t279⟩ : S36), t280⟩ : S38)] : List (S38))) := ⟨_, rfl⟩
   replace H : (if yb.length + yc.length < 3518437208883 then (some ((yb ++ yc), tp)) else (none)) = some (r1, r2) := Q80
   have Nyc := Aside0.mk hyc
   clear hyc
   have c36 : yb.length + yc.length < 3518437208883 := Classical.byContradiction fun hn_ => by rw [if_neg hn_] at H; exact absurd H Q0
   rw [if_pos c36] at H
   have LMcb := Aside0.mk c36
   clear c36
   obtain ⟨yd, hyd⟩ : ∃ y_ : List (S38), y_ = (yb ++ yc) := ⟨_, rfl⟩
   replace H : (some (yd, tp)) = some (r1, r2) := Q81
   have Nyd := Aside0.mk hyd
   clear hyd
   simp only [Option.some.injEq, Prod.mk.injEq] at H
   obtain ⟨rfl, rfl⟩ := H
   go_enter Try.func81, Try.ntmps81
   try go_wp2_with (first | ((with_reducible refine gate_callee (f := 70) rfl ?_); refine goesL_ (some 7) rfl rfl Try.func70 Q2 rfl #[.pointer (some ⟨g, 0, none⟩)] rfl Q37 ?_; (with_reducible refine (spec_l71Row.calls k g s0_0 s0_1 t276 t277 t278 t279 t280 t281 w0 _ ?side1 ?side2 A3.out).mono ?_); (case side1 => exact Q40); (case side2 => exact Q55); rintro e w37 ⟨rfl, hi, hb, hk⟩; refine ⟨_, rfl, ?_⟩; have n0_ := Aside0.mk (KeepBut.trans Q39 hk (.inl rfl)); have n1_ := Aside0.mk (hb); have n2_ := Aside0.mk (hi); clear HK; clear HB; clear HI0; have HK := n0_; have HB := n1_; have HI0 := n2_; clear n0_ n1_ n2_; (try clear hb); (try clear hb2); (try clear hk); (try clear hi)) | ((with_reducible refine gate_dst (N := 5) rfl ?_); refine box_event ?hg (N := 5) ?hd (cs := #[.int .i64 0, .int .i64 0, .int .i64 0, .int .i64 0, .int .i64 0]) (t := 38) ?hr ?_; (case hd => rfl); (case hg => rfl); (case hr => first | (go_simp; done) | (go_simp; rfl)); intro gb282 hg w38 hbox hb; have n0_ := Aside0.mk (IsS87.below Q40 hb); have n1_ := Aside0.mk (KeepBut.trans Q39 (KeepBut.of_below hb g none) (.inl rfl)); have n2_ := Aside0.mk (below_step Q55 hb); have n3_ := Aside0.mk (hbox); have n4_ := Aside0.mk ((Q86 : w.heap.size ≤ gb282)); have n5_ := Aside0.mk ((Nat.le_trans HW0.out (Q86 : w.heap.size ≤ gb282) : w0.heap.size ≤ gb282)); have n6_ := Aside0.mk ((by rw [hg]; exact Nat.ne_of_lt (IsS87.lt (show IsS87 w0 _ g s0_0 t281 from by repeat (first | (with_reducible first | exact HI0.out | apply IsS87.alloc | apply IsS87.drewN | apply IsS87.drew | apply IsS87.set_1) | exact HI0.out))) : g ≠ gb282)); have n7_ := Aside0.mk ((by rw [hg]; exact Nat.ne_of_gt (IsS87.lt (show IsS87 w0 _ g s0_0 t281 from by repeat (first | (with_reducible first | exact HI0.out | apply IsS87.alloc | apply IsS87.drewN | apply IsS87.drew | apply IsS87.set_1) | exact HI0.out))) : gb282 ≠ g)); clear HI0; clear HK; clear HB; have HI0 := n0_; have HK := n1_; have HB := n2_; have BK282 := n3_; have GW282 := n4_; have GE282 := n5_; have NB0_282 := n6_; have NB282_0 := n7_; clear n0_ n1_ n2_ n3_ n4_ n5_ n6_ n7_; clear hb hbox hg; have hnb39 := NB282_0.out; have hnc39 := NB0_282.out; obtain ⟨hcz40_0, hcz40_1, hcz40_2, hcz40_3, hcz40_4, hfz40_0, hfz40_1, hfz40_2, hfz40_3, hfz40_4⟩ := bx5_ BK282) | ((with_reducible refine gate_callee (f := 68) rfl ?_); refine goesL_ (some 9) rfl rfl Try.func68 Q2 rfl #[.pointer (some ⟨g, 0, none⟩), .int .i64 5] rfl Q37 ?_; (with_reducible refine (spec_l6Rd_pick.calls k g s0_0 t281 5 t283 t284 w0 _ ?side1 ?side2 A4.out).mono ?_); (case side1 => exact Q66); (case side2 => exact Q73); rintro e w41 ⟨rfl, hi, hb, hk⟩; refine ⟨_, rfl, ?_⟩; have n0_ := Aside0.mk (KeepBut.blk hk (g' := gb282) (o := .cells #[.int .i64 t276, .int .i64 t277, .int .i64 t278, .int .i64 t279, .int .i64 t280] 38 (0, 0)) Q82 NB282_0.out Q0); have n1_ := Aside0.mk (KeepBut.trans Q62 hk (.inl rfl)); have n2_ := Aside0.mk (hb); have n3_ := Aside0.mk (hi); clear BK282; clear HK; clear HB; clear HI0; have BK282 := n0_; have HK := n1_; have HB := n2_; have HI0 := n3_; clear n0_ n1_ n2_ n3_; (try clear hb); (try clear hb2); (try clear hk); (try clear hi)) | ((with_reducible refine gate_dst (N := 22) rfl ?_); refine Kd.R_lit (Kd.int .i64) _ 3 ?hg (N := 22) ?hd (xs := ([(-1), 100] : List Int)) (inner := [.int .i64 (-1), .int .i64 100]) (ok := fun _ => True) (okp := fun _ => True) ?hr ?hp (fun _ hk => hk) trivial (Below.refl _ _) (Nat.le_refl _) Q0 ?_; (case hd => rfl); (case hg => rfl); (case hr => first | (go_simp; done) | (go_simp; rfl)); (case hp => exact (Reps.one (show Kd.M (Kd.int .i64) _ _ _ (-1) [.int .i64 (-1)] from rfl) (Reps.one (show Kd.M (Kd.int .i64) _ _ _ 100 [.int .i64 100] from rfl) (Reps.none _ _)))); intro v304 w42 ho43 hb hg_ hnew_; clear hg_ hnew_; (first | rw [← Ny303.out] at ho43 | (simp only [Int.reduceToNat] at ho43; rw [← Ny303.out] at ho43)); have n0_ := Aside0.mk (Kd.R_lower ho43 (keep_size (w := w) (g := g) (row := none) Q62)); have n1_ := Aside0.mk (IsS87.below Q66 hb); have n2_ := Aside0.mk (blk_below (g := gb282) (o := .cells #[.int .i64 t276, .int .i64 t277, .int .i64 t278, .int .i64 t279, .int .i64 t280] 38 (0, 0)) Q32 hb); have n3_ := Aside0.mk (KeepBut.trans Q62 (KeepBut.of_below hb g none) (.inl rfl)); have n4_ := Aside0.mk (below_step Q73 hb); clear HI0; clear BK282; clear HK; clear HB; have HO305 := n0_; have HI0 := n1_; have BK282 := n2_; have HK := n3_; have HB := n4_; clear n0_ n1_ n2_ n3_ n4_; clear hb ho43) | ((with_reducible refine gate_callee (f := 68) rfl ?_); refine goesL_ (some 24) rfl rfl Try.func68 Q2 rfl #[.pointer (some ⟨g, 0, none⟩), .int .i64 2] rfl Q37 ?_; (with_reducible refine (spec_l6Rd_pick.calls k g s0_0 t284 2 t306 tp w0 _ ?side1 ?side2 A32.out).mono ?_); (case side1 => exact Q66); (case side2 => exact Q73); rintro e w44 ⟨rfl, hi, hb, hk⟩; refine ⟨_, rfl, ?_⟩; have n0_ := Aside0.mk (KeepBut.blk hk (g' := gb282) (o := .cells #[.int .i64 t276, .int .i64 t277, .int .i64 t278, .int .i64 t279, .int .i64 t280] 38 (0, 0)) Q32 NB282_0.out Q0); have n1_ := Aside0.mk (Kd.R_mono (Kd.R_keep (IsS87.apart (show IsS87 w0 _ g s0_0 t284 from by repeat (first | (with_reducible first | exact HI0.out | apply IsS87.alloc | apply IsS87.drewN | apply IsS87.drew | apply IsS87.set_1 | refine IsS87.far ?_ NB0_282.out _) | exact HI0.out)) (by (with_reducible repeat (first | apply Kd.R_alloc | apply Kd.R_drewN | apply Kd.R_drew)); exact HO305.out) Q1) hk (fun _ h => h.2)) (fun _ h => h.1)); have n2_ := Aside0.mk (KeepBut.trans Q62 hk (.inl rfl)); have n3_ := Aside0.mk (hb); have n4_ := Aside0.mk (hi); clear BK282; clear HO305; clear HK; clear HB; clear HI0; have BK282 := n0_; have HO305 := n1_; have HK := n2_; have HB := n3_; have HI0 := n4_; clear n0_ n1_ n2_ n3_ n4_; (try clear hb); (try clear hb2); (try clear hk); (try clear hi); obtain ⟨Ao45, co45, eo45⟩ := Kd.R_slice HO305.out; subst eo45; have p308 : 0 ≤ (t306 : Int) := of_decide_eq_true Q7; have q308 : t306 < (y303.length : Int) := of_decide_eq_true Q7; obtain ⟨ad308, e308, hx308_0⟩ := Kd.at_int (Kd.R_reads' HO305.out).2.2 t306 p308 q308; cases e308; replace p308 := eq_true p308; replace q308 := eq_true q308; obtain ⟨hcz46_0, hcz46_1, hcz46_2, hcz46_3, hcz46_4, hfz46_0, hfz46_1, hfz46_2, hfz46_3, hfz46_4⟩ := bx5_ BK282))
   have n0_ : Aside0 (Kd.R (Kd.int .i64) 3 (w44.setCell ⟨gb282, 1, none⟩ (.int .i64 (rd y303 t306))) w.heap.size (fun _ => True) (.slice (some ad308) y303.length co45) y303) := ⟨by (with_reducible repeat (first | apply Kd.R_alloc | apply Kd.R_drewN | apply Kd.R_drew)); exact Kd.R_mono (Kd.R_far (p := ⟨gb282, 1, none⟩) (Kd.R_types HO305.out BK282.out Q1) (fun _ hk => hk.2) (.int .i64 (rd y303 t306))) (fun _ hk => trivial)⟩
   have n1_ : Aside0 ((w44.setCell ⟨gb282, 1, none⟩ (.int .i64 (rd y303 t306))).heap[gb282]? = some (.cells #[.int .i64 t276, .int .i64 (rd y303 t306), .int .i64 t278, .int .i64 t279, .int .i64 t280] 38 (0, 0))) := ⟨by (with_reducible repeat (first | refine blk_drewN ?_ _ | refine blk_drew ?_ | refine blk_alloc ?_ _)); refine blk_put (cs := #[.int .i64 t276, .int .i64 t277, .int .i64 t278, .int .i64 t279, .int .i64 t280]) ?_ 1 _ rfl; (with_reducible repeat (first | refine blk_drewN ?_ _ | refine blk_drew ?_ | refine blk_alloc ?_ _)); exact BK282.out⟩
   have n2_ : Aside0 (IsS87 w0 (w44.setCell ⟨gb282, 1, none⟩ (.int .i64 (rd y303 t306))) g s0_0 tp) := ⟨Q66⟩
   have n3_ : Aside0 (KeepBut w (w44.setCell ⟨gb282, 1, none⟩ (.int .i64 (rd y303 t306))) g none) := ⟨Q62⟩
   have n4_ : Aside0 (Below w0.heap.size w0 (w44.setCell ⟨gb282, 1, none⟩ (.int .i64 (rd y303 t306)))) := ⟨Q73⟩
   (try clear HO305)
   (try clear BK282)
   (try clear HI0)
   (try clear HK)
   (try clear HB)
   generalize (w44.setCell ⟨gb282, 1, none⟩ (.int .i64 (rd y303 t306))) = wT at n0_ n1_ n2_ n3_ n4_ ⊢
   have HO305 := n0_
   have BK282 := n1_
   have HI0 := n2_
   have HK := n3_
   have HB := n4_
   clear n0_ n1_ n2_ n3_ n4_
   clear HO305
   obtain ⟨e0, e1, e2, e3, e4, hE, BKE⟩ : ∃ e0 e1 e2 e3 e4 : Int, (⟨e0, e1, ⟨e2, e3⟩, e4⟩ : S38) = ⟨t276, (rd y303 t306), ⟨t278, t279⟩, t280⟩ ∧ Aside0 (wT.heap[gb282]? = some (.cells #[.int .i64 e0, .int .i64 e1, .int .i64 e2, .int .i64 e3, .int .i64 e4] 38 (0, 0))) := ⟨_, _, _, _, _, rfl, BK282⟩
   clear BK282; have BK282 := BKE; clear BKE
   have Ny_ := Aside0.mk (Nyc.out.trans (congrArg (fun z : S38 => [z]) hE.symm)); clear Nyc; have Nyc := Ny_; clear Ny_ hE
  case' neg =>
   rw [if_neg c31] at H
   have c31b0 : (t283 == 1) = false := beq_eq_false_iff_ne.mpr c31
   have c31b1 : (t283 != 1) = true := bne_iff_ne.mpr c31
   by_cases c57 : t283 = 2
   case' pos =>
    rw [if_pos c57] at H
    have c57b0 : (t283 == 2) = true := beq_iff_eq.mpr c57
    have c57b1 : (t283 != 2) = false := bne_eq_false_iff_eq.mpr c57
    clear c57
    obtain ⟨ya, hya⟩ : ∃ y_ : List (S38), y_ = (([] : List (S38))) := ⟨_, rfl⟩
    replace H : (if ya.length + l1.length < 3518437208883 then ((some (ya ++ l1 : List (S38))).bind fun yb => ((some (([(⟨t276, t277, (⟨(-1), 0⟩ : S36), t280⟩ : S38)] : List (S38)) : List (S38))).bind fun yc => (if yb.length + yc.length < 3518437208883 then (some ((yb ++ yc), t284)) else (none)))) else (none)) = some (r1, r2) := Q78
    have Nya := Aside0.mk hya
    clear hya
    have c58 : ya.length + l1.length < 3518437208883 := Classical.byContradiction fun hn_ => by rw [if_neg hn_] at H; exact absurd H Q0
    rw [if_pos c58] at H
    have LMca := Aside0.mk c58
    clear c58
    obtain ⟨yb, hyb⟩ : ∃ y_ : List (S38), y_ = (ya ++ l1) := ⟨_, rfl⟩
    replace H : ((some (([(⟨t276, t277, (⟨(-1), 0⟩ : S36), t280⟩ : S38)] : List (S38)) : List (S38))).bind fun yc => (if yb.length + yc.length < 3518437208883 then (some ((yb ++ yc), t284)) else (none))) = some (r1, r2) := Q79
    have Nyb := Aside0.mk hyb
    clear hyb
    obtain ⟨yc, hyc⟩ : ∃ y_ : List (S38), y_ = (([(⟨t276, t277, (⟨(-1), 0⟩ : S36), t280⟩ : S38)] : List (S38))) := ⟨_, rfl⟩
    replace H : (if yb.length + yc.length < 3518437208883 then (some ((yb ++ yc), t284)) else (none)) = some (r1, r2) := Q80
    have Nyc := Aside0.mk hyc
    clear hyc
    have c59 : yb.length + yc.length < 3518437208883 := Classical.byContradiction fun hn_ => by rw [if_neg hn_] at H; exact absurd H Q0
    rw [if_pos c59] at H
    have LMcb := Aside0.mk c59
    clear c59
    obtain ⟨yd, hyd⟩ : ∃ y_ : List (S38), y_ = (yb ++ yc) := ⟨_, rfl⟩
    replace H : (some (yd, t284)) = some (r1, r2) := Q81
    have Nyd := Aside0.mk hyd
    clear hyd
    simp only [Option.some.injEq, Prod.mk.injEq] at H
    obtain ⟨rfl, rfl⟩ := H
    go_enter Try.func81, Try.ntmps81
    try go_wp2_with (first | ((with_reducible refine gate_callee (f := 70) rfl ?_); refine goesL_ (some 7) rfl rfl Try.func70 Q2 rfl #[.pointer (some ⟨g, 0, none⟩)] rfl Q37 ?_; (with_reducible refine (spec_l71Row.calls k g s0_0 s0_1 t276 t277 t278 t279 t280 t281 w0 _ ?side1 ?side2 A3.out).mono ?_); (case side1 => exact Q40); (case side2 => exact Q55); rintro e w60 ⟨rfl, hi, hb, hk⟩; refine ⟨_, rfl, ?_⟩; have n0_ := Aside0.mk (KeepBut.trans Q39 hk (.inl rfl)); have n1_ := Aside0.mk (hb); have n2_ := Aside0.mk (hi); clear HK; clear HB; clear HI0; have HK := n0_; have HB := n1_; have HI0 := n2_; clear n0_ n1_ n2_; (try clear hb); (try clear hb2); (try clear hk); (try clear hi)) | ((with_reducible refine gate_dst (N := 5) rfl ?_); refine box_event ?hg (N := 5) ?hd (cs := #[.int .i64 0, .int .i64 0, .int .i64 0, .int .i64 0, .int .i64 0]) (t := 38) ?hr ?_; (case hd => rfl); (case hg => rfl); (case hr => first | (go_simp; done) | (go_simp; rfl)); intro gb282 hg w61 hbox hb; have n0_ := Aside0.mk (IsS87.below Q40 hb); have n1_ := Aside0.mk (KeepBut.trans Q39 (KeepBut.of_below hb g none) (.inl rfl)); have n2_ := Aside0.mk (below_step Q55 hb); have n3_ := Aside0.mk (hbox); have n4_ := Aside0.mk ((Q86 : w.heap.size ≤ gb282)); have n5_ := Aside0.mk ((Nat.le_trans HW0.out (Q86 : w.heap.size ≤ gb282) : w0.heap.size ≤ gb282)); have n6_ := Aside0.mk ((by rw [hg]; exact Nat.ne_of_lt (IsS87.lt (show IsS87 w0 _ g s0_0 t281 from by repeat (first | (with_reducible first | exact HI0.out | apply IsS87.alloc | apply IsS87.drewN | apply IsS87.drew | apply IsS87.set_1) | exact HI0.out))) : g ≠ gb282)); have n7_ := Aside0.mk ((by rw [hg]; exact Nat.ne_of_gt (IsS87.lt (show IsS87 w0 _ g s0_0 t281 from by repeat (first | (with_reducible first | exact HI0.out | apply IsS87.alloc | apply IsS87.drewN | apply IsS87.drew | apply IsS87.set_1) | exact HI0.out))) : gb282 ≠ g)); clear HI0; clear HK; clear HB; have HI0 := n0_; have HK := n1_; have HB := n2_; have BK282 := n3_; have GW282 := n4_; have GE282 := n5_; have NB0_282 := n6_; have NB282_0 := n7_; clear n0_ n1_ n2_ n3_ n4_ n5_ n6_ n7_; clear hb hbox hg; have hnb62 := NB282_0.out; have hnc62 := NB0_282.out; obtain ⟨hcz63_0, hcz63_1, hcz63_2, hcz63_3, hcz63_4, hfz63_0, hfz63_1, hfz63_2, hfz63_3, hfz63_4⟩ := bx5_ BK282) | ((with_reducible refine gate_callee (f := 68) rfl ?_); refine goesL_ (some 9) rfl rfl Try.func68 Q2 rfl #[.pointer (some ⟨g, 0, none⟩), .int .i64 5] rfl Q37 ?_; (with_reducible refine (spec_l6Rd_pick.calls k g s0_0 t281 5 t283 t284 w0 _ ?side1 ?side2 A4.out).mono ?_); (case side1 => exact Q66); (case side2 => exact Q73); rintro e w64 ⟨rfl, hi, hb, hk⟩; refine ⟨_, rfl, ?_⟩; have n0_ := Aside0.mk (KeepBut.blk hk (g' := gb282) (o := .cells #[.int .i64 t276, .int .i64 t277, .int .i64 t278, .int .i64 t279, .int .i64 t280] 38 (0, 0)) Q82 NB282_0.out Q0); have n1_ := Aside0.mk (KeepBut.trans Q62 hk (.inl rfl)); have n2_ := Aside0.mk (hb); have n3_ := Aside0.mk (hi); clear BK282; clear HK; clear HB; clear HI0; have BK282 := n0_; have HK := n1_; have HB := n2_; have HI0 := n3_; clear n0_ n1_ n2_ n3_; (try clear hb); (try clear hb2); (try clear hk); (try clear hi); obtain ⟨hcz65_0, hcz65_1, hcz65_2, hcz65_3, hcz65_4, hfz65_0, hfz65_1, hfz65_2, hfz65_3, hfz65_4⟩ := bx5_ BK282))
    have n0_ : Aside0 (((w64.setCell ⟨gb282, 2, none⟩ (.int .i64 (-1))).setCell ⟨gb282, 3, none⟩ (.int .i64 0)).heap[gb282]? = some (.cells #[.int .i64 t276, .int .i64 t277, .int .i64 (-1), .int .i64 0, .int .i64 t280] 38 (0, 0))) := ⟨by (with_reducible repeat (first | refine blk_drewN ?_ _ | refine blk_drew ?_ | refine blk_alloc ?_ _)); refine blk_put (cs := #[.int .i64 t276, .int .i64 t277, .int .i64 (-1), .int .i64 t279, .int .i64 t280]) ?_ 3 _ rfl; (with_reducible repeat (first | refine blk_drewN ?_ _ | refine blk_drew ?_ | refine blk_alloc ?_ _)); refine blk_put (cs := #[.int .i64 t276, .int .i64 t277, .int .i64 t278, .int .i64 t279, .int .i64 t280]) ?_ 2 _ rfl; (with_reducible repeat (first | refine blk_drewN ?_ _ | refine blk_drew ?_ | refine blk_alloc ?_ _)); exact BK282.out⟩
    have n1_ : Aside0 (IsS87 w0 ((w64.setCell ⟨gb282, 2, none⟩ (.int .i64 (-1))).setCell ⟨gb282, 3, none⟩ (.int .i64 0)) g s0_0 t284) := ⟨Q66⟩
    have n2_ : Aside0 (KeepBut w ((w64.setCell ⟨gb282, 2, none⟩ (.int .i64 (-1))).setCell ⟨gb282, 3, none⟩ (.int .i64 0)) g none) := ⟨Q62⟩
    have n3_ : Aside0 (Below w0.heap.size w0 ((w64.setCell ⟨gb282, 2, none⟩ (.int .i64 (-1))).setCell ⟨gb282, 3, none⟩ (.int .i64 0))) := ⟨Q73⟩
    (try clear BK282)
    (try clear HI0)
    (try clear HK)
    (try clear HB)
    generalize ((w64.setCell ⟨gb282, 2, none⟩ (.int .i64 (-1))).setCell ⟨gb282, 3, none⟩ (.int .i64 0)) = wT at n0_ n1_ n2_ n3_ ⊢
    have BK282 := n0_
    have HI0 := n1_
    have HK := n2_
    have HB := n3_
    clear n0_ n1_ n2_ n3_
    obtain ⟨tp, hT_⟩ : ∃ tp, tp = t284 := ⟨_, rfl⟩; subst hT_
    obtain ⟨e0, e1, e2, e3, e4, hE, BKE⟩ : ∃ e0 e1 e2 e3 e4 : Int, (⟨e0, e1, ⟨e2, e3⟩, e4⟩ : S38) = ⟨t276, t277, ⟨(-1), 0⟩, t280⟩ ∧ Aside0 (wT.heap[gb282]? = some (.cells #[.int .i64 e0, .int .i64 e1, .int .i64 e2, .int .i64 e3, .int .i64 e4] 38 (0, 0))) := ⟨_, _, _, _, _, rfl, BK282⟩
    clear BK282; have BK282 := BKE; clear BKE
    have Ny_ := Aside0.mk (Nyc.out.trans (congrArg (fun z : S38 => [z]) hE.symm)); clear Nyc; have Nyc := Ny_; clear Ny_ hE
   case' neg =>
    rw [if_neg c57] at H
    have c57b0 : (t283 == 2) = false := beq_eq_false_iff_ne.mpr c57
    have c57b1 : (t283 != 2) = true := bne_iff_ne.mpr c57
    by_cases c76 : t283 = 3
    case' pos =>
     rw [if_pos c76] at H
     have c76b0 : (t283 == 3) = true := beq_iff_eq.mpr c76
     have c76b1 : (t283 != 3) = false := bne_eq_false_iff_eq.mpr c76
     clear c76
     obtain ⟨y333, hy_⟩ : ∃ y_ : List Int, y_ = (([(-100000), 100000] : List Int)) := ⟨_, rfl⟩
     replace H : ((spec_l6Rd_pick.f k s0_0 t284 2).bind fun bt336 => (if 0 ≤ bt336.1 then (if bt336.1 < (y333.length : Int) then ((some (([] : List (S38)) : List (S38))).bind fun ya => (if ya.length + l1.length < 3518437208883 then ((some (ya ++ l1 : List (S38))).bind fun yb => ((some (([(⟨t276, t277, (⟨t278, t279⟩ : S36), rd y333 bt336.1⟩ : S38)] : List (S38)) : List (S38))).bind fun yc => (if yb.length + yc.length < 3518437208883 then (some ((yb ++ yc), bt336.2)) else (none)))) else (none))) else (none)) else (none))) = some (r1, r2) := Q77
     have Ny333 := Aside0.mk hy_
     clear hy_
     replace H := Option.bind_eq_some_iff.mp H
     obtain ⟨⟨t336, tp⟩, A770, H⟩ := H
     replace H : (if 0 ≤ t336 then (if t336 < (y333.length : Int) then ((some (([] : List (S38)) : List (S38))).bind fun ya => (if ya.length + l1.length < 3518437208883 then ((some (ya ++ l1 : List (S38))).bind fun yb => ((some (([(⟨t276, t277, (⟨t278, t279⟩ : S36), rd y333 t336⟩ : S38)] : List (S38)) : List (S38))).bind fun yc => (if yb.length + yc.length < 3518437208883 then (some ((yb ++ yc), tp)) else (none)))) else (none))) else (none)) else (none)) = some (r1, r2) := H
     have A77 := Aside0.mk A770
     clear A770
     have c78 : 0 ≤ t336 := Classical.byContradiction fun hn_ => by rw [if_neg hn_] at H; exact absurd H Q0
     rw [if_pos c78] at H
     have c78b0 : decide (0 ≤ t336) = true := decide_eq_true c78
     clear c78
     have c79 : t336 < (y333.length : Int) := Classical.byContradiction fun hn_ => by rw [if_neg hn_] at H; exact absurd H Q0
     rw [if_pos c79] at H
     have c79b0 : decide (t336 < (y333.length : Int)) = true := decide_eq_true c79
     clear c79
     obtain ⟨ya, hya⟩ : ∃ y_ : List (S38), y_ = (([] : List (S38))) := ⟨_, rfl⟩
     replace H : (if ya.length + l1.length < 3518437208883 then ((some (ya ++ l1 : List (S38))).bind fun yb => ((some (([(⟨t276, t277, (⟨t278, t279⟩ : S36), rd y333 t336⟩ : S38)] : List (S38)) : List (S38))).bind fun yc => (if yb.length + yc.length < 3518437208883 then (some ((yb ++ yc), tp)) else (none)))) else (none)) = some (r1, r2) := Q78
     have Nya := Aside0.mk hya
     clear hya
     have c80 : ya.length + l1.length < 3518437208883 := Classical.byContradiction fun hn_ => by rw [if_neg hn_] at H; exact absurd H Q0
     rw [if_pos c80] at H
     have LMca := Aside0.mk c80
     clear c80
     obtain ⟨yb, hyb⟩ : ∃ y_ : List (S38), y_ = (ya ++ l1) := ⟨_, rfl⟩
     replace H : ((some (([(⟨t276, t277, (⟨t278, t279⟩ : S36), rd y333 t336⟩ : S38)] : List (S38)) : List (S38))).bind fun yc => (if yb.length + yc.length < 3518437208883 then (some ((yb ++ yc), tp)) else (none))) = some (r1, r2) := Q79
     have Nyb := Aside0.mk hyb
     clear hyb
     obtain ⟨yc, hyc⟩ : ∃ y_ : List (S38), y_ = (([(⟨t276, t277, (⟨t278, t279⟩ : S36), rd y333 t336⟩ : S38)] : List (S38))) := ⟨_, rfl⟩
     replace H : (if yb.length + yc.length < 3518437208883 then (some ((yb ++ yc), tp)) else (none)) = some (r1, r2) := Q80
     have Nyc := Aside0.mk hyc
     clear hyc
     have c81 : yb.length + yc.length < 3518437208883 := Classical.byContradiction fun hn_ => by rw [if_neg hn_] at H; exact absurd H Q0
     rw [if_pos c81] at H
     have LMcb := Aside0.mk c81
     clear c81
     obtain ⟨yd, hyd⟩ : ∃ y_ : List (S38), y_ = (yb ++ yc) := ⟨_, rfl⟩
     replace H : (some (yd, tp)) = some (r1, r2) := Q81
     have Nyd := Aside0.mk hyd
     clear hyd
     simp only [Option.some.injEq, Prod.mk.injEq] at H
     obtain ⟨rfl, rfl⟩ := H
     go_enter Try.func81, Try.ntmps81
     try go_wp2_with (first | ((with_reducible refine gate_callee (f := 70) rfl ?_); refine goesL_ (some 7) rfl rfl Try.func70 Q2 rfl #[.pointer (some ⟨g, 0, none⟩)] rfl Q37 ?_; (with_reducible refine (spec_l71Row.calls k g s0_0 s0_1 t276 t277 t278 t279 t280 t281 w0 _ ?side1 ?side2 A3.out).mono ?_); (case side1 => exact Q40); (case side2 => exact Q55); rintro e w82 ⟨rfl, hi, hb, hk⟩; refine ⟨_, rfl, ?_⟩; have n0_ := Aside0.mk (KeepBut.trans Q39 hk (.inl rfl)); have n1_ := Aside0.mk (hb); have n2_ := Aside0.mk (hi); clear HK; clear HB; clear HI0; have HK := n0_; have HB := n1_; have HI0 := n2_; clear n0_ n1_ n2_; (try clear hb); (try clear hb2); (try clear hk); (try clear hi)) | ((with_reducible refine gate_dst (N := 5) rfl ?_); refine box_event ?hg (N := 5) ?hd (cs := #[.int .i64 0, .int .i64 0, .int .i64 0, .int .i64 0, .int .i64 0]) (t := 38) ?hr ?_; (case hd => rfl); (case hg => rfl); (case hr => first | (go_simp; done) | (go_simp; rfl)); intro gb282 hg w83 hbox hb; have n0_ := Aside0.mk (IsS87.below Q40 hb); have n1_ := Aside0.mk (KeepBut.trans Q39 (KeepBut.of_below hb g none) (.inl rfl)); have n2_ := Aside0.mk (below_step Q55 hb); have n3_ := Aside0.mk (hbox); have n4_ := Aside0.mk ((Q86 : w.heap.size ≤ gb282)); have n5_ := Aside0.mk ((Nat.le_trans HW0.out (Q86 : w.heap.size ≤ gb282) : w0.heap.size ≤ gb282)); have n6_ := Aside0.mk ((by rw [hg]; exact Nat.ne_of_lt (IsS87.lt (show IsS87 w0 _ g s0_0 t281 from by repeat (first | (with_reducible first | exact HI0.out | apply IsS87.alloc | apply IsS87.drewN | apply IsS87.drew | apply IsS87.set_1) | exact HI0.out))) : g ≠ gb282)); have n7_ := Aside0.mk ((by rw [hg]; exact Nat.ne_of_gt (IsS87.lt (show IsS87 w0 _ g s0_0 t281 from by repeat (first | (with_reducible first | exact HI0.out | apply IsS87.alloc | apply IsS87.drewN | apply IsS87.drew | apply IsS87.set_1) | exact HI0.out))) : gb282 ≠ g)); clear HI0; clear HK; clear HB; have HI0 := n0_; have HK := n1_; have HB := n2_; have BK282 := n3_; have GW282 := n4_; have GE282 := n5_; have NB0_282 := n6_; have NB282_0 := n7_; clear n0_ n1_ n2_ n3_ n4_ n5_ n6_ n7_; clear hb hbox hg; have hnb84 := NB282_0.out; have hnc84 := NB0_282.out; obtain ⟨hcz85_0, hcz85_1, hcz85_2, hcz85_3, hcz85_4, hfz85_0, hfz85_1, hfz85_2, hfz85_3, hfz85_4⟩ := bx5_ BK282) | ((with_reducible refine gate_callee (f := 68) rfl ?_); refine goesL_ (some 9) rfl rfl Try.func68 Q2 rfl #[.pointer (some ⟨g, 0, none⟩), .int .i64 5] rfl Q37 ?_; (with_reducible refine (spec_l6Rd_pick.calls k g s0_0 t281 5 t283 t284 w0 _ ?side1 ?side2 A4.out).mono ?_); (case side1 => exact Q66); (case side2 => exact Q73); rintro e w86 ⟨rfl, hi, hb, hk⟩; refine ⟨_, rfl, ?_⟩; have n0_ := Aside0.mk (KeepBut.blk hk (g' := gb282) (o := .cells #[.int .i64 t276, .int .i64 t277, .int .i64 t278, .int .i64 t279, .int .i64 t280] 38 (0, 0)) Q82 NB282_0.out Q0); have n1_ := Aside0.mk (KeepBut.trans Q62 hk (.inl rfl)); have n2_ := Aside0.mk (hb); have n3_ := Aside0.mk (hi); clear BK282; clear HK; clear HB; clear HI0; have BK282 := n0_; have HK := n1_; have HB := n2_; have HI0 := n3_; clear n0_ n1_ n2_ n3_; (try clear hb); (try clear hb2); (try clear hk); (try clear hi)) | ((with_reducible refine gate_dst (N := 34) rfl ?_); refine Kd.R_lit (Kd.int .i64) _ 3 ?hg (N := 34) ?hd (xs := ([(-100000), 100000] : List Int)) (inner := [.int .i64 (-100000), .int .i64 100000]) (ok := fun _ => True) (okp := fun _ => True) ?hr ?hp (fun _ hk => hk) trivial (Below.refl _ _) (Nat.le_refl _) Q0 ?_; (case hd => rfl); (case hg => rfl); (case hr => first | (go_simp; done) | (go_simp; rfl)); (case hp => exact (Reps.one (show Kd.M (Kd.int .i64) _ _ _ (-100000) [.int .i64 (-100000)] from rfl) (Reps.one (show Kd.M (Kd.int .i64) _ _ _ 100000 [.int .i64 100000] from rfl) (Reps.none _ _)))); intro v334 w87 ho88 hb hg_ hnew_; clear hg_ hnew_; (first | rw [← Ny333.out] at ho88 | (simp only [Int.reduceToNat] at ho88; rw [← Ny333.out] at ho88)); have n0_ := Aside0.mk (Kd.R_lower ho88 (keep_size (w := w) (g := g) (row := none) Q62)); have n1_ := Aside0.mk (IsS87.below Q66 hb); have n2_ := Aside0.mk (blk_below (g := gb282) (o := .cells #[.int .i64 t276, .int .i64 t277, .int .i64 t278, .int .i64 t279, .int .i64 t280] 38 (0, 0)) Q32 hb); have n3_ := Aside0.mk (KeepBut.trans Q62 (KeepBut.of_below hb g none) (.inl rfl)); have n4_ := Aside0.mk (below_step Q73 hb); clear HI0; clear BK282; clear HK; clear HB; have HO335 := n0_; have HI0 := n1_; have BK282 := n2_; have HK := n3_; have HB := n4_; clear n0_ n1_ n2_ n3_ n4_; clear hb ho88) | ((with_reducible refine gate_callee (f := 68) rfl ?_); refine goesL_ (some 36) rfl rfl Try.func68 Q2 rfl #[.pointer (some ⟨g, 0, none⟩), .int .i64 2] rfl Q37 ?_; (with_reducible refine (spec_l6Rd_pick.calls k g s0_0 t284 2 t336 tp w0 _ ?side1 ?side2 A77.out).mono ?_); (case side1 => exact Q66); (case side2 => exact Q73); rintro e w89 ⟨rfl, hi, hb, hk⟩; refine ⟨_, rfl, ?_⟩; have n0_ := Aside0.mk (KeepBut.blk hk (g' := gb282) (o := .cells #[.int .i64 t276, .int .i64 t277, .int .i64 t278, .int .i64 t279, .int .i64 t280] 38 (0, 0)) Q32 NB282_0.out Q0); have n1_ := Aside0.mk (Kd.R_mono (Kd.R_keep (IsS87.apart (show IsS87 w0 _ g s0_0 t284 from by repeat (first | (with_reducible first | exact HI0.out | apply IsS87.alloc | apply IsS87.drewN | apply IsS87.drew | apply IsS87.set_1 | refine IsS87.far ?_ NB0_282.out _) | exact HI0.out)) (by (with_reducible repeat (first | apply Kd.R_alloc | apply Kd.R_drewN | apply Kd.R_drew)); exact HO335.out) Q1) hk (fun _ h => h.2)) (fun _ h => h.1)); have n2_ := Aside0.mk (KeepBut.trans Q62 hk (.inl rfl)); have n3_ := Aside0.mk (hb); have n4_ := Aside0.mk (hi); clear BK282; clear HO335; clear HK; clear HB; clear HI0; have BK282 := n0_; have HO335 := n1_; have HK := n2_; have HB := n3_; have HI0 := n4_; clear n0_ n1_ n2_ n3_ n4_; (try clear hb); (try clear hb2); (try clear hk); (try clear hi); obtain ⟨Ao90, co90, eo90⟩ := Kd.R_slice HO335.out; subst eo90; have p338 : 0 ≤ (t336 : Int) := of_decide_eq_true Q7; have q338 : t336 < (y333.length : Int) := of_decide_eq_true Q7; obtain ⟨ad338, e338, hx338_0⟩ := Kd.at_int (Kd.R_reads' HO335.out).2.2 t336 p338 q338; cases e338; replace p338 := eq_true p338; replace q338 := eq_true q338; obtain ⟨hcz91_0, hcz91_1, hcz91_2, hcz91_3, hcz91_4, hfz91_0, hfz91_1, hfz91_2, hfz91_3, hfz91_4⟩ := bx5_ BK282))
     have n0_ : Aside0 (Kd.R (Kd.int .i64) 3 (w89.setCell ⟨gb282, 4, none⟩ (.int .i64 (rd y333 t336))) w.heap.size (fun _ => True) (.slice (some ad338) y333.length co90) y333) := ⟨by (with_reducible repeat (first | apply Kd.R_alloc | apply Kd.R_drewN | apply Kd.R_drew)); exact Kd.R_mono (Kd.R_far (p := ⟨gb282, 4, none⟩) (Kd.R_types HO335.out BK282.out Q1) (fun _ hk => hk.2) (.int .i64 (rd y333 t336))) (fun _ hk => trivial)⟩
     have n1_ : Aside0 ((w89.setCell ⟨gb282, 4, none⟩ (.int .i64 (rd y333 t336))).heap[gb282]? = some (.cells #[.int .i64 t276, .int .i64 t277, .int .i64 t278, .int .i64 t279, .int .i64 (rd y333 t336)] 38 (0, 0))) := ⟨by (with_reducible repeat (first | refine blk_drewN ?_ _ | refine blk_drew ?_ | refine blk_alloc ?_ _)); refine blk_put (cs := #[.int .i64 t276, .int .i64 t277, .int .i64 t278, .int .i64 t279, .int .i64 t280]) ?_ 4 _ rfl; (with_reducible repeat (first | refine blk_drewN ?_ _ | refine blk_drew ?_ | refine blk_alloc ?_ _)); exact BK282.out⟩
     have n2_ : Aside0 (IsS87 w0 (w89.setCell ⟨gb282, 4, none⟩ (.int .i64 (rd y333 t336))) g s0_0 tp) := ⟨Q66⟩
     have n3_ : Aside0 (KeepBut w (w89.setCell ⟨gb282, 4, none⟩ (.int .i64 (rd y333 t336))) g none) := ⟨Q62⟩
     have n4_ : Aside0 (Below w0.heap.size w0 (w89.setCell ⟨gb282, 4, none⟩ (.int .i64 (rd y333 t336)))) := ⟨Q73⟩
     (try clear HO335)
     (try clear BK282)
     (try clear HI0)
     (try clear HK)
     (try clear HB)
     generalize (w89.setCell ⟨gb282, 4, none⟩ (.int .i64 (rd y333 t336))) = wT at n0_ n1_ n2_ n3_ n4_ ⊢
     have HO335 := n0_
     have BK282 := n1_
     have HI0 := n2_
     have HK := n3_
     have HB := n4_
     clear n0_ n1_ n2_ n3_ n4_
     clear HO335
     obtain ⟨e0, e1, e2, e3, e4, hE, BKE⟩ : ∃ e0 e1 e2 e3 e4 : Int, (⟨e0, e1, ⟨e2, e3⟩, e4⟩ : S38) = ⟨t276, t277, ⟨t278, t279⟩, (rd y333 t336)⟩ ∧ Aside0 (wT.heap[gb282]? = some (.cells #[.int .i64 e0, .int .i64 e1, .int .i64 e2, .int .i64 e3, .int .i64 e4] 38 (0, 0))) := ⟨_, _, _, _, _, rfl, BK282⟩
     clear BK282; have BK282 := BKE; clear BKE
     have Ny_ := Aside0.mk (Nyc.out.trans (congrArg (fun z : S38 => [z]) hE.symm)); clear Nyc; have Nyc := Ny_; clear Ny_ hE
    case' neg =>
     rw [if_neg c76] at H
     have c76b0 : (t283 == 3) = false := beq_eq_false_iff_ne.mpr c76
     have c76b1 : (t283 != 3) = true := bne_iff_ne.mpr c76
     obtain ⟨ya, hya⟩ : ∃ y_ : List (S38), y_ = (([] : List (S38))) := ⟨_, rfl⟩
     replace H : (if ya.length + l1.length < 3518437208883 then ((some (ya ++ l1 : List (S38))).bind fun yb => ((some (([(⟨t276, t277, (⟨t278, 8⟩ : S36), t280⟩ : S38)] : List (S38)) : List (S38))).bind fun yc => (if yb.length + yc.length < 3518437208883 then (some ((yb ++ yc), t284)) else (none)))) else (none)) = some (r1, r2) := Q78
     have Nya := Aside0.mk hya
     clear hya
     have c102 : ya.length + l1.length < 3518437208883 := Classical.byContradiction fun hn_ => by rw [if_neg hn_] at H; exact absurd H Q0
     rw [if_pos c102] at H
     have LMca := Aside0.mk c102
     clear c102
     obtain ⟨yb, hyb⟩ : ∃ y_ : List (S38), y_ = (ya ++ l1) := ⟨_, rfl⟩
     replace H : ((some (([(⟨t276, t277, (⟨t278, 8⟩ : S36), t280⟩ : S38)] : List (S38)) : List (S38))).bind fun yc => (if yb.length + yc.length < 3518437208883 then (some ((yb ++ yc), t284)) else (none))) = some (r1, r2) := Q79
     have Nyb := Aside0.mk hyb
     clear hyb
     obtain ⟨yc, hyc⟩ : ∃ y_ : List (S38), y_ = (([(⟨t276, t277, (⟨t278, 8⟩ : S36), t280⟩ : S38)] : List (S38))) := ⟨_, rfl⟩
     replace H : (if yb.length + yc.length < 3518437208883 then (some ((yb ++ yc), t284)) else (none)) = some (r1, r2) := Q80
     have Nyc := Aside0.mk hyc
     clear hyc
     have c103 : yb.length + yc.length < 3518437208883 := Classical.byContradiction fun hn_ => by rw [if_neg hn_] at H; exact absurd H Q0
     rw [if_pos c103] at H
     have LMcb := Aside0.mk c103
     clear c103
     obtain ⟨yd, hyd⟩ : ∃ y_ : List (S38), y_ = (yb ++ yc) := ⟨_, rfl⟩
     replace H : (some (yd, t284)) = some (r1, r2) := Q81
     have Nyd := Aside0.mk hyd
     clear hyd
     simp only [Option.some.injEq, Prod.mk.injEq] at H
     obtain ⟨rfl, rfl⟩ := H
     go_enter Try.func81, Try.ntmps81
     try go_wp2_with (first | ((with_reducible refine gate_callee (f := 70) rfl ?_); refine goesL_ (some 7) rfl rfl Try.func70 Q2 rfl #[.pointer (some ⟨g, 0, none⟩)] rfl Q37 ?_; (with_reducible refine (spec_l71Row.calls k g s0_0 s0_1 t276 t277 t278 t279 t280 t281 w0 _ ?side1 ?side2 A3.out).mono ?_); (case side1 => exact Q40); (case side2 => exact Q55); rintro e w104 ⟨rfl, hi, hb, hk⟩; refine ⟨_, rfl, ?_⟩; have n0_ := Aside0.mk (KeepBut.trans Q39 hk (.inl rfl)); have n1_ := Aside0.mk (hb); have n2_ := Aside0.mk (hi); clear HK; clear HB; clear HI0; have HK := n0_; have HB := n1_; have HI0 := n2_; clear n0_ n1_ n2_; (try clear hb); (try clear hb2); (try clear hk); (try clear hi)) | ((with_reducible refine gate_dst (N := 5) rfl ?_); refine box_event ?hg (N := 5) ?hd (cs := #[.int .i64 0, .int .i64 0, .int .i64 0, .int .i64 0, .int .i64 0]) (t := 38) ?hr ?_; (case hd => rfl); (case hg => rfl); (case hr => first | (go_simp; done) | (go_simp; rfl)); intro gb282 hg w105 hbox hb; have n0_ := Aside0.mk (IsS87.below Q40 hb); have n1_ := Aside0.mk (KeepBut.trans Q39 (KeepBut.of_below hb g none) (.inl rfl)); have n2_ := Aside0.mk (below_step Q55 hb); have n3_ := Aside0.mk (hbox); have n4_ := Aside0.mk ((Q86 : w.heap.size ≤ gb282)); have n5_ := Aside0.mk ((Nat.le_trans HW0.out (Q86 : w.heap.size ≤ gb282) : w0.heap.size ≤ gb282)); have n6_ := Aside0.mk ((by rw [hg]; exact Nat.ne_of_lt (IsS87.lt (show IsS87 w0 _ g s0_0 t281 from by repeat (first | (with_reducible first | exact HI0.out | apply IsS87.alloc | apply IsS87.drewN | apply IsS87.drew | apply IsS87.set_1) | exact HI0.out))) : g ≠ gb282)); have n7_ := Aside0.mk ((by rw [hg]; exact Nat.ne_of_gt (IsS87.lt (show IsS87 w0 _ g s0_0 t281 from by repeat (first | (with_reducible first | exact HI0.out | apply IsS87.alloc | apply IsS87.drewN | apply IsS87.drew | apply IsS87.set_1) | exact HI0.out))) : gb282 ≠ g)); clear HI0; clear HK; clear HB; have HI0 := n0_; have HK := n1_; have HB := n2_; have BK282 := n3_; have GW282 := n4_; have GE282 := n5_; have NB0_282 := n6_; have NB282_0 := n7_; clear n0_ n1_ n2_ n3_ n4_ n5_ n6_ n7_; clear hb hbox hg; have hnb106 := NB282_0.out; have hnc106 := NB0_282.out; obtain ⟨hcz107_0, hcz107_1, hcz107_2, hcz107_3, hcz107_4, hfz107_0, hfz107_1, hfz107_2, hfz107_3, hfz107_4⟩ := bx5_ BK282) | ((with_reducible refine gate_callee (f := 68) rfl ?_); refine goesL_ (some 9) rfl rfl Try.func68 Q2 rfl #[.pointer (some ⟨g, 0, none⟩), .int .i64 5] rfl Q37 ?_; (with_reducible refine (spec_l6Rd_pick.calls k g s0_0 t281 5 t283 t284 w0 _ ?side1 ?side2 A4.out).mono ?_); (case side1 => exact Q66); (case side2 => exact Q73); rintro e w108 ⟨rfl, hi, hb, hk⟩; refine ⟨_, rfl, ?_⟩; have n0_ := Aside0.mk (KeepBut.blk hk (g' := gb282) (o := .cells #[.int .i64 t276, .int .i64 t277, .int .i64 t278, .int .i64 t279, .int .i64 t280] 38 (0, 0)) Q82 NB282_0.out Q0); have n1_ := Aside0.mk (KeepBut.trans Q62 hk (.inl rfl)); have n2_ := Aside0.mk (hb); have n3_ := Aside0.mk (hi); clear BK282; clear HK; clear HB; clear HI0; have BK282 := n0_; have HK := n1_; have HB := n2_; have HI0 := n3_; clear n0_ n1_ n2_ n3_; (try clear hb); (try clear hb2); (try clear hk); (try clear hi); obtain ⟨hcz109_0, hcz109_1, hcz109_2, hcz109_3, hcz109_4, hfz109_0, hfz109_1, hfz109_2, hfz109_3, hfz109_4⟩ := bx5_ BK282))
     have n0_ : Aside0 ((w108.setCell ⟨gb282, 3, none⟩ (.int .i64 8)).heap[gb282]? = some (.cells #[.int .i64 t276, .int .i64 t277, .int .i64 t278, .int .i64 8, .int .i64 t280] 38 (0, 0))) := ⟨by (with_reducible repeat (first | refine blk_drewN ?_ _ | refine blk_drew ?_ | refine blk_alloc ?_ _)); refine blk_put (cs := #[.int .i64 t276, .int .i64 t277, .int .i64 t278, .int .i64 t279, .int .i64 t280]) ?_ 3 _ rfl; (with_reducible repeat (first | refine blk_drewN ?_ _ | refine blk_drew ?_ | refine blk_alloc ?_ _)); exact BK282.out⟩
     have n1_ : Aside0 (IsS87 w0 (w108.setCell ⟨gb282, 3, none⟩ (.int .i64 8)) g s0_0 t284) := ⟨Q66⟩
     have n2_ : Aside0 (KeepBut w (w108.setCell ⟨gb282, 3, none⟩ (.int .i64 8)) g none) := ⟨Q62⟩
     have n3_ : Aside0 (Below w0.heap.size w0 (w108.setCell ⟨gb282, 3, none⟩ (.int .i64 8))) := ⟨Q73⟩
     (try clear BK282)
     (try clear HI0)
     (try clear HK)
     (try clear HB)
     generalize (w108.setCell ⟨gb282, 3, none⟩ (.int .i64 8)) = wT at n0_ n1_ n2_ n3_ ⊢
     have BK282 := n0_
     have HI0 := n1_
     have HK := n2_
     have HB := n3_
     clear n0_ n1_ n2_ n3_
     obtain ⟨tp, hT_⟩ : ∃ tp, tp = t284 := ⟨_, rfl⟩; subst hT_
     obtain ⟨e0, e1, e2, e3, e4, hE, BKE⟩ : ∃ e0 e1 e2 e3 e4 : Int, (⟨e0, e1, ⟨e2, e3⟩, e4⟩ : S38) = ⟨t276, t277, ⟨t278, 8⟩, t280⟩ ∧ Aside0 (wT.heap[gb282]? = some (.cells #[.int .i64 e0, .int .i64 e1, .int .i64 e2, .int .i64 e3, .int .i64 e4] 38 (0, 0))) := ⟨_, _, _, _, _, rfl, BK282⟩
     clear BK282; have BK282 := BKE; clear BKE
     have Ny_ := Aside0.mk (Nyc.out.trans (congrArg (fun z : S38 => [z]) hE.symm)); clear Nyc; have Nyc := Ny_; clear Ny_ hE
 all_goals
  have n0_ := Aside0.mk (blk_drew BK282.out)
  have n1_ := Aside0.mk (IsS87.drew HI0.out)
  have n2_ := Aside0.mk (keep_drew HK.out)
  have n3_ := Aside0.mk (below_drew1 HB.out)
  clear BK282
  clear HI0
  clear HK
  clear HB
  have BK282 := n0_
  have HI0 := n1_
  have HK := n2_
  have HB := n3_
  clear n0_ n1_ n2_ n3_
  refine start_ (n := 7) (S := fun w' => w'.cell? ⟨gb282, 0, none⟩ = some (.int .i64 e0) ∧ w'.cell? ⟨gb282, 1, none⟩ = some (.int .i64 e1) ∧ w'.cell? ⟨gb282, 2, none⟩ = some (.int .i64 e2) ∧ w'.cell? ⟨gb282, 3, none⟩ = some (.int .i64 e3) ∧ w'.cell? ⟨gb282, 4, none⟩ = some (.int .i64 e4)) (ds := []) b7_0 Q2 rfl rfl ⟨(blk_cell BK282.out 0).trans rfl, (blk_cell BK282.out 1).trans rfl, (blk_cell BK282.out 2).trans rfl, (blk_cell BK282.out 3).trans rfl, (blk_cell BK282.out 4).trans rfl⟩ (fun hHeld => ?_)
  generalize wT.drew = w111 at BK282 HI0 HK HB hHeld ⊢
  refine pU_ 1 41 c69 ?_
  refine tU_ 3 43 c70 hHeld ?_
  refine join_ (σ := Value × Value × Value) 2 b7_5 (fun s_ => [(40, s_.1), (42, s_.2.1), (44, s_.2.2)]) (fun s_ w' => (w'.cell? ⟨gb282, 0, none⟩ = some (.int .i64 e0) ∧ w'.cell? ⟨gb282, 1, none⟩ = some (.int .i64 e1) ∧ w'.cell? ⟨gb282, 2, none⟩ = some (.int .i64 e2) ∧ w'.cell? ⟨gb282, 3, none⟩ = some (.int .i64 e3) ∧ w'.cell? ⟨gb282, 4, none⟩ = some (.int .i64 e4)) ∧ (Kd.R k38 38 w' w.heap.size (fun k_ => some k_ ≠ (s_.2.2 : Value).ownBlock ∧ k_ ≠ gb282) s_.2.1 yb) ∧ (Kd.R k38 38 w' w.heap.size (fun k_ => some k_ ≠ (s_.2.1 : Value).ownBlock ∧ k_ ≠ gb282) s_.2.2 yc) ∧ (w'.heap[gb282]? = some (.cells #[.int .i64 e0, .int .i64 e1, .int .i64 e2, .int .i64 e3, .int .i64 e4] 38 (0, 0))) ∧ (IsS87 w0 w' g s0_0 tp) ∧ (KeepBut w w' g none) ∧ (Below w0.heap.size w0 w')) ?_ ?_
  rotate_left
  ·intro hCont
   refine two_ (i := 0) (j := 4) (Ni := some 40) (Nj := some 44) c71 c72 rfl rfl rfl rfl Q2 Q1 Q1 (fun K hK => ?_) (fun K hK => ?_)
   ·skip
    refine Kd.R_lit_step k38 _ 38 ?hg (N := 40) ?hd (xs := ([] : List (S38))) (inner := []) (ok := fun _ => True) (okp := fun _ => True) ?hr ?hp (fun _ hk => hk) trivial (Below.refl _ _) (Nat.le_refl _) Q0 ?_; (case hd => rfl); (case hg => rfl); (case hr => first | (go_simp; done) | (go_simp; rfl)); (case hp => exact (Reps.none _ _))
    intro v352 w112 ho113 hb hg_ hnew_
    clear hg_ hnew_
    (first | rw [← Nya.out] at ho113 | (simp only [Int.reduceToNat] at ho113; rw [← Nya.out] at ho113))
    have n0_ := Aside0.mk (Kd.R_lower (Kd.R_newB ho113 (g := gb282) (o := .cells #[.int .i64 e0, .int .i64 e1, .int .i64 e2, .int .i64 e3, .int .i64 e4] 38 (0, 0)) Q32) (keep_size (w := w) (g := g) (row := none) Q62))
    have n1_ := Aside0.mk (IsS87.below Q66 hb)
    have n2_ := Aside0.mk (blk_below (g := gb282) (o := .cells #[.int .i64 e0, .int .i64 e1, .int .i64 e2, .int .i64 e3, .int .i64 e4] 38 (0, 0)) Q32 hb)
    have n3_ := Aside0.mk (KeepBut.trans Q62 (KeepBut.of_below hb g none) (.inl rfl))
    have n4_ := Aside0.mk (below_step Q73 hb)
    clear HI0
    clear BK282
    clear HK
    clear HB
    have HO353 := n0_
    have HI0 := n1_
    have BK282 := n2_
    have HK := n3_
    have HB := n4_
    clear n0_ n1_ n2_ n3_ n4_
    clear hb ho113
    refine hK.out _ _ ⟨(blk_cell BK282.out 0).trans rfl, (blk_cell BK282.out 1).trans rfl, (blk_cell BK282.out 2).trans rfl, (blk_cell BK282.out 3).trans rfl, (blk_cell BK282.out 4).trans rfl⟩ (fun hHeld => ?_)
    clear hK K
    refine norm_ (a' := ?_) ?_ ?_
    rotate_left
    ·show Act.put _ (some 40) _ = _
     simp only [Act.put, List.setIfInBounds_toArray, List.set_cons_zero, List.set_cons_succ, i64_w, i32_w]
     rfl
    refine two_ (i := 2) (j := 4) (Ni := some 42) (Nj := some 44) b7_4 c73 rfl rfl rfl rfl Q2 Q1 Q1 (fun K hK => ?_) (fun K hK => ?_)
    ·skip
     refine Kd.R_append_rows_step k38 w.heap.size (by rfl) (.tmp 40) (.tmp 41) 23 38 (.agg #[(.int .i64 0), (.int .i64 0), (.int .i64 0), (.int .i64 0), (.int .i64 0)]) 40 rfl Try.underlying23 info38 rfl Q1 (by omega) v352 ya l1 _ _ _ (fun k_ => k_ ≠ gb282) (fun _ => False) rfl rfl ?aO ?aR (fun _ _ h => h) (fun _ h => h.elim) ?aF (Below.refl _ _) ?aS ?aL ?_
     (case aR => exact Kd.C_foot_now HR1.out Q62)
     (case aF => exact (fun k_ hk => Kd.freshB (g := gb282) (o := .cells #[.int .i64 e0, .int .i64 e1, .int .i64 e2, .int .i64 e3, .int .i64 e4] 38 (0, 0)) Q32 k_ hk))
     (case aO => exact (by (with_reducible repeat (first | apply Kd.R_alloc | apply Kd.R_drewN | apply Kd.R_drew)); exact Kd.R_mono HO353.out (fun _ hk => hk.2)))
     (case aS => exact (keep_size (w := w) (g := g) (row := none) Q62))
     (case aL => have := LMca.out; omega)
     intro v355 w114 ho hb hg hat
     rw [← Nyb.out] at ho
     have n0_ := Aside0.mk (IsS87.grown (show IsS87 w0 _ g s0_0 tp from by repeat (first | (with_reducible first | exact HI0.out | apply IsS87.alloc | apply IsS87.drewN | apply IsS87.drew | apply IsS87.set_1 | refine IsS87.far ?_ NB0_282.out _) | exact HI0.out)) hg (IsS87.own_ne HI0.out HO353.out Q1))
     have n1_ := Aside0.mk (blk_grown (g := gb282) (o := .cells #[.int .i64 e0, .int .i64 e1, .int .i64 e2, .int .i64 e3, .int .i64 e4] 38 (0, 0)) Q32 hg (Kd.R_away HO353.out (fun _ hk => hk.2)))
     have n2_ := Aside0.mk (below_weaken Q73 HL.out hb)
     have n3_ := Aside0.mk (KeepBut.trans Q62 (KeepBut.of_grown hg g) (Kd.R_base2 HO353.out))
     have n4_ := Aside0.mk (ho)
     clear HI0
     clear BK282
     clear HB
     clear HK
     clear HO353
     have HI0 := n0_
     have BK282 := n1_
     have HB := n2_
     have HK := n3_
     have HO356 := n4_
     clear n0_ n1_ n2_ n3_ n4_
     clear ho hb hg hat
     refine hK.out _ _ ⟨(blk_cell BK282.out 0).trans rfl, (blk_cell BK282.out 1).trans rfl, (blk_cell BK282.out 2).trans rfl, (blk_cell BK282.out 3).trans rfl, (blk_cell BK282.out 4).trans rfl⟩ (fun hHeld => ?_)
     clear hK K
     refine norm_ (a' := ?_) ?_ ?_
     rotate_left
     ·show Act.put _ (some 42) _ = _
      simp only [Act.put, List.setIfInBounds_toArray, List.set_cons_zero, List.set_cons_succ, i64_w, i32_w]
      rfl
     refine one_ (i := 4) (N := some 44) b7_5 rfl rfl Q2 Q1 (fun K hK => ?_)
     refine Kd.R_lit_step k38 _ 38 ?hg (N := 44) ?hd (xs := ([(⟨e0, e1, (⟨e2, e3⟩ : S36), e4⟩ : S38)] : List (S38))) (inner := [.int .i64 e0, .int .i64 e1, .int .i64 e2, .int .i64 e3, .int .i64 e4]) (ok := fun _ => True) (okp := fun _ => True) ?hr ?hp (fun _ hk => hk) trivial (Below.refl _ _) (Nat.le_refl _) Q0 ?_; (case hd => rfl); (case hg => rfl); (case hr => first | (go_simp; done) | (go_simp; rfl)); (case hp => exact (Reps.c5 (show Kd.M k38 _ _ _ (⟨e0, e1, (⟨e2, e3⟩ : S36), e4⟩ : S38) [.int .i64 e0, .int .i64 e1, .int .i64 e2, .int .i64 e3, .int .i64 e4] from (k38_mkM _ _ _ (⟨e0, e1, (⟨e2, e3⟩ : S36), e4⟩ : S38) )) (Reps.none _ _)))
     intro v358 w115 ho116 hb hg_ hnew_
     clear hg_ hnew_
     (first | rw [← Nyc.out] at ho116 | (simp only [Int.reduceToNat] at ho116; rw [← Nyc.out] at ho116))
     have n0_ := Aside0.mk (Kd.R_elder' Q16 (Kd.R_base ho116) hb)
     have n1_ := Aside0.mk (Kd.R_lower (Kd.R_newB (Kd.R_new' ho116 (Kd.R_lt Q16)) (g := gb282) (o := .cells #[.int .i64 e0, .int .i64 e1, .int .i64 e2, .int .i64 e3, .int .i64 e4] 38 (0, 0)) Q32) (keep_size (w := w) (g := g) (row := none) Q62))
     have n2_ := Aside0.mk (IsS87.below Q66 hb)
     have n3_ := Aside0.mk (blk_below (g := gb282) (o := .cells #[.int .i64 e0, .int .i64 e1, .int .i64 e2, .int .i64 e3, .int .i64 e4] 38 (0, 0)) Q32 hb)
     have n4_ := Aside0.mk (KeepBut.trans Q62 (KeepBut.of_below hb g none) (.inl rfl))
     have n5_ := Aside0.mk (below_step Q73 hb)
     clear HO356
     clear HI0
     clear BK282
     clear HK
     clear HB
     have HO356 := n0_
     have HO359 := n1_
     have HI0 := n2_
     have BK282 := n3_
     have HK := n4_
     have HB := n5_
     clear n0_ n1_ n2_ n3_ n4_ n5_
     clear hb ho116
     refine hK.out _ _ ⟨(blk_cell BK282.out 0).trans rfl, (blk_cell BK282.out 1).trans rfl, (blk_cell BK282.out 2).trans rfl, (blk_cell BK282.out 3).trans rfl, (blk_cell BK282.out 4).trans rfl⟩ (fun hHeld => ?_)
     clear hK K
     refine norm_ (a' := ?_) ?_ ?_
     rotate_left
     ·show Act.put _ (some 44) _ = _
      simp only [Act.put, List.setIfInBounds_toArray, List.set_cons_zero, List.set_cons_succ, i64_w, i32_w]
      rfl
     exact norm_ Q88 (hCont (v352, v355, v358) _ ⟨hHeld, (by (with_reducible repeat (first | apply Kd.R_alloc | apply Kd.R_drewN | apply Kd.R_drew)); exact Kd.R_mono HO356.out (fun _ hk => ⟨hk.2, hk.1⟩)), (by (with_reducible repeat (first | apply Kd.R_alloc | apply Kd.R_drewN | apply Kd.R_drew)); exact Kd.R_mono HO359.out (fun _ hk => ⟨hk.1.2, hk.2⟩)), Q32, Q66, Q62, Q73⟩)
    ·skip
     refine Kd.R_lit_step k38 _ 38 ?hg (N := 44) ?hd (xs := ([(⟨e0, e1, (⟨e2, e3⟩ : S36), e4⟩ : S38)] : List (S38))) (inner := [.int .i64 e0, .int .i64 e1, .int .i64 e2, .int .i64 e3, .int .i64 e4]) (ok := fun _ => True) (okp := fun _ => True) ?hr ?hp (fun _ hk => hk) trivial (Below.refl _ _) (Nat.le_refl _) Q0 ?_; (case hd => rfl); (case hg => rfl); (case hr => first | (go_simp; done) | (go_simp; rfl)); (case hp => exact (Reps.c5 (show Kd.M k38 _ _ _ (⟨e0, e1, (⟨e2, e3⟩ : S36), e4⟩ : S38) [.int .i64 e0, .int .i64 e1, .int .i64 e2, .int .i64 e3, .int .i64 e4] from (k38_mkM _ _ _ (⟨e0, e1, (⟨e2, e3⟩ : S36), e4⟩ : S38) )) (Reps.none _ _)))
     intro v358 w114 ho115 hb hg_ hnew_
     clear hg_ hnew_
     (first | rw [← Nyc.out] at ho115 | (simp only [Int.reduceToNat] at ho115; rw [← Nyc.out] at ho115))
     have n0_ := Aside0.mk (Kd.R_elder' (by (with_reducible repeat (first | apply Kd.R_alloc | apply Kd.R_drewN | apply Kd.R_drew)); exact HO353.out) (Kd.R_base ho115) hb)
     have n1_ := Aside0.mk (Kd.R_lower (Kd.R_newB (Kd.R_new' ho115 (Kd.R_lt (by (with_reducible repeat (first | apply Kd.R_alloc | apply Kd.R_drewN | apply Kd.R_drew)); exact HO353.out))) (g := gb282) (o := .cells #[.int .i64 e0, .int .i64 e1, .int .i64 e2, .int .i64 e3, .int .i64 e4] 38 (0, 0)) Q32) (keep_size (w := w) (g := g) (row := none) Q62))
     have n2_ := Aside0.mk (IsS87.below Q66 hb)
     have n3_ := Aside0.mk (blk_below (g := gb282) (o := .cells #[.int .i64 e0, .int .i64 e1, .int .i64 e2, .int .i64 e3, .int .i64 e4] 38 (0, 0)) Q32 hb)
     have n4_ := Aside0.mk (KeepBut.trans Q62 (KeepBut.of_below hb g none) (.inl rfl))
     have n5_ := Aside0.mk (below_step Q73 hb)
     clear HO353
     clear HI0
     clear BK282
     clear HK
     clear HB
     have HO353 := n0_
     have HO359 := n1_
     have HI0 := n2_
     have BK282 := n3_
     have HK := n4_
     have HB := n5_
     clear n0_ n1_ n2_ n3_ n4_ n5_
     clear hb ho115
     refine hK.out _ _ ⟨(blk_cell BK282.out 0).trans rfl, (blk_cell BK282.out 1).trans rfl, (blk_cell BK282.out 2).trans rfl, (blk_cell BK282.out 3).trans rfl, (blk_cell BK282.out 4).trans rfl⟩ (fun hHeld => ?_)
     clear hK K
     refine norm_ (a' := ?_) ?_ ?_
     rotate_left
     ·show Act.put _ (some 44) _ = _
      simp only [Act.put, List.setIfInBounds_toArray, List.set_cons_zero, List.set_cons_succ, i64_w, i32_w]
      rfl
     refine one_ (i := 2) (N := some 42) b7_5 rfl rfl Q2 Q1 (fun K hK => ?_)
     refine Kd.R_append_rows_step k38 w.heap.size (by rfl) (.tmp 40) (.tmp 41) 23 38 (.agg #[(.int .i64 0), (.int .i64 0), (.int .i64 0), (.int .i64 0), (.int .i64 0)]) 40 rfl Try.underlying23 info38 rfl Q1 (by omega) v352 ya l1 _ _ _ (fun k_ => some k_ ≠ (v358 : Value).ownBlock ∧ k_ ≠ gb282) (fun _ => False) rfl rfl ?aO ?aR (fun _ _ h => h) (fun _ h => h.elim) ?aF (Below.refl _ _) ?aS ?aL ?_
     (case aR => exact Kd.C_foot_now HR1.out Q62)
     (case aF => exact (fun k_ hk => ⟨Kd.fresh' (Kd.R_lt Q17) k_ hk, Kd.freshB (g := gb282) (o := .cells #[.int .i64 e0, .int .i64 e1, .int .i64 e2, .int .i64 e3, .int .i64 e4] 38 (0, 0)) Q32 k_ hk⟩))
     (case aO => exact (by (with_reducible repeat (first | apply Kd.R_alloc | apply Kd.R_drewN | apply Kd.R_drew)); exact Kd.R_mono HO353.out (fun _ hk => ⟨hk.2, hk.1.2⟩)))
     (case aS => exact (keep_size (w := w) (g := g) (row := none) Q62))
     (case aL => have := LMca.out; omega)
     intro v355 w116 ho hb hg hat
     rw [← Nyb.out] at ho
     have n0_ := Aside0.mk (IsS87.grown (show IsS87 w0 _ g s0_0 tp from by repeat (first | (with_reducible first | exact HI0.out | apply IsS87.alloc | apply IsS87.drewN | apply IsS87.drew | apply IsS87.set_1 | refine IsS87.far ?_ NB0_282.out _) | exact HI0.out)) hg (IsS87.own_ne HI0.out HO353.out Q1))
     have n1_ := Aside0.mk (blk_grown (g := gb282) (o := .cells #[.int .i64 e0, .int .i64 e1, .int .i64 e2, .int .i64 e3, .int .i64 e4] 38 (0, 0)) Q32 hg (Kd.R_away HO353.out (fun _ hk => hk.1.2)))
     have n2_ := Aside0.mk (Kd.R_after (ok := (fun k_ => k_ ≠ gb282)) (by (with_reducible repeat (first | apply Kd.R_alloc | apply Kd.R_drewN | apply Kd.R_drew)); exact Kd.R_mono HO359.out (fun _ hk => ⟨hk.2, hk.1.2⟩)) hg hat)
     have n3_ := Aside0.mk (below_weaken Q73 HL.out hb)
     have n4_ := Aside0.mk (KeepBut.trans Q62 (KeepBut.of_grown hg g) (Kd.R_base2 HO353.out))
     have n5_ := Aside0.mk (ho)
     clear HI0
     clear BK282
     clear HO359
     clear HB
     clear HK
     clear HO353
     have HI0 := n0_
     have BK282 := n1_
     have HO359 := n2_
     have HB := n3_
     have HK := n4_
     have HO356 := n5_
     clear n0_ n1_ n2_ n3_ n4_ n5_
     clear ho hb hg hat
     refine hK.out _ _ ⟨(blk_cell BK282.out 0).trans rfl, (blk_cell BK282.out 1).trans rfl, (blk_cell BK282.out 2).trans rfl, (blk_cell BK282.out 3).trans rfl, (blk_cell BK282.out 4).trans rfl⟩ (fun hHeld => ?_)
     clear hK K
     refine norm_ (a' := ?_) ?_ ?_
     rotate_left
     ·show Act.put _ (some 42) _ = _
      simp only [Act.put, List.setIfInBounds_toArray, List.set_cons_zero, List.set_cons_succ, i64_w, i32_w]
      rfl
     exact norm_ Q88 (hCont (v352, v355, v358) _ ⟨hHeld, Q16, Q38, Q32, Q66, Q62, Q73⟩)
   ·skip
    refine Kd.R_lit_step k38 _ 38 ?hg (N := 44) ?hd (xs := ([(⟨e0, e1, (⟨e2, e3⟩ : S36), e4⟩ : S38)] : List (S38))) (inner := [.int .i64 e0, .int .i64 e1, .int .i64 e2, .int .i64 e3, .int .i64 e4]) (ok := fun _ => True) (okp := fun _ => True) ?hr ?hp (fun _ hk => hk) trivial (Below.refl _ _) (Nat.le_refl _) Q0 ?_; (case hd => rfl); (case hg => rfl); (case hr => first | (go_simp; done) | (go_simp; rfl)); (case hp => exact (Reps.c5 (show Kd.M k38 _ _ _ (⟨e0, e1, (⟨e2, e3⟩ : S36), e4⟩ : S38) [.int .i64 e0, .int .i64 e1, .int .i64 e2, .int .i64 e3, .int .i64 e4] from (k38_mkM _ _ _ (⟨e0, e1, (⟨e2, e3⟩ : S36), e4⟩ : S38) )) (Reps.none _ _)))
    intro v358 w112 ho113 hb hg_ hnew_
    clear hg_ hnew_
    (first | rw [← Nyc.out] at ho113 | (simp only [Int.reduceToNat] at ho113; rw [← Nyc.out] at ho113))
    have n0_ := Aside0.mk (Kd.R_lower (Kd.R_newB ho113 (g := gb282) (o := .cells #[.int .i64 e0, .int .i64 e1, .int .i64 e2, .int .i64 e3, .int .i64 e4] 38 (0, 0)) Q32) (keep_size (w := w) (g := g) (row := none) Q62))
    have n1_ := Aside0.mk (IsS87.below Q66 hb)
    have n2_ := Aside0.mk (blk_below (g := gb282) (o := .cells #[.int .i64 e0, .int .i64 e1, .int .i64 e2, .int .i64 e3, .int .i64 e4] 38 (0, 0)) Q32 hb)
    have n3_ := Aside0.mk (KeepBut.trans Q62 (KeepBut.of_below hb g none) (.inl rfl))
    have n4_ := Aside0.mk (below_step Q73 hb)
    clear HI0
    clear BK282
    clear HK
    clear HB
    have HO359 := n0_
    have HI0 := n1_
    have BK282 := n2_
    have HK := n3_
    have HB := n4_
    clear n0_ n1_ n2_ n3_ n4_
    clear hb ho113
    refine hK.out _ _ ⟨(blk_cell BK282.out 0).trans rfl, (blk_cell BK282.out 1).trans rfl, (blk_cell BK282.out 2).trans rfl, (blk_cell BK282.out 3).trans rfl, (blk_cell BK282.out 4).trans rfl⟩ (fun hHeld => ?_)
    clear hK K
    refine norm_ (a' := ?_) ?_ ?_
    rotate_left
    ·show Act.put _ (some 44) _ = _
     simp only [Act.put, List.setIfInBounds_toArray, List.set_cons_zero, List.set_cons_succ, i64_w, i32_w]
     rfl
    refine one_ (i := 0) (N := some 40) c73 rfl rfl Q2 Q1 (fun K hK => ?_)
    refine Kd.R_lit_step k38 _ 38 ?hg (N := 40) ?hd (xs := ([] : List (S38))) (inner := []) (ok := fun _ => True) (okp := fun _ => True) ?hr ?hp (fun _ hk => hk) trivial (Below.refl _ _) (Nat.le_refl _) Q0 ?_; (case hd => rfl); (case hg => rfl); (case hr => first | (go_simp; done) | (go_simp; rfl)); (case hp => exact (Reps.none _ _))
    intro v352 w114 ho115 hb hg_ hnew_
    clear hg_ hnew_
    (first | rw [← Nya.out] at ho115 | (simp only [Int.reduceToNat] at ho115; rw [← Nya.out] at ho115))
    have n0_ := Aside0.mk (Kd.R_elder' Q17 (Kd.R_base ho115) hb)
    have n1_ := Aside0.mk (Kd.R_lower (Kd.R_newB (Kd.R_new' ho115 (Kd.R_lt Q17)) (g := gb282) (o := .cells #[.int .i64 e0, .int .i64 e1, .int .i64 e2, .int .i64 e3, .int .i64 e4] 38 (0, 0)) Q32) (keep_size (w := w) (g := g) (row := none) Q62))
    have n2_ := Aside0.mk (IsS87.below Q66 hb)
    have n3_ := Aside0.mk (blk_below (g := gb282) (o := .cells #[.int .i64 e0, .int .i64 e1, .int .i64 e2, .int .i64 e3, .int .i64 e4] 38 (0, 0)) Q32 hb)
    have n4_ := Aside0.mk (KeepBut.trans Q62 (KeepBut.of_below hb g none) (.inl rfl))
    have n5_ := Aside0.mk (below_step Q73 hb)
    clear HO359
    clear HI0
    clear BK282
    clear HK
    clear HB
    have HO359 := n0_
    have HO353 := n1_
    have HI0 := n2_
    have BK282 := n3_
    have HK := n4_
    have HB := n5_
    clear n0_ n1_ n2_ n3_ n4_ n5_
    clear hb ho115
    refine hK.out _ _ ⟨(blk_cell BK282.out 0).trans rfl, (blk_cell BK282.out 1).trans rfl, (blk_cell BK282.out 2).trans rfl, (blk_cell BK282.out 3).trans rfl, (blk_cell BK282.out 4).trans rfl⟩ (fun hHeld => ?_)
    clear hK K
    refine norm_ (a' := ?_) ?_ ?_
    rotate_left
    ·show Act.put _ (some 40) _ = _
     simp only [Act.put, List.setIfInBounds_toArray, List.set_cons_zero, List.set_cons_succ, i64_w, i32_w]
     rfl
    refine one_ (i := 2) (N := some 42) b7_5 rfl rfl Q2 Q1 (fun K hK => ?_)
    refine Kd.R_append_rows_step k38 w.heap.size (by rfl) (.tmp 40) (.tmp 41) 23 38 (.agg #[(.int .i64 0), (.int .i64 0), (.int .i64 0), (.int .i64 0), (.int .i64 0)]) 40 rfl Try.underlying23 info38 rfl Q1 (by omega) v352 ya l1 _ _ _ (fun k_ => some k_ ≠ (v358 : Value).ownBlock ∧ k_ ≠ gb282) (fun _ => False) rfl rfl ?aO ?aR (fun _ _ h => h) (fun _ h => h.elim) ?aF (Below.refl _ _) ?aS ?aL ?_
    (case aR => exact Kd.C_foot_now HR1.out Q62)
    (case aF => exact (fun k_ hk => ⟨Kd.fresh' (Kd.R_lt Q17) k_ hk, Kd.freshB (g := gb282) (o := .cells #[.int .i64 e0, .int .i64 e1, .int .i64 e2, .int .i64 e3, .int .i64 e4] 38 (0, 0)) Q32 k_ hk⟩))
    (case aO => exact (by (with_reducible repeat (first | apply Kd.R_alloc | apply Kd.R_drewN | apply Kd.R_drew)); exact Kd.R_mono HO353.out (fun _ hk => ⟨hk.1.2, hk.2⟩)))
    (case aS => exact (keep_size (w := w) (g := g) (row := none) Q62))
    (case aL => have := LMca.out; omega)
    intro v355 w116 ho hb hg hat
    rw [← Nyb.out] at ho
    have n0_ := Aside0.mk (IsS87.grown (show IsS87 w0 _ g s0_0 tp from by repeat (first | (with_reducible first | exact HI0.out | apply IsS87.alloc | apply IsS87.drewN | apply IsS87.drew | apply IsS87.set_1 | refine IsS87.far ?_ NB0_282.out _) | exact HI0.out)) hg (IsS87.own_ne HI0.out HO353.out Q1))
    have n1_ := Aside0.mk (blk_grown (g := gb282) (o := .cells #[.int .i64 e0, .int .i64 e1, .int .i64 e2, .int .i64 e3, .int .i64 e4] 38 (0, 0)) Q32 hg (Kd.R_away HO353.out (fun _ hk => hk.2)))
    have n2_ := Aside0.mk (Kd.R_after (ok := (fun k_ => k_ ≠ gb282)) (by (with_reducible repeat (first | apply Kd.R_alloc | apply Kd.R_drewN | apply Kd.R_drew)); exact Kd.R_mono HO359.out (fun _ hk => ⟨hk.1.2, hk.2⟩)) hg hat)
    have n3_ := Aside0.mk (below_weaken Q73 HL.out hb)
    have n4_ := Aside0.mk (KeepBut.trans Q62 (KeepBut.of_grown hg g) (Kd.R_base2 HO353.out))
    have n5_ := Aside0.mk (ho)
    clear HI0
    clear BK282
    clear HO359
    clear HB
    clear HK
    clear HO353
    have HI0 := n0_
    have BK282 := n1_
    have HO359 := n2_
    have HB := n3_
    have HK := n4_
    have HO356 := n5_
    clear n0_ n1_ n2_ n3_ n4_ n5_
    clear ho hb hg hat
    refine hK.out _ _ ⟨(blk_cell BK282.out 0).trans rfl, (blk_cell BK282.out 1).trans rfl, (blk_cell BK282.out 2).trans rfl, (blk_cell BK282.out 3).trans rfl, (blk_cell BK282.out 4).trans rfl⟩ (fun hHeld => ?_)
    clear hK K
    refine norm_ (a' := ?_) ?_ ?_
    rotate_left
    ·show Act.put _ (some 42) _ = _
     simp only [Act.put, List.setIfInBounds_toArray, List.set_cons_zero, List.set_cons_succ, i64_w, i32_w]
     rfl
    exact norm_ Q88 (hCont (v352, v355, v358) _ ⟨hHeld, Q16, Q38, Q32, Q66, Q62, Q73⟩)
  rintro ⟨v352, v355, v358⟩ w117 ⟨hS_, h0_, h1_, h2_, h3_, h4_, h5_⟩
  have n0_ : Aside0 (Kd.R k38 38 w117 w.heap.size (fun k_ => some k_ ≠ (v358 : Value).ownBlock ∧ k_ ≠ gb282) v355 yb) := ⟨h0_⟩
  have n1_ : Aside0 (Kd.R k38 38 w117 w.heap.size (fun k_ => some k_ ≠ (v355 : Value).ownBlock ∧ k_ ≠ gb282) v358 yc) := ⟨h1_⟩
  have n2_ : Aside0 (w117.heap[gb282]? = some (.cells #[.int .i64 e0, .int .i64 e1, .int .i64 e2, .int .i64 e3, .int .i64 e4] 38 (0, 0))) := ⟨h2_⟩
  have n3_ : Aside0 (IsS87 w0 w117 g s0_0 tp) := ⟨h3_⟩
  have n4_ : Aside0 (KeepBut w w117 g none) := ⟨h4_⟩
  have n5_ : Aside0 (Below w0.heap.size w0 w117) := ⟨h5_⟩
  clear BK282
  clear HI0
  clear HK
  clear HB
  clear h0_ h1_ h2_ h3_ h4_ h5_
  have HO356 := n0_
  have HO359 := n1_
  have BK282 := n2_
  have HI0 := n3_
  have HK := n4_
  have HB := n5_
  clear n0_ n1_ n2_ n3_ n4_ n5_
  have hHeld : w117.cell? ⟨gb282, 0, none⟩ = some (.int .i64 e0) ∧ w117.cell? ⟨gb282, 1, none⟩ = some (.int .i64 e1) ∧ w117.cell? ⟨gb282, 2, none⟩ = some (.int .i64 e2) ∧ w117.cell? ⟨gb282, 3, none⟩ = some (.int .i64 e3) ∧ w117.cell? ⟨gb282, 4, none⟩ = some (.int .i64 e4) := hS_
  obtain ⟨Ao119, co119, eo119⟩ := Kd.R_slice HO359.out
  (first | subst eo119 | (injection eo119 with f1_ f2_ f3_; have f4_ := f1_.symm; have f5_ := f3_.symm; clear f1_ f2_ f3_; subst f4_; subst f5_))
  refine norm_ (a' := ?_) ?_ ?_
  rotate_left
  ·simp only [putAll, Act.put, List.setIfInBounds_toArray, List.set_cons_zero, List.set_cons_succ]
   rfl
  refine one_ (i := 5) (N := some 45) b7_6 rfl rfl Q2 Q1 (fun K hK => ?_)
  refine Kd.R_append_rows_step k38 w.heap.size (by rfl) (.tmp 42) (.tmp 44) 23 38 (.agg #[(.int .i64 0), (.int .i64 0), (.int .i64 0), (.int .i64 0), (.int .i64 0)]) 40 rfl Try.underlying23 info38 rfl Q1 (by omega) v355 yb yc _ _ _ (fun k_ => some k_ ≠ (.slice Ao119 yc.length co119 : Value).ownBlock ∧ k_ ≠ gb282) (fun _ => False) rfl rfl ?aO ?aR (fun _ _ h => h) (fun _ h => h.elim) ?aF (Below.refl _ _) ?aS ?aL ?_
  (case aR => exact (by repeat (first | exact (Kd.R_reads' HO359.out).2.2 | (with_reducible refine Kd.C_alloc ?_ _) | (with_reducible refine Kd.C_drewN ?_ _) | (with_reducible refine Kd.C_drew ?_))))
  (case aF => exact (fun k_ hk => ⟨Kd.fresh' (Kd.R_lt Q17) k_ hk, Kd.freshB (g := gb282) (o := .cells #[.int .i64 e0, .int .i64 e1, .int .i64 e2, .int .i64 e3, .int .i64 e4] 38 (0, 0)) Q32 k_ hk⟩))
  (case aO => exact Q16)
  (case aS => exact (keep_size (w := w) (g := g) (row := none) Q62))
  (case aL => have := LMcb.out; omega)
  intro v361 w118 ho hb hg hat
  rw [← Nyd.out] at ho
  have n0_ := Aside0.mk (IsS87.grown (show IsS87 w0 _ g s0_0 tp from by repeat (first | (with_reducible first | exact HI0.out | apply IsS87.alloc | apply IsS87.drewN | apply IsS87.drew | apply IsS87.set_1 | refine IsS87.far ?_ NB0_282.out _) | exact HI0.out)) hg (IsS87.own_ne HI0.out HO356.out Q1))
  have n1_ := Aside0.mk (blk_grown (g := gb282) (o := .cells #[.int .i64 e0, .int .i64 e1, .int .i64 e2, .int .i64 e3, .int .i64 e4] 38 (0, 0)) Q32 hg (Kd.R_away HO356.out (fun _ hk => hk.2)))
  have n2_ := Aside0.mk (Kd.R_after (ok := (fun k_ => k_ ≠ gb282)) Q38 hg hat)
  have n3_ := Aside0.mk (below_weaken Q73 HL.out hb)
  have n4_ := Aside0.mk (KeepBut.trans Q62 (KeepBut.of_grown hg g) (Kd.R_base2 HO356.out))
  have n5_ := Aside0.mk (ho)
  clear HI0
  clear BK282
  clear HO359
  clear HB
  clear HK
  clear HO356
  have HI0 := n0_
  have BK282 := n1_
  have HO359 := n2_
  have HB := n3_
  have HK := n4_
  have HO362 := n5_
  clear n0_ n1_ n2_ n3_ n4_ n5_
  clear ho hb hg hat
  refine hK.out _ _ ⟨(blk_cell BK282.out 0).trans rfl, (blk_cell BK282.out 1).trans rfl, (blk_cell BK282.out 2).trans rfl, (blk_cell BK282.out 3).trans rfl, (blk_cell BK282.out 4).trans rfl⟩ (fun hHeld => ?_)
  clear hK K
  refine norm_ (a' := ?_) ?_ ?_
  rotate_left
  ·show Act.put _ (some 45) _ = _
   simp only [Act.put, List.setIfInBounds_toArray, List.set_cons_zero, List.set_cons_succ, i64_w, i32_w]
   rfl
  refine pU_ 6 4 b7_7 ?_
  refine done_ Q2 ?_
  try go_wp2
  go_ret
  exact ⟨_, Q10, by (with_reducible repeat (first | apply Kd.R_alloc | apply Kd.R_drewN | apply Kd.R_drew)); exact Kd.R_mono HO362.out (fun _ hk => trivial), Q66, Q73, Q62⟩
def spec_l71Any.f (k : Nat) (s0_0 : List Int) (s0_1 : Int) : Option ((List (S38)) × Int) := (spec_l71Rows.f k s0_0 s0_1 10).bind fun bt363 => ((spec_l6Rd_pick.f k s0_0 bt363.2 14).bind fun bt367 => (if bt367.1 = 0 then ((spec_l71Spoil.f k s0_0 bt367.2 bt363.1).bind fun bt369 => (some (bt369.1, bt369.2))) else (some (bt363.1, bt367.2))))
theorem spec_l71Any.mono : ∀ a0 a1 k, LeO (spec_l71Any.f k a0 a1) (spec_l71Any.f (k + 1) a0 a1) := by
 intro a0 a1 k
 unfold spec_l71Any.f
 repeat' first
   | (with_reducible exact spec_l6Rd_pick.mono _ _ _ _)
   | (with_reducible exact spec_l71Rows.mono _ _ _ _)
   | (with_reducible exact spec_l71Spoil.mono _ _ _ _)
   | (with_reducible exact LeO.refl _)
   | (with_reducible exact LeO.none _)
   | (with_reducible refine LeO.ite ?_ ?_)
   | (with_reducible refine LeO.bind ?_ (fun _ => ?_))
   | exact spec_l6Rd_pick.mono _ _ _ _
   | exact spec_l71Rows.mono _ _ _ _
   | exact spec_l71Spoil.mono _ _ _ _
   | exact LeO.none _
   | refine LeO.ite ?_ ?_
   | refine LeO.bind ?_ (fun _ => ?_)
set_option maxHeartbeats 8000000 in
set_option maxRecDepth 100000 in
theorem spec_l71Any.calls (k : Nat) (g : Nat) (s0_0 : List Int) (s0_1 : Int) (r1 : List (S38)) (r2 : Int) (w0 w : World) (hI : IsS87 w0 w g s0_0 s0_1) (hB : Below w0.heap.size w0 w) (h : spec_l71Any.f k s0_0 s0_1 = some (r1, r2)) :
  Calls Try.prog 51 #[.pointer (some ⟨g, 0, none⟩)] w fun e w' => ∃ v0_ : Value, e = .returned (v0_) ∧ Kd.R k38 38 w' w.heap.size (fun _ => True) v0_ r1 ∧ IsS87 w0 w' g s0_0 r2 ∧ Below w0.heap.size w0 w' ∧ KeepBut w w' g none := by
 have HI0 := Aside0.mk hI
 have HK := Aside0.mk (KeepBut.refl w g none)
 have HL := Aside0.mk hB.size
 clear hI
 have HW0 := Aside0.mk hB.size
 have HB := Aside0.mk hB
 clear hB
 have H : ((spec_l71Rows.f k s0_0 s0_1 10).bind fun bt363 => ((spec_l6Rd_pick.f k s0_0 bt363.2 14).bind fun bt367 => (if bt367.1 = 0 then ((spec_l71Spoil.f k s0_0 bt367.2 bt363.1).bind fun bt369 => (some (bt369.1, bt369.2))) else (some (bt363.1, bt367.2))))) = some (r1, r2) := h
 clear h
 replace H := Option.bind_eq_some_iff.mp H
 obtain ⟨⟨t363, t366⟩, A20, H⟩ := H
 replace H : ((spec_l6Rd_pick.f k s0_0 t366 14).bind fun bt367 => (if bt367.1 = 0 then ((spec_l71Spoil.f k s0_0 bt367.2 t363).bind fun bt369 => (some (bt369.1, bt369.2))) else (some (t363, bt367.2)))) = some (r1, r2) := H
 have A2 := Aside0.mk A20
 clear A20
 replace H := Option.bind_eq_some_iff.mp H
 obtain ⟨⟨t367, t368⟩, A30, H⟩ := H
 replace H : (if t367 = 0 then ((spec_l71Spoil.f k s0_0 t368 t363).bind fun bt369 => (some (bt369.1, bt369.2))) else (some (t363, t368))) = some (r1, r2) := H
 have A3 := Aside0.mk A30
 clear A30
 by_cases c4 : t367 = 0
 ·rw [if_pos c4] at H
  have c4b0 : (t367 == 0) = true := beq_iff_eq.mpr c4
  have c4b1 : (t367 != 0) = false := bne_eq_false_iff_eq.mpr c4
  clear c4
  replace H := Option.bind_eq_some_iff.mp H
  obtain ⟨⟨t369, t372⟩, A50, H⟩ := H
  replace H : (some (t369, t372)) = some (r1, r2) := H
  have A5 := Aside0.mk A50
  clear A50
  simp only [Option.some.injEq, Prod.mk.injEq] at H
  obtain ⟨rfl, rfl⟩ := H
  go_enter Try.func51, Try.ntmps51
  go_wp2_with (first | ((with_reducible refine gate_callee (f := 80) rfl ?_); refine goesL_ (some 5) rfl rfl Try.func80 Q2 rfl #[.pointer (some ⟨g, 0, none⟩), .int .i64 10] rfl Q37 ?_; (with_reducible refine (spec_l71Rows.calls k g s0_0 s0_1 10 t363 t366 w0 _ ?side1 ?side2 A2.out).mono ?_); (case side1 => exact Q40); (case side2 => exact Q55); rintro e w6 ⟨v364, rfl, ho0, hi, hb, hk⟩; refine ⟨_, rfl, ?_⟩; have n0_ := Aside0.mk (Kd.R_lower ho0 (keep_size (w := w) (g := g) (row := none) Q39)); have n1_ := Aside0.mk (KeepBut.trans Q39 hk (.inl rfl)); have n2_ := Aside0.mk (hb); have n3_ := Aside0.mk (hi); clear HK; clear HB; clear HI0; have HO365 := n0_; have HK := n1_; have HB := n2_; have HI0 := n3_; clear n0_ n1_ n2_ n3_; (try clear hb); (try clear hb2); (try clear hk); (try clear hi); (try clear ho0)) | ((with_reducible refine gate_callee (f := 68) rfl ?_); refine goesL_ (some 7) rfl rfl Try.func68 Q2 rfl #[.pointer (some ⟨g, 0, none⟩), .int .i64 14] rfl Q37 ?_; (with_reducible refine (spec_l6Rd_pick.calls k g s0_0 t366 14 t367 t368 w0 _ ?side1 ?side2 A3.out).mono ?_); (case side1 => exact Q40); (case side2 => exact Q55); rintro e w7 ⟨rfl, hi, hb, hk⟩; refine ⟨_, rfl, ?_⟩; have n0_ := Aside0.mk (Kd.R_mono (Kd.R_keep (IsS87.apart (show IsS87 w0 _ g s0_0 t366 from by repeat (first | (with_reducible first | exact HI0.out | apply IsS87.alloc | apply IsS87.drewN | apply IsS87.drew | apply IsS87.set_1) | exact HI0.out)) Q18 Q1) hk (fun _ h => h.2)) (fun _ h => h.1)); have n1_ := Aside0.mk (KeepBut.trans Q39 hk (.inl rfl)); have n2_ := Aside0.mk (hb); have n3_ := Aside0.mk (hi); clear HO365; clear HK; clear HB; clear HI0; have HO365 := n0_; have HK := n1_; have HB := n2_; have HI0 := n3_; clear n0_ n1_ n2_ n3_; (try clear hb); (try clear hb2); (try clear hk); (try clear hi); obtain ⟨Ao8, co8, eo8⟩ := Kd.R_slice HO365.out; subst eo8) | ((with_reducible refine gate_callee (f := 81) rfl ?_); refine goesL_ (some 11) rfl rfl Try.func81 Q2 rfl #[.pointer (some ⟨g, 0, none⟩), .slice Ao8 t363.length co8] rfl Q37 ?_; (with_reducible refine (spec_l71Spoil.calls k g s0_0 t368 _ _ t363 t369 t372 w0 _ ?side1 ?side2 ?side3 ?side4 A5.out).mono ?_); (case side1 => exact Q40); (case side2 => exact Q55); (case side3 => exact Kd.C_foot_own (IsS87.apart (show IsS87 w0 _ g s0_0 t368 from by repeat (first | (with_reducible first | exact HI0.out | apply IsS87.alloc | apply IsS87.drewN | apply IsS87.drew | apply IsS87.set_1) | exact HI0.out)) Q18 Q1) (fun _ h_ => h_.2)); (case side4 => exact (Kd.R_reads' HO365.out).2.1); rintro e w9 ⟨v370, rfl, ho0, hi, hb, hk⟩; refine ⟨_, rfl, ?_⟩; have n0_ := Aside0.mk (Kd.R_mono (Kd.R_told (Kd.R_oldK (IsS87.apart (show IsS87 w0 _ g s0_0 t368 from by repeat (first | (with_reducible first | exact HI0.out | apply IsS87.alloc | apply IsS87.drewN | apply IsS87.drew | apply IsS87.set_1) | exact HI0.out)) Q18 Q1) hk) (Kd.R_base ho0)) (fun _ h_ => h_.1)); have n1_ := Aside0.mk (Kd.R_lower (Kd.R_new' ho0 (Kd.R_lt Q18)) (keep_size (w := w) (g := g) (row := none) Q39)); have n2_ := Aside0.mk (KeepBut.trans Q39 hk (.inl rfl)); have n3_ := Aside0.mk (hb); have n4_ := Aside0.mk (hi); clear HO365; clear HK; clear HB; clear HI0; have HO365 := n0_; have HO371 := n1_; have HK := n2_; have HB := n3_; have HI0 := n4_; clear n0_ n1_ n2_ n3_ n4_; (try clear hb); (try clear hb2); (try clear hk); (try clear hi); (try clear ho0)))
  go_ret
  exact ⟨_, Q10, by (with_reducible repeat (first | apply Kd.R_alloc | apply Kd.R_drewN | apply Kd.R_drew)); exact Kd.R_mono HO371.out (fun _ hk => trivial), Q40, Q55, Q39⟩
 ·rw [if_neg c4] at H
  have c4b0 : (t367 == 0) = false := beq_eq_false_iff_ne.mpr c4
  have c4b1 : (t367 != 0) = true := bne_iff_ne.mpr c4
  simp only [Option.some.injEq, Prod.mk.injEq] at H
  obtain ⟨rfl, rfl⟩ := H
  go_enter Try.func51, Try.ntmps51
  go_wp2_with (first | ((with_reducible refine gate_callee (f := 80) rfl ?_); refine goesL_ (some 5) rfl rfl Try.func80 Q2 rfl #[.pointer (some ⟨g, 0, none⟩), .int .i64 10] rfl Q37 ?_; (with_reducible refine (spec_l71Rows.calls k g s0_0 s0_1 10 t363 t366 w0 _ ?side1 ?side2 A2.out).mono ?_); (case side1 => exact Q40); (case side2 => exact Q55); rintro e w10 ⟨v364, rfl, ho0, hi, hb, hk⟩; refine ⟨_, rfl, ?_⟩; have n0_ := Aside0.mk (Kd.R_lower ho0 (keep_size (w := w) (g := g) (row := none) Q39)); have n1_ := Aside0.mk (KeepBut.trans Q39 hk (.inl rfl)); have n2_ := Aside0.mk (hb); have n3_ := Aside0.mk (hi); clear HK; clear HB; clear HI0; have HO365 := n0_; have HK := n1_; have HB := n2_; have HI0 := n3_; clear n0_ n1_ n2_ n3_; (try clear hb); (try clear hb2); (try clear hk); (try clear hi); (try clear ho0)) | ((with_reducible refine gate_callee (f := 68) rfl ?_); refine goesL_ (some 7) rfl rfl Try.func68 Q2 rfl #[.pointer (some ⟨g, 0, none⟩), .int .i64 14] rfl Q37 ?_; (with_reducible refine (spec_l6Rd_pick.calls k g s0_0 t366 14 t367 t368 w0 _ ?side1 ?side2 A3.out).mono ?_); (case side1 => exact Q40); (case side2 => exact Q55); rintro e w11 ⟨rfl, hi, hb, hk⟩; refine ⟨_, rfl, ?_⟩; have n0_ := Aside0.mk (Kd.R_mono (Kd.R_keep (IsS87.apart (show IsS87 w0 _ g s0_0 t366 from by repeat (first | (with_reducible first | exact HI0.out | apply IsS87.alloc | apply IsS87.drewN | apply IsS87.drew | apply IsS87.set_1) | exact HI0.out)) Q18 Q1) hk (fun _ h => h.2)) (fun _ h => h.1)); have n1_ := Aside0.mk (KeepBut.trans Q39 hk (.inl rfl)); have n2_ := Aside0.mk (hb); have n3_ := Aside0.mk (hi); clear HO365; clear HK; clear HB; clear HI0; have HO365 := n0_; have HK := n1_; have HB := n2_; have HI0 := n3_; clear n0_ n1_ n2_ n3_; (try clear hb); (try clear hb2); (try clear hk); (try clear hi)))
  go_ret
  exact ⟨_, Q10, Q18, Q40, Q55, Q39⟩
def spec_l71Batch.f (k : Nat) (s0_0 : List Int) (s0_1 : Int) (a1 : Int) : Option ((List (S38)) × Int) := (spec_l71Rows.f k s0_0 s0_1 a1).bind fun bt373 => ((spec_BatchOf.f k bt373.1).bind fun t377 => (some (t377, bt373.2)))
theorem spec_l71Batch.mono : ∀ a0 a1 a2 k, LeO (spec_l71Batch.f k a0 a1 a2) (spec_l71Batch.f (k + 1) a0 a1 a2) := by
 intro a0 a1 a2 k
 unfold spec_l71Batch.f
 repeat' first
   | (with_reducible exact spec_BatchOf.mono _ _)
   | (with_reducible exact spec_l71Rows.mono _ _ _ _)
   | (with_reducible exact LeO.refl _)
   | (with_reducible exact LeO.none _)
   | (with_reducible refine LeO.ite ?_ ?_)
   | (with_reducible refine LeO.bind ?_ (fun _ => ?_))
   | exact spec_BatchOf.mono _ _
   | exact spec_l71Rows.mono _ _ _ _
   | exact LeO.none _
   | refine LeO.ite ?_ ?_
   | refine LeO.bind ?_ (fun _ => ?_)
set_option maxHeartbeats 8000000 in
set_option maxRecDepth 100000 in
theorem spec_l71Batch.calls (k : Nat) (g : Nat) (s0_0 : List Int) (s0_1 : Int) (a1 : Int) (r1 : List (S38)) (r2 : Int) (w0 w : World) (hI : IsS87 w0 w g s0_0 s0_1) (hB : Below w0.heap.size w0 w) (h : spec_l71Batch.f k s0_0 s0_1 a1 = some (r1, r2)) :
  Calls Try.prog 69 #[.pointer (some ⟨g, 0, none⟩), .int .i64 a1] w fun e w' => ∃ v0_ : Value, e = .returned (v0_) ∧ Kd.R k38 38 w' w.heap.size (fun _ => True) v0_ r1 ∧ IsS87 w0 w' g s0_0 r2 ∧ Below w0.heap.size w0 w' ∧ KeepBut w w' g none := by
 have HI0 := Aside0.mk hI
 have HK := Aside0.mk (KeepBut.refl w g none)
 have HL := Aside0.mk hB.size
 clear hI
 have HW0 := Aside0.mk hB.size
 have HB := Aside0.mk hB
 clear hB
 have H : ((spec_l71Rows.f k s0_0 s0_1 a1).bind fun bt373 => ((spec_BatchOf.f k bt373.1).bind fun t377 => (some (t377, bt373.2)))) = some (r1, r2) := h
 clear h
 replace H := Option.bind_eq_some_iff.mp H
 obtain ⟨⟨t373, t376⟩, A30, H⟩ := H
 replace H : ((spec_BatchOf.f k t373).bind fun t377 => (some (t377, t376))) = some (r1, r2) := H
 have A3 := Aside0.mk A30
 clear A30
 replace H := Option.bind_eq_some_iff.mp H
 obtain ⟨t377, A40, H⟩ := H
 replace H : (some (t377, t376)) = some (r1, r2) := H
 have A4 := Aside0.mk A40
 clear A40
 simp only [Option.some.injEq, Prod.mk.injEq] at H
 obtain ⟨rfl, rfl⟩ := H
 go_enter Try.func69, Try.ntmps69
 go_wp2_with (first | ((with_reducible refine gate_callee (f := 80) rfl ?_); refine goesL_ (some 7) rfl rfl Try.func80 Q2 rfl #[.pointer (some ⟨g, 0, none⟩), .int .i64 a1] rfl Q37 ?_; (with_reducible refine (spec_l71Rows.calls k g s0_0 s0_1 a1 t373 t376 w0 _ ?side1 ?side2 A3.out).mono ?_); (case side1 => exact Q40); (case side2 => exact Q55); rintro e w5 ⟨v374, rfl, ho0, hi, hb, hk⟩; refine ⟨_, rfl, ?_⟩; have n0_ := Aside0.mk (Kd.R_lower ho0 (keep_size (w := w) (g := g) (row := none) Q39)); have n1_ := Aside0.mk (KeepBut.trans Q39 hk (.inl rfl)); have n2_ := Aside0.mk (hb); have n3_ := Aside0.mk (hi); clear HK; clear HB; clear HI0; have HO375 := n0_; have HK := n1_; have HB := n2_; have HI0 := n3_; clear n0_ n1_ n2_ n3_; (try clear hb); (try clear hb2); (try clear hk); (try clear hi); (try clear ho0); obtain ⟨Ao6, co6, eo6⟩ := Kd.R_slice HO375.out; subst eo6) | ((with_reducible refine gate_callee (f := 27) rfl ?_); refine goesL_ (some 8) rfl rfl Try.func27 Q2 rfl #[.slice Ao6 t373.length co6] rfl Q37 ?_; (with_reducible refine (spec_BatchOf.calls k _ _ t373 t377 _ ?side1 ?side2 A4.out).mono ?_); (case side1 => exact (by repeat (first | exact (Kd.R_reads' HO375.out).2.2 | (with_reducible refine Kd.C_alloc ?_ _) | (with_reducible refine Kd.C_drewN ?_ _) | (with_reducible refine Kd.C_drew ?_)))); (case side2 => exact (Kd.R_reads' HO375.out).2.1); rintro e w7 ⟨v378, rfl, ho0, hb⟩; refine ⟨_, rfl, ?_⟩; have n0_ := Aside0.mk (Kd.R_elder' (by (with_reducible repeat (first | apply Kd.R_alloc | apply Kd.R_drewN | apply Kd.R_drew)); exact HO375.out) (Kd.R_base ho0) hb); have n1_ := Aside0.mk (Kd.R_lower (Kd.R_new' ho0 (Kd.R_lt (by (with_reducible repeat (first | apply Kd.R_alloc | apply Kd.R_drewN | apply Kd.R_drew)); exact HO375.out))) (keep_size (w := w) (g := g) (row := none) Q39)); have n2_ := Aside0.mk (IsS87.below Q40 hb); have n3_ := Aside0.mk (KeepBut.trans Q39 (KeepBut.of_below hb g none) (.inl rfl)); have n4_ := Aside0.mk (below_step Q55 hb); clear HO375; clear HI0; clear HK; clear HB; have HO375 := n0_; have HO379 := n1_; have HI0 := n2_; have HK := n3_; have HB := n4_; clear n0_ n1_ n2_ n3_ n4_; (try clear hb); (try clear hb2); (try clear hk); (try clear hi); (try clear ho0)))
 go_ret
 exact ⟨_, Q10, by (with_reducible repeat (first | apply Kd.R_alloc | apply Kd.R_drewN | apply Kd.R_drew)); exact Kd.R_mono HO379.out (fun _ hk => trivial), Q40, Q55, Q39⟩
def spec_DrawBatchOk.f (k : Nat) (l0 : List Int) : Option ((List (S38))) := (spec_l6Open.f l0).bind fun bt380 => ((spec_l6Rd_pick.f k bt380.1 bt380.2 3).bind fun bt383 => (if bt383.1 = 0 then ((spec_l71Any.f k bt380.1 bt383.2).bind fun bt385 => (some bt385.1)) else ((spec_l71Batch.f k bt380.1 bt383.2 8).bind fun bt389 => ((spec_l6Rd_pick.f k bt380.1 bt389.2 6).bind fun bt393 => (if bt393.1 = 0 then ((spec_l71Row.f k bt380.1 bt393.2).bind fun bt395 => (if bt389.1.length < 3518437208883 then (some (bt389.1 ++ [(⟨bt395.1, bt395.2.1, (⟨bt395.2.2.1, bt395.2.2.2.1⟩ : S36), bt395.2.2.2.2.1⟩ : S38)])) else (none))) else (if bt393.1 = 1 then (if (bt389.1.length : Int) > 0 then ((spec_l6Rd_pick.f k bt380.1 bt393.2 (bt389.1.length : Int)).bind fun bt404 => (if 0 ≤ bt404.1 then (if bt404.1 < (bt389.1.length : Int) then (some (bt389.1.set (bt404.1 : Int).toNat (⟨(rd_T38 bt389.1 bt404.1).f0, (rd_T38 bt389.1 bt404.1).f1, (⟨(rd_T38 bt389.1 bt404.1).f2.f0, (rd_T38 bt389.1 bt404.1).f2.f1⟩ : S36), 0⟩ : S38))) else (none)) else (none))) else (some bt389.1)) else (some bt389.1)))))))
theorem spec_DrawBatchOk.mono : ∀ a0 k, LeO (spec_DrawBatchOk.f k a0) (spec_DrawBatchOk.f (k + 1) a0) := by
 intro a0 k
 unfold spec_DrawBatchOk.f
 repeat' first
   | (with_reducible exact spec_l6Rd_pick.mono _ _ _ _)
   | (with_reducible exact spec_l71Any.mono _ _ _)
   | (with_reducible exact spec_l71Batch.mono _ _ _ _)
   | (with_reducible exact spec_l71Row.mono _ _ _)
   | (with_reducible exact LeO.refl _)
   | (with_reducible exact LeO.none _)
   | (with_reducible refine LeO.ite ?_ ?_)
   | (with_reducible refine LeO.bind ?_ (fun _ => ?_))
   | exact spec_l6Rd_pick.mono _ _ _ _
   | exact spec_l71Any.mono _ _ _
   | exact spec_l71Batch.mono _ _ _ _
   | exact spec_l71Row.mono _ _ _
   | exact LeO.none _
   | refine LeO.ite ?_ ?_
   | refine LeO.bind ?_ (fun _ => ?_)
set_option maxHeartbeats 8000000 in
set_option maxRecDepth 100000 in
theorem spec_DrawBatchOk.calls (k : Nat) (A0 : Option Addr) (c0 : Nat) (l0 : List Int) (r : List (S38)) (w : World) (hr0 : Kd.C (Kd.int .u8) w A0 l0.length l0) (hc0 : l0.length ≤ c0) (h : spec_DrawBatchOk.f k l0 = some r) :
  Calls Try.prog 30 #[.slice A0 l0.length c0] w fun e w' => ∃ v0_ : Value, e = .returned (v0_) ∧ Kd.R k38 38 w' w.heap.size (fun _ => True) v0_ r ∧ Below w.heap.size w w' := by
 have HR0 := Aside0.mk hr0
 have HC0 := Aside0.mk hc0
 clear hr0 hc0
 have HB := Aside0.mk (Below.refl w.heap.size w)
 have H : ((spec_l6Open.f l0).bind fun bt380 => ((spec_l6Rd_pick.f k bt380.1 bt380.2 3).bind fun bt383 => (if bt383.1 = 0 then ((spec_l71Any.f k bt380.1 bt383.2).bind fun bt385 => (some bt385.1)) else ((spec_l71Batch.f k bt380.1 bt383.2 8).bind fun bt389 => ((spec_l6Rd_pick.f k bt380.1 bt389.2 6).bind fun bt393 => (if bt393.1 = 0 then ((spec_l71Row.f k bt380.1 bt393.2).bind fun bt395 => (if bt389.1.length < 3518437208883 then (some (bt389.1 ++ [(⟨bt395.1, bt395.2.1, (⟨bt395.2.2.1, bt395.2.2.2.1⟩ : S36), bt395.2.2.2.2.1⟩ : S38)])) else (none))) else (if bt393.1 = 1 then (if (bt389.1.length : Int) > 0 then ((spec_l6Rd_pick.f k bt380.1 bt393.2 (bt389.1.length : Int)).bind fun bt404 => (if 0 ≤ bt404.1 then (if bt404.1 < (bt389.1.length : Int) then (some (bt389.1.set (bt404.1 : Int).toNat (⟨(rd_T38 bt389.1 bt404.1).f0, (rd_T38 bt389.1 bt404.1).f1, (⟨(rd_T38 bt389.1 bt404.1).f2.f0, (rd_T38 bt389.1 bt404.1).f2.f1⟩ : S36), 0⟩ : S38))) else (none)) else (none))) else (some bt389.1)) else (some bt389.1)))))))) = some r := h
 clear h
 replace H := Option.bind_eq_some_iff.mp H
 obtain ⟨⟨t380, t381⟩, A20, H⟩ := H
 replace H : ((spec_l6Rd_pick.f k t380 t381 3).bind fun bt383 => (if bt383.1 = 0 then ((spec_l71Any.f k t380 bt383.2).bind fun bt385 => (some bt385.1)) else ((spec_l71Batch.f k t380 bt383.2 8).bind fun bt389 => ((spec_l6Rd_pick.f k t380 bt389.2 6).bind fun bt393 => (if bt393.1 = 0 then ((spec_l71Row.f k t380 bt393.2).bind fun bt395 => (if bt389.1.length < 3518437208883 then (some (bt389.1 ++ [(⟨bt395.1, bt395.2.1, (⟨bt395.2.2.1, bt395.2.2.2.1⟩ : S36), bt395.2.2.2.2.1⟩ : S38)])) else (none))) else (if bt393.1 = 1 then (if (bt389.1.length : Int) > 0 then ((spec_l6Rd_pick.f k t380 bt393.2 (bt389.1.length : Int)).bind fun bt404 => (if 0 ≤ bt404.1 then (if bt404.1 < (bt389.1.length : Int) then (some (bt389.1.set (bt404.1 : Int).toNat (⟨(rd_T38 bt389.1 bt404.1).f0, (rd_T38 bt389.1 bt404.1).f1, (⟨(rd_T38 bt389.1 bt404.1).f2.f0, (rd_T38 bt389.1 bt404.1).f2.f1⟩ : S36), 0⟩ : S38))) else (none)) else (none))) else (some bt389.1)) else (some bt389.1))))))) = some r := H
 have A2 := Aside0.mk A20
 clear A20
 replace H := Option.bind_eq_some_iff.mp H
 obtain ⟨⟨t383, t384⟩, A30, H⟩ := H
 replace H : (if t383 = 0 then ((spec_l71Any.f k t380 t384).bind fun bt385 => (some bt385.1)) else ((spec_l71Batch.f k t380 t384 8).bind fun bt389 => ((spec_l6Rd_pick.f k t380 bt389.2 6).bind fun bt393 => (if bt393.1 = 0 then ((spec_l71Row.f k t380 bt393.2).bind fun bt395 => (if bt389.1.length < 3518437208883 then (some (bt389.1 ++ [(⟨bt395.1, bt395.2.1, (⟨bt395.2.2.1, bt395.2.2.2.1⟩ : S36), bt395.2.2.2.2.1⟩ : S38)])) else (none))) else (if bt393.1 = 1 then (if (bt389.1.length : Int) > 0 then ((spec_l6Rd_pick.f k t380 bt393.2 (bt389.1.length : Int)).bind fun bt404 => (if 0 ≤ bt404.1 then (if bt404.1 < (bt389.1.length : Int) then (some (bt389.1.set (bt404.1 : Int).toNat (⟨(rd_T38 bt389.1 bt404.1).f0, (rd_T38 bt389.1 bt404.1).f1, (⟨(rd_T38 bt389.1 bt404.1).f2.f0, (rd_T38 bt389.1 bt404.1).f2.f1⟩ : S36), 0⟩ : S38))) else (none)) else (none))) else (some bt389.1)) else (some bt389.1)))))) = some r := H
 have A3 := Aside0.mk A30
 clear A30
 by_cases c4 : t383 = 0
 ·rw [if_pos c4] at H
  have c4b0 : (t383 == 0) = true := beq_iff_eq.mpr c4
  have c4b1 : (t383 != 0) = false := bne_eq_false_iff_eq.mpr c4
  clear c4
  replace H := Option.bind_eq_some_iff.mp H
  obtain ⟨⟨t385, t388⟩, A50, H⟩ := H
  replace H : (some t385) = some r := H
  have A5 := Aside0.mk A50
  clear A50
  obtain rfl := Option.some.inj H
  go_enter Try.func30, Try.ntmps30
  go_wp2_with (first | ((with_reducible refine gate_callee (f := 50) rfl ?_); refine goesL_ (some 6) rfl rfl Try.func50 Q2 rfl #[.slice A0 l0.length c0] rfl Q37 ?_; (with_reducible refine (spec_l6Open.calls _ _ l0 t380 t381 w _ ?side1 ?side2 ?side3 A2.out).mono ?_); (case side1 => exact Q35); (case side2 => exact HR0.out); (case side3 => exact HC0.out); rintro e w6 ⟨g382, rfl, hi, hb, hb2⟩; refine ⟨_, rfl, ?_⟩; have n0_ := Aside0.mk (hb); have n1_ := Aside0.mk (hi); clear HB; have HB := n0_; have HI382 := n1_; clear n0_ n1_; (try clear hb); (try clear hb2); (try clear hk); (try clear hi)) | ((with_reducible refine gate_callee (f := 68) rfl ?_); refine goesL_ (some 8) rfl rfl Try.func68 Q2 rfl #[.pointer (some ⟨g382, 0, none⟩), .int .i64 3] rfl Q37 ?_; (with_reducible refine (spec_l6Rd_pick.calls k g382 t380 t381 3 t383 t384 w _ ?side1 ?side2 A3.out).mono ?_); (case side1 => exact Q42); (case side2 => exact Q58); rintro e w7 ⟨rfl, hi, hb, hk⟩; refine ⟨_, rfl, ?_⟩; have n0_ := Aside0.mk (hb); have n1_ := Aside0.mk (hi); clear HB; clear HI382; have HB := n0_; have HI382 := n1_; clear n0_ n1_; (try clear hb); (try clear hb2); (try clear hk); (try clear hi)) | ((with_reducible refine gate_callee (f := 51) rfl ?_); refine goesL_ (some 11) rfl rfl Try.func51 Q2 rfl #[.pointer (some ⟨g382, 0, none⟩)] rfl Q37 ?_; (with_reducible refine (spec_l71Any.calls k g382 t380 t384 t385 t388 w _ ?side1 ?side2 A5.out).mono ?_); (case side1 => exact Q42); (case side2 => exact Q58); rintro e w8 ⟨v386, rfl, ho0, hi, hb, hk⟩; refine ⟨_, rfl, ?_⟩; have n0_ := Aside0.mk (Kd.R_lower ho0 (below_size Q58)); have n1_ := Aside0.mk (hb); have n2_ := Aside0.mk (hi); clear HB; clear HI382; have HO387 := n0_; have HB := n1_; have HI382 := n2_; clear n0_ n1_ n2_; (try clear hb); (try clear hb2); (try clear hk); (try clear hi); (try clear ho0)))
  go_ret
  exact ⟨_, Q10, by (with_reducible repeat (first | apply Kd.R_alloc | apply Kd.R_drewN | apply Kd.R_drew)); exact HO387.out, Q58⟩
 ·rw [if_neg c4] at H
  have c4b0 : (t383 == 0) = false := beq_eq_false_iff_ne.mpr c4
  have c4b1 : (t383 != 0) = true := bne_iff_ne.mpr c4
  replace H := Option.bind_eq_some_iff.mp H
  obtain ⟨⟨t389, t392⟩, A90, H⟩ := H
  replace H : ((spec_l6Rd_pick.f k t380 t392 6).bind fun bt393 => (if bt393.1 = 0 then ((spec_l71Row.f k t380 bt393.2).bind fun bt395 => (if t389.length < 3518437208883 then (some (t389 ++ [(⟨bt395.1, bt395.2.1, (⟨bt395.2.2.1, bt395.2.2.2.1⟩ : S36), bt395.2.2.2.2.1⟩ : S38)])) else (none))) else (if bt393.1 = 1 then (if (t389.length : Int) > 0 then ((spec_l6Rd_pick.f k t380 bt393.2 (t389.length : Int)).bind fun bt404 => (if 0 ≤ bt404.1 then (if bt404.1 < (t389.length : Int) then (some (t389.set (bt404.1 : Int).toNat (⟨(rd_T38 t389 bt404.1).f0, (rd_T38 t389 bt404.1).f1, (⟨(rd_T38 t389 bt404.1).f2.f0, (rd_T38 t389 bt404.1).f2.f1⟩ : S36), 0⟩ : S38))) else (none)) else (none))) else (some t389)) else (some t389)))) = some r := H
  have A9 := Aside0.mk A90
  clear A90
  replace H := Option.bind_eq_some_iff.mp H
  obtain ⟨⟨t393, t394⟩, A100, H⟩ := H
  replace H : (if t393 = 0 then ((spec_l71Row.f k t380 t394).bind fun bt395 => (if t389.length < 3518437208883 then (some (t389 ++ [(⟨bt395.1, bt395.2.1, (⟨bt395.2.2.1, bt395.2.2.2.1⟩ : S36), bt395.2.2.2.2.1⟩ : S38)])) else (none))) else (if t393 = 1 then (if (t389.length : Int) > 0 then ((spec_l6Rd_pick.f k t380 t394 (t389.length : Int)).bind fun bt404 => (if 0 ≤ bt404.1 then (if bt404.1 < (t389.length : Int) then (some (t389.set (bt404.1 : Int).toNat (⟨(rd_T38 t389 bt404.1).f0, (rd_T38 t389 bt404.1).f1, (⟨(rd_T38 t389 bt404.1).f2.f0, (rd_T38 t389 bt404.1).f2.f1⟩ : S36), 0⟩ : S38))) else (none)) else (none))) else (some t389)) else (some t389))) = some r := H
  have A10 := Aside0.mk A100
  clear A100
  by_cases c11 : t393 = 0
  ·rw [if_pos c11] at H
   have c11b0 : (t393 == 0) = true := beq_iff_eq.mpr c11
   have c11b1 : (t393 != 0) = false := bne_eq_false_iff_eq.mpr c11
   clear c11
   replace H := Option.bind_eq_some_iff.mp H
   obtain ⟨⟨t395, t396, t397, t398, t399, t400⟩, A120, H⟩ := H
   replace H : (if t389.length < 3518437208883 then (some (t389 ++ [(⟨t395, t396, (⟨t397, t398⟩ : S36), t399⟩ : S38)])) else (none)) = some r := H
   have A12 := Aside0.mk A120
   clear A120
   by_cases c13 : t389.length < 3518437208883
   ·rw [if_pos c13] at H
    have LMc13 := Aside0.mk c13
    clear c13
    obtain ⟨y401, hy_⟩ : ∃ y_ : List (S38), y_ = (t389 ++ [(⟨t395, t396, (⟨t397, t398⟩ : S36), t399⟩ : S38)]) := ⟨_, rfl⟩
    replace H : (some y401) = some r := Q77
    have Ny401 := Aside0.mk hy_
    clear hy_
    obtain rfl := Option.some.inj H
    go_enter Try.func30, Try.ntmps30
    go_wp2_with (first | ((with_reducible refine gate_callee (f := 50) rfl ?_); refine goesL_ (some 6) rfl rfl Try.func50 Q2 rfl #[.slice A0 l0.length c0] rfl Q37 ?_; (with_reducible refine (spec_l6Open.calls _ _ l0 t380 t381 w _ ?side1 ?side2 ?side3 A2.out).mono ?_); (case side1 => exact Q35); (case side2 => exact HR0.out); (case side3 => exact HC0.out); rintro e w14 ⟨g382, rfl, hi, hb, hb2⟩; refine ⟨_, rfl, ?_⟩; have n0_ := Aside0.mk (hb); have n1_ := Aside0.mk (hi); clear HB; have HB := n0_; have HI382 := n1_; clear n0_ n1_; (try clear hb); (try clear hb2); (try clear hk); (try clear hi)) | ((with_reducible refine gate_callee (f := 68) rfl ?_); refine goesL_ (some 8) rfl rfl Try.func68 Q2 rfl #[.pointer (some ⟨g382, 0, none⟩), .int .i64 3] rfl Q37 ?_; (with_reducible refine (spec_l6Rd_pick.calls k g382 t380 t381 3 t383 t384 w _ ?side1 ?side2 A3.out).mono ?_); (case side1 => exact Q42); (case side2 => exact Q58); rintro e w15 ⟨rfl, hi, hb, hk⟩; refine ⟨_, rfl, ?_⟩; have n0_ := Aside0.mk (hb); have n1_ := Aside0.mk (hi); clear HB; clear HI382; have HB := n0_; have HI382 := n1_; clear n0_ n1_; (try clear hb); (try clear hb2); (try clear hk); (try clear hi)) | ((with_reducible refine gate_callee (f := 69) rfl ?_); refine goesL_ (some 13) rfl rfl Try.func69 Q2 rfl #[.pointer (some ⟨g382, 0, none⟩), .int .i64 8] rfl Q37 ?_; (with_reducible refine (spec_l71Batch.calls k g382 t380 t384 8 t389 t392 w _ ?side1 ?side2 A9.out).mono ?_); (case side1 => exact Q42); (case side2 => exact Q58); rintro e w16 ⟨v390, rfl, ho0, hi, hb, hk⟩; refine ⟨_, rfl, ?_⟩; have n0_ := Aside0.mk (Kd.R_lower ho0 (below_size Q58)); have n1_ := Aside0.mk (hb); have n2_ := Aside0.mk (hi); clear HB; clear HI382; have HO391 := n0_; have HB := n1_; have HI382 := n2_; clear n0_ n1_ n2_; (try clear hb); (try clear hb2); (try clear hk); (try clear hi); (try clear ho0)) | ((with_reducible refine gate_callee (f := 68) rfl ?_); refine goesL_ (some 15) rfl rfl Try.func68 Q2 rfl #[.pointer (some ⟨g382, 0, none⟩), .int .i64 6] rfl Q37 ?_; (with_reducible refine (spec_l6Rd_pick.calls k g382 t380 t392 6 t393 t394 w _ ?side1 ?side2 A10.out).mono ?_); (case side1 => exact Q42); (case side2 => exact Q58); rintro e w17 ⟨rfl, hi, hb, hk⟩; refine ⟨_, rfl, ?_⟩; have n0_ := Aside0.mk (Kd.R_mono (Kd.R_keep (IsS87.apart (show IsS87 w _ g382 t380 t392 from by repeat (first | (with_reducible first | exact HI382.out | apply IsS87.alloc | apply IsS87.drewN | apply IsS87.drew | apply IsS87.set_1) | exact HI382.out)) Q19 Q1) hk (fun _ h => h.2)) (fun _ h => h.1)); have n1_ := Aside0.mk (hb); have n2_ := Aside0.mk (hi); clear HO391; clear HB; clear HI382; have HO391 := n0_; have HB := n1_; have HI382 := n2_; clear n0_ n1_ n2_; (try clear hb); (try clear hb2); (try clear hk); (try clear hi)) | ((with_reducible refine gate_callee (f := 70) rfl ?_); refine goesL_ (some 20) rfl rfl Try.func70 Q2 rfl #[.pointer (some ⟨g382, 0, none⟩)] rfl Q37 ?_; (with_reducible refine (spec_l71Row.calls k g382 t380 t394 t395 t396 t397 t398 t399 t400 w _ ?side1 ?side2 A12.out).mono ?_); (case side1 => exact Q42); (case side2 => exact Q58); rintro e w18 ⟨rfl, hi, hb, hk⟩; refine ⟨_, rfl, ?_⟩; have n0_ := Aside0.mk (Kd.R_mono (Kd.R_keep (IsS87.apart (show IsS87 w _ g382 t380 t394 from by repeat (first | (with_reducible first | exact HI382.out | apply IsS87.alloc | apply IsS87.drewN | apply IsS87.drew | apply IsS87.set_1) | exact HI382.out)) Q19 Q1) hk (fun _ h => h.2)) (fun _ h => h.1)); have n1_ := Aside0.mk (hb); have n2_ := Aside0.mk (hi); clear HO391; clear HB; clear HI382; have HO391 := n0_; have HB := n1_; have HI382 := n2_; clear n0_ n1_ n2_; (try clear hb); (try clear hb2); (try clear hk); (try clear hi)) | ((with_reducible refine gate_builtin (b := .append) (xs := #[.tmp 18, .tmp 21]) rfl ?_); at_builtin; refine Kd.R_append k38 (w0 := w) w.heap.size rfl (.tmp 18) (.tmp 21) 23 38 (.agg #[(.int .i64 0), (.int .i64 0), (.int .i64 0), (.int .i64 0), (.int .i64 0)]) 40 rfl Try.underlying23 info38 rfl Q1 (by omega) v390 t389 (⟨t395, t396, (⟨t397, t398⟩ : S36), t399⟩ : S38) [.int .i64 t395, .int .i64 t396, .int .i64 t397, .int .i64 t398, .int .i64 t399] (fun _ => True) (fun _ => False) rfl rfl ?aP (fun _ hk => hk.elim) ?aF ?aO ?aB ?aS ?aL ?_; (case aP => exact k38_mkM _ _ _ (⟨t395, t396, (⟨t397, t398⟩ : S36), t399⟩ : S38)); (case aB => exact Q58); (case aF => exact (fun _ _ => trivial)); (case aO => exact Q19); (case aS => exact (below_size Q58)); (case aL => have := LMc13.out; omega); intro v402 w19 ho hb hg hat; rw [← Ny401.out] at ho; have n0_ := Aside0.mk (IsS87.grown (show IsS87 w _ g382 t380 t400 from by repeat (first | (with_reducible first | exact HI382.out | apply IsS87.alloc | apply IsS87.drewN | apply IsS87.drew | apply IsS87.set_1) | exact HI382.out)) hg (IsS87.own_ne HI382.out HO391.out Q1)); have n1_ := Aside0.mk (hb); have n2_ := Aside0.mk (ho); clear HI382; clear HB; clear HO391; have HI382 := n0_; have HB := n1_; have HO403 := n2_; clear n0_ n1_ n2_; clear ho hb hg hat))
    go_ret
    exact ⟨_, Q10, by (with_reducible repeat (first | apply Kd.R_alloc | apply Kd.R_drewN | apply Kd.R_drew)); exact HO403.out, Q58⟩
   ·rw [if_neg c13] at H
    exact absurd H Q0
  ·rw [if_neg c11] at H
   have c11b0 : (t393 == 0) = false := beq_eq_false_iff_ne.mpr c11
   have c11b1 : (t393 != 0) = true := bne_iff_ne.mpr c11
   by_cases c20 : t393 = 1
   ·rw [if_pos c20] at H
    have c20b0 : (t393 == 1) = true := beq_iff_eq.mpr c20
    have c20b1 : (t393 != 1) = false := bne_eq_false_iff_eq.mpr c20
    clear c20
    by_cases c21 : (t389.length : Int) > 0
    ·rw [if_pos c21] at H
     have c21b0 : decide (0 < (t389.length : Int)) = true := decide_eq_true c21
     have c21b1 : decide (0 < t389.length) = true := decide_eq_true (by omega)
     clear c21
     replace H := Option.bind_eq_some_iff.mp H
     obtain ⟨⟨t404, t405⟩, A220, H⟩ := H
     replace H : (if 0 ≤ t404 then (if t404 < (t389.length : Int) then (some (t389.set (t404 : Int).toNat (⟨(rd_T38 t389 t404).f0, (rd_T38 t389 t404).f1, (⟨(rd_T38 t389 t404).f2.f0, (rd_T38 t389 t404).f2.f1⟩ : S36), 0⟩ : S38))) else (none)) else (none)) = some r := H
     have A22 := Aside0.mk A220
     clear A220
     by_cases c23 : 0 ≤ t404
     ·rw [if_pos c23] at H
      have c23b0 : decide (0 ≤ t404) = true := decide_eq_true c23
      clear c23
      by_cases c24 : t404 < (t389.length : Int)
      ·rw [if_pos c24] at H
       have c24b0 : decide (t404 < (t389.length : Int)) = true := decide_eq_true c24
       clear c24
       obtain ⟨y406, hy_⟩ : ∃ y_ : List (S38), y_ = (t389.set (t404 : Int).toNat (⟨(rd_T38 t389 t404).f0, (rd_T38 t389 t404).f1, (⟨(rd_T38 t389 t404).f2.f0, (rd_T38 t389 t404).f2.f1⟩ : S36), 0⟩ : S38)) := ⟨_, rfl⟩
       replace H : (some y406) = some r := Q77
       have Ny406 := Aside0.mk hy_
       clear hy_
       obtain rfl := Option.some.inj H
       go_enter Try.func30, Try.ntmps30
       go_wp2_with (first | ((with_reducible refine gate_callee (f := 50) rfl ?_); refine goesL_ (some 6) rfl rfl Try.func50 Q2 rfl #[.slice A0 l0.length c0] rfl Q37 ?_; (with_reducible refine (spec_l6Open.calls _ _ l0 t380 t381 w _ ?side1 ?side2 ?side3 A2.out).mono ?_); (case side1 => exact Q35); (case side2 => exact HR0.out); (case side3 => exact HC0.out); rintro e w26 ⟨g382, rfl, hi, hb, hb2⟩; refine ⟨_, rfl, ?_⟩; have n0_ := Aside0.mk (hb); have n1_ := Aside0.mk (hi); clear HB; have HB := n0_; have HI382 := n1_; clear n0_ n1_; (try clear hb); (try clear hb2); (try clear hk); (try clear hi)) | ((with_reducible refine gate_callee (f := 68) rfl ?_); refine goesL_ (some 8) rfl rfl Try.func68 Q2 rfl #[.pointer (some ⟨g382, 0, none⟩), .int .i64 3] rfl Q37 ?_; (with_reducible refine (spec_l6Rd_pick.calls k g382 t380 t381 3 t383 t384 w _ ?side1 ?side2 A3.out).mono ?_); (case side1 => exact Q42); (case side2 => exact Q58); rintro e w27 ⟨rfl, hi, hb, hk⟩; refine ⟨_, rfl, ?_⟩; have n0_ := Aside0.mk (hb); have n1_ := Aside0.mk (hi); clear HB; clear HI382; have HB := n0_; have HI382 := n1_; clear n0_ n1_; (try clear hb); (try clear hb2); (try clear hk); (try clear hi)) | ((with_reducible refine gate_callee (f := 69) rfl ?_); refine goesL_ (some 13) rfl rfl Try.func69 Q2 rfl #[.pointer (some ⟨g382, 0, none⟩), .int .i64 8] rfl Q37 ?_; (with_reducible refine (spec_l71Batch.calls k g382 t380 t384 8 t389 t392 w _ ?side1 ?side2 A9.out).mono ?_); (case side1 => exact Q42); (case side2 => exact Q58); rintro e w28 ⟨v390, rfl, ho0, hi, hb, hk⟩; refine ⟨_, rfl, ?_⟩; have n0_ := Aside0.mk (Kd.R_lower ho0 (below_size Q58)); have n1_ := Aside0.mk (hb); have n2_ := Aside0.mk (hi); clear HB; clear HI382; have HO391 := n0_; have HB := n1_; have HI382 := n2_; clear n0_ n1_ n2_; (try clear hb); (try clear hb2); (try clear hk); (try clear hi); (try clear ho0)) | ((with_reducible refine gate_callee (f := 68) rfl ?_); refine goesL_ (some 15) rfl rfl Try.func68 Q2 rfl #[.pointer (some ⟨g382, 0, none⟩), .int .i64 6] rfl Q37 ?_; (with_reducible refine (spec_l6Rd_pick.calls k g382 t380 t392 6 t393 t394 w _ ?side1 ?side2 A10.out).mono ?_); (case side1 => exact Q42); (case side2 => exact Q58); rintro e w29 ⟨rfl, hi, hb, hk⟩; refine ⟨_, rfl, ?_⟩; have n0_ := Aside0.mk (Kd.R_mono (Kd.R_keep (IsS87.apart (show IsS87 w _ g382 t380 t392 from by repeat (first | (with_reducible first | exact HI382.out | apply IsS87.alloc | apply IsS87.drewN | apply IsS87.drew | apply IsS87.set_1) | exact HI382.out)) Q19 Q1) hk (fun _ h => h.2)) (fun _ h => h.1)); have n1_ := Aside0.mk (hb); have n2_ := Aside0.mk (hi); clear HO391; clear HB; clear HI382; have HO391 := n0_; have HB := n1_; have HI382 := n2_; clear n0_ n1_ n2_; (try clear hb); (try clear hb2); (try clear hk); (try clear hi); obtain ⟨Ao30, co30, eo30⟩ := Kd.R_slice HO391.out; subst eo30) | ((with_reducible refine gate_callee (f := 68) rfl ?_); refine goesL_ (some 32) rfl rfl Try.func68 Q2 rfl #[.pointer (some ⟨g382, 0, none⟩), .int .i64 (t389.length : Int)] rfl Q37 ?_; (with_reducible refine (spec_l6Rd_pick.calls k g382 t380 t394 (t389.length : Int) t404 t405 w _ ?side1 ?side2 A22.out).mono ?_); (case side1 => exact Q42); (case side2 => exact Q58); rintro e w31 ⟨rfl, hi, hb, hk⟩; refine ⟨_, rfl, ?_⟩; have n0_ := Aside0.mk (Kd.R_mono (Kd.R_keep (IsS87.apart (show IsS87 w _ g382 t380 t394 from by repeat (first | (with_reducible first | exact HI382.out | apply IsS87.alloc | apply IsS87.drewN | apply IsS87.drew | apply IsS87.set_1) | exact HI382.out)) Q19 Q1) hk (fun _ h => h.2)) (fun _ h => h.1)); have n1_ := Aside0.mk (hb); have n2_ := Aside0.mk (hi); clear HO391; clear HB; clear HI382; have HO391 := n0_; have HB := n1_; have HI382 := n2_; clear n0_ n1_ n2_; (try clear hb); (try clear hb2); (try clear hk); (try clear hi); have p25 : 0 ≤ (t404 : Int) := of_decide_eq_true Q7; have q25 : (t404 : Int) < ((t389.length : Int) : Int) := of_decide_eq_true Q7; obtain ⟨go25, co25, eo25, gb25, gl25, cl25, HG25⟩ := Kd.R_form HO391.out (by omega); (first | cases eo25 | (injection eo25 with ea_ en_ ec_; (first | subst ea_ | (injection ea_ with ea_; subst ea_)); subst ec_; clear en_)); have GB25 := Aside0.mk gb25; have GG25 := Aside0.mk HG25; clear gb25 gl25 HG25; obtain ⟨ce25, hcl25, hM25, hcc25, hfr25⟩ := Kd.R_elem HO391.out z38 (t404 : Int) p25 q25; obtain rfl := k38_openM hM25; have hx25_0 : w31.cell? ⟨go25, (t404 : Int).toNat * 5, none⟩ = some (.int .i64 ((rd_T38 t389 t404).f0)) := hcc25 0 _ rfl; have hx25_1 : w31.cell? ⟨go25, (t404 : Int).toNat * 5 + 1, none⟩ = some (.int .i64 ((rd_T38 t389 t404).f1)) := hcc25 1 _ rfl; have hx25_2 : w31.cell? ⟨go25, (t404 : Int).toNat * 5 + 2, none⟩ = some (.int .i64 ((rd_T38 t389 t404).f2.f0)) := hcc25 2 _ rfl; have hx25_3 : w31.cell? ⟨go25, (t404 : Int).toNat * 5 + 3, none⟩ = some (.int .i64 ((rd_T38 t389 t404).f2.f1)) := hcc25 3 _ rfl; have hx25_4 : w31.cell? ⟨go25, (t404 : Int).toNat * 5 + 4, none⟩ = some (.int .i64 ((rd_T38 t389 t404).f3)) := hcc25 4 _ rfl; have hf25_0 : w31.frozen? ⟨go25, (t404 : Int).toNat * 5, none⟩ = false := hfr25 0; have hf25_1 : w31.frozen? ⟨go25, (t404 : Int).toNat * 5 + 1, none⟩ = false := hfr25 1; have hf25_2 : w31.frozen? ⟨go25, (t404 : Int).toNat * 5 + 2, none⟩ = false := hfr25 2; have hf25_3 : w31.frozen? ⟨go25, (t404 : Int).toNat * 5 + 3, none⟩ = false := hfr25 3; have hf25_4 : w31.frozen? ⟨go25, (t404 : Int).toNat * 5 + 4, none⟩ = false := hfr25 4; clear hcl25 hcc25 hfr25 hM25; replace p25 := eq_true p25; replace q25 := eq_true q25; have HX32 := Aside0.mk (show Kd.R k38 38 w31 w.heap.size (fun _ => True) (.slice (some ⟨go25, 0, none⟩) t389.length co30) t389 from Q19); obtain ⟨ce32, hcl32, hM32, hcc32, hfr32⟩ := Kd.R_elem HX32.out z38 (t404 : Int) (of_decide_eq_true Q7) (by have h_ : (t404 : Int) < ((t389.length : Int) : Int) := of_decide_eq_true Q7; first | exact h_ | (have e_ := (Kd.R_reads' HO391.out).1; omega) | simpa using h_); obtain rfl := k38_openM hM32; have HP32 := Kd.R_seg HX32.out (t404 : Int) (of_decide_eq_true Q7) (by have h_ : (t404 : Int) < ((t389.length : Int) : Int) := of_decide_eq_true Q7; first | exact h_ | (have e_ := (Kd.R_reads' HO391.out).1; omega) | simpa using h_) (seg := [.int .i64 0]) (j := 4) hcl32 hcc32 (show 5 ≤ 5 from by decide) (x' := (⟨(rd_T38 t389 t404).f0, (rd_T38 t389 t404).f1, (⟨(rd_T38 t389 t404).f2.f0, (rd_T38 t389 t404).f2.f1⟩ : S36), 0⟩ : S38)) (k38_mkM _ _ _ (⟨(rd_T38 t389 t404).f0, (rd_T38 t389 t404).f1, (⟨(rd_T38 t389 t404).f2.f0, (rd_T38 t389 t404).f2.f1⟩ : S36), 0⟩ : S38) ) (fun _ hk => hk); have hx32_4 := hcc32 4 _ rfl; (try simp only [show (k38).sz = 5 from rfl, Nat.mul_one, Nat.add_zero] at hx32_4); have hf32_4 := hfr32 4; (try simp only [show (k38).sz = 5 from rfl, Nat.mul_one, Nat.add_zero] at hf32_4); clear hcl32 hcc32 hfr32 hM32) | ((with_reducible refine gate_store (t := 3) (p := 34) rfl ?_); refine store_event (t := 3) (p := 34) (v := ?vo_w33) (w1 := (w31.setCell ⟨go25, (t404 : Int).toNat * 5 + 4, none⟩ (.int .i64 0))) ?hg ?ho ?hn ?hr ?_; (case ho => rfl); (case hg => rfl); (case hn => rfl); (case hr => first | (go_simp; done) | (go_simp; rfl)); intro w33 hw; have hg : w31.grownBy w33 (some go25) := (by rw [hw]; exact HP32.2); have hp_ : Kd.R k38 38 w33 w.heap.size (fun _ => True) (.slice (some ⟨go25, 0, none⟩) t389.length co30) y406 := (by rw [hw, Ny406.out]; exact HP32.1); clear HP32; have n0_ := Aside0.mk (IsS87.grown Q42 hg (IsS87.own_ne HI382.out HO391.out Q1)); have n1_ := Aside0.mk (hp_); have n2_ := Aside0.mk ((by rw [hw]; exact below_set (HB.out) GB25.out : Below w.heap.size w w33)); clear HI382; clear HO391; clear HB; have HI382 := n0_; have HO391 := n1_; have HB := n2_; clear n0_ n1_ n2_; clear hg hw hp_))
       go_ret
       exact ⟨_, Q10, Q19, Q58⟩
      ·rw [if_neg c24] at H
       exact absurd H Q0
     ·rw [if_neg c23] at H
      exact absurd H Q0
    ·rw [if_neg c21] at H
     have c21b0 : decide (0 < (t389.length : Int)) = false := decide_eq_false c21
     have c21b1 : decide (0 < t389.length) = false := decide_eq_false (by omega)
     clear c21
     obtain rfl := Option.some.inj H
     go_enter Try.func30, Try.ntmps30
     go_wp2_with (first | ((with_reducible refine gate_callee (f := 50) rfl ?_); refine goesL_ (some 6) rfl rfl Try.func50 Q2 rfl #[.slice A0 l0.length c0] rfl Q37 ?_; (with_reducible refine (spec_l6Open.calls _ _ l0 t380 t381 w _ ?side1 ?side2 ?side3 A2.out).mono ?_); (case side1 => exact Q35); (case side2 => exact HR0.out); (case side3 => exact HC0.out); rintro e w34 ⟨g382, rfl, hi, hb, hb2⟩; refine ⟨_, rfl, ?_⟩; have n0_ := Aside0.mk (hb); have n1_ := Aside0.mk (hi); clear HB; have HB := n0_; have HI382 := n1_; clear n0_ n1_; (try clear hb); (try clear hb2); (try clear hk); (try clear hi)) | ((with_reducible refine gate_callee (f := 68) rfl ?_); refine goesL_ (some 8) rfl rfl Try.func68 Q2 rfl #[.pointer (some ⟨g382, 0, none⟩), .int .i64 3] rfl Q37 ?_; (with_reducible refine (spec_l6Rd_pick.calls k g382 t380 t381 3 t383 t384 w _ ?side1 ?side2 A3.out).mono ?_); (case side1 => exact Q42); (case side2 => exact Q58); rintro e w35 ⟨rfl, hi, hb, hk⟩; refine ⟨_, rfl, ?_⟩; have n0_ := Aside0.mk (hb); have n1_ := Aside0.mk (hi); clear HB; clear HI382; have HB := n0_; have HI382 := n1_; clear n0_ n1_; (try clear hb); (try clear hb2); (try clear hk); (try clear hi)) | ((with_reducible refine gate_callee (f := 69) rfl ?_); refine goesL_ (some 13) rfl rfl Try.func69 Q2 rfl #[.pointer (some ⟨g382, 0, none⟩), .int .i64 8] rfl Q37 ?_; (with_reducible refine (spec_l71Batch.calls k g382 t380 t384 8 t389 t392 w _ ?side1 ?side2 A9.out).mono ?_); (case side1 => exact Q42); (case side2 => exact Q58); rintro e w36 ⟨v390, rfl, ho0, hi, hb, hk⟩; refine ⟨_, rfl, ?_⟩; have n0_ := Aside0.mk (Kd.R_lower ho0 (below_size Q58)); have n1_ := Aside0.mk (hb); have n2_ := Aside0.mk (hi); clear HB; clear HI382; have HO391 := n0_; have HB := n1_; have HI382 := n2_; clear n0_ n1_ n2_; (try clear hb); (try clear hb2); (try clear hk); (try clear hi); (try clear ho0)) | ((with_reducible refine gate_callee (f := 68) rfl ?_); refine goesL_ (some 15) rfl rfl Try.func68 Q2 rfl #[.pointer (some ⟨g382, 0, none⟩), .int .i64 6] rfl Q37 ?_; (with_reducible refine (spec_l6Rd_pick.calls k g382 t380 t392 6 t393 t394 w _ ?side1 ?side2 A10.out).mono ?_); (case side1 => exact Q42); (case side2 => exact Q58); rintro e w37 ⟨rfl, hi, hb, hk⟩; refine ⟨_, rfl, ?_⟩; have n0_ := Aside0.mk (Kd.R_mono (Kd.R_keep (IsS87.apart (show IsS87 w _ g382 t380 t392 from by repeat (first | (with_reducible first | exact HI382.out | apply IsS87.alloc | apply IsS87.drewN | apply IsS87.drew | apply IsS87.set_1) | exact HI382.out)) Q19 Q1) hk (fun _ h => h.2)) (fun _ h => h.1)); have n1_ := Aside0.mk (hb); have n2_ := Aside0.mk (hi); clear HO391; clear HB; clear HI382; have HO391 := n0_; have HB := n1_; have HI382 := n2_; clear n0_ n1_ n2_; (try clear hb); (try clear hb2); (try clear hk); (try clear hi); obtain ⟨Ao38, co38, eo38⟩ := Kd.R_slice HO391.out; subst eo38))
     go_ret
     exact ⟨_, Q10, Q19, Q58⟩
   ·rw [if_neg c20] at H
    have c20b0 : (t393 == 1) = false := beq_eq_false_iff_ne.mpr c20
    have c20b1 : (t393 != 1) = true := bne_iff_ne.mpr c20
    obtain rfl := Option.some.inj H
    go_enter Try.func30, Try.ntmps30
    go_wp2_with (first | ((with_reducible refine gate_callee (f := 50) rfl ?_); refine goesL_ (some 6) rfl rfl Try.func50 Q2 rfl #[.slice A0 l0.length c0] rfl Q37 ?_; (with_reducible refine (spec_l6Open.calls _ _ l0 t380 t381 w _ ?side1 ?side2 ?side3 A2.out).mono ?_); (case side1 => exact Q35); (case side2 => exact HR0.out); (case side3 => exact HC0.out); rintro e w39 ⟨g382, rfl, hi, hb, hb2⟩; refine ⟨_, rfl, ?_⟩; have n0_ := Aside0.mk (hb); have n1_ := Aside0.mk (hi); clear HB; have HB := n0_; have HI382 := n1_; clear n0_ n1_; (try clear hb); (try clear hb2); (try clear hk); (try clear hi)) | ((with_reducible refine gate_callee (f := 68) rfl ?_); refine goesL_ (some 8) rfl rfl Try.func68 Q2 rfl #[.pointer (some ⟨g382, 0, none⟩), .int .i64 3] rfl Q37 ?_; (with_reducible refine (spec_l6Rd_pick.calls k g382 t380 t381 3 t383 t384 w _ ?side1 ?side2 A3.out).mono ?_); (case side1 => exact Q42); (case side2 => exact Q58); rintro e w40 ⟨rfl, hi, hb, hk⟩; refine ⟨_, rfl, ?_⟩; have n0_ := Aside0.mk (hb); have n1_ := Aside0.mk (hi); clear HB; clear HI382; have HB := n0_; have HI382 := n1_; clear n0_ n1_; (try clear hb); (try clear hb2); (try clear hk); (try clear hi)) | ((with_reducible refine gate_callee (f := 69) rfl ?_); refine goesL_ (some 13) rfl rfl Try.func69 Q2 rfl #[.pointer (some ⟨g382, 0, none⟩), .int .i64 8] rfl Q37 ?_; (with_reducible refine (spec_l71Batch.calls k g382 t380 t384 8 t389 t392 w _ ?side1 ?side2 A9.out).mono ?_); (case side1 => exact Q42); (case side2 => exact Q58); rintro e w41 ⟨v390, rfl, ho0, hi, hb, hk⟩; refine ⟨_, rfl, ?_⟩; have n0_ := Aside0.mk (Kd.R_lower ho0 (below_size Q58)); have n1_ := Aside0.mk (hb); have n2_ := Aside0.mk (hi); clear HB; clear HI382; have HO391 := n0_; have HB := n1_; have HI382 := n2_; clear n0_ n1_ n2_; (try clear hb); (try clear hb2); (try clear hk); (try clear hi); (try clear ho0)) | ((with_reducible refine gate_callee (f := 68) rfl ?_); refine goesL_ (some 15) rfl rfl Try.func68 Q2 rfl #[.pointer (some ⟨g382, 0, none⟩), .int .i64 6] rfl Q37 ?_; (with_reducible refine (spec_l6Rd_pick.calls k g382 t380 t392 6 t393 t394 w _ ?side1 ?side2 A10.out).mono ?_); (case side1 => exact Q42); (case side2 => exact Q58); rintro e w42 ⟨rfl, hi, hb, hk⟩; refine ⟨_, rfl, ?_⟩; have n0_ := Aside0.mk (Kd.R_mono (Kd.R_keep (IsS87.apart (show IsS87 w _ g382 t380 t392 from by repeat (first | (with_reducible first | exact HI382.out | apply IsS87.alloc | apply IsS87.drewN | apply IsS87.drew | apply IsS87.set_1) | exact HI382.out)) Q19 Q1) hk (fun _ h => h.2)) (fun _ h => h.1)); have n1_ := Aside0.mk (hb); have n2_ := Aside0.mk (hi); clear HO391; clear HB; clear HI382; have HO391 := n0_; have HB := n1_; have HI382 := n2_; clear n0_ n1_ n2_; (try clear hb); (try clear hb2); (try clear hk); (try clear hi)))
    go_ret
    exact ⟨_, Q10, Q19, Q58⟩
noncomputable def laws_FnBatchTwice.j0 : Nat → List (S38) → Bool → List (S38) → Bool → Option (Bool)
 | 0, _, _, _, _ => none
 | k + 1, x3, x4, x5, x25 => if x25 = true then (some false) else ((impl_BatchOf.f k x5).bind fun t419 => ((laws_lwRows.f k t419 x5).bind fun t422 => (if t422 = true then (if x4 = true then ((laws_lwRows.f k x5 x3).bind fun t423 => (if t423 = true then (some true) else (some false))) else ((spec_RowsOk.f k x3).bind fun t424 => (if t424 = true then ((laws_lwRows.f k x5 x3).bind fun t425 => (some (!t425))) else (some true)))) else (some false))))
noncomputable def laws_FnBatchTwice.f (k : Nat) (l0 : List Int) : Option (Bool) := if (l0.length : Int) > 1048576 then (some true) else ((spec_DrawBatchOk.f k l0).bind fun t407 => ((impl_BatchOk.f k t407).bind fun t410 => ((impl_BatchOf.f k t407).bind fun t411 => ((spec_BatchOk.f k t407).bind fun t414 => (if (t410 != t414) = true then (laws_FnBatchTwice.j0 k t407 t410 t411 true) else ((spec_BatchOf.f k t407).bind fun t415 => ((laws_lwRows.f k t411 t415).bind fun t418 => (laws_FnBatchTwice.j0 k t407 t410 t411 (!t418)))))))))
theorem laws_FnBatchTwice.mono_l : ∀ k, (∀ y0 y1 y2 y3, LeO (laws_FnBatchTwice.j0 k y0 y1 y2 y3) (laws_FnBatchTwice.j0 (k + 1) y0 y1 y2 y3))
 | 0 => fun _ _ _ _ r h => by simp [laws_FnBatchTwice.j0] at h
 | k + 1 => by
  have ih0 := laws_FnBatchTwice.mono_l k
  ·intro y0 y1 y2 y3
   unfold laws_FnBatchTwice.j0
   repeat' first
   | (with_reducible exact ih0 _ _ _ _)
   | (with_reducible exact impl_BatchOf.mono _ _)
   | (with_reducible exact impl_BatchOk.mono _ _)
   | (with_reducible exact laws_lwRows.mono _ _ _)
   | (with_reducible exact spec_BatchOf.mono _ _)
   | (with_reducible exact spec_BatchOk.mono _ _)
   | (with_reducible exact spec_DrawBatchOk.mono _ _)
   | (with_reducible exact spec_RowsOk.mono _ _)
   | (with_reducible exact LeO.refl _)
   | (with_reducible exact LeO.none _)
   | (with_reducible refine LeO.ite ?_ ?_)
   | (with_reducible refine LeO.bind ?_ (fun _ => ?_))
   | exact ih0 _ _ _ _
   | exact impl_BatchOf.mono _ _
   | exact impl_BatchOk.mono _ _
   | exact laws_lwRows.mono _ _ _
   | exact spec_BatchOf.mono _ _
   | exact spec_BatchOk.mono _ _
   | exact spec_DrawBatchOk.mono _ _
   | exact spec_RowsOk.mono _ _
   | exact LeO.none _
   | refine LeO.ite ?_ ?_
   | refine LeO.bind ?_ (fun _ => ?_)
theorem laws_FnBatchTwice.mono : ∀ a0 k, LeO (laws_FnBatchTwice.f k a0) (laws_FnBatchTwice.f (k + 1) a0) := by
 intro a0 k
 have ih0 := laws_FnBatchTwice.mono_l k
 unfold laws_FnBatchTwice.f
 repeat' first
   | (with_reducible exact ih0 _ _ _ _)
   | (with_reducible exact impl_BatchOf.mono _ _)
   | (with_reducible exact impl_BatchOk.mono _ _)
   | (with_reducible exact laws_lwRows.mono _ _ _)
   | (with_reducible exact spec_BatchOf.mono _ _)
   | (with_reducible exact spec_BatchOk.mono _ _)
   | (with_reducible exact spec_DrawBatchOk.mono _ _)
   | (with_reducible exact spec_RowsOk.mono _ _)
   | (with_reducible exact LeO.refl _)
   | (with_reducible exact LeO.none _)
   | (with_reducible refine LeO.ite ?_ ?_)
   | (with_reducible refine LeO.bind ?_ (fun _ => ?_))
   | exact ih0 _ _ _ _
   | exact impl_BatchOf.mono _ _
   | exact impl_BatchOk.mono _ _
   | exact laws_lwRows.mono _ _ _
   | exact spec_BatchOf.mono _ _
   | exact spec_BatchOk.mono _ _
   | exact spec_DrawBatchOk.mono _ _
   | exact spec_RowsOk.mono _ _
   | exact LeO.none _
   | refine LeO.ite ?_ ?_
   | refine LeO.bind ?_ (fun _ => ?_)
end Go.Proofs.Ytjlkffmdmifahaa.PFnBatchTwice
