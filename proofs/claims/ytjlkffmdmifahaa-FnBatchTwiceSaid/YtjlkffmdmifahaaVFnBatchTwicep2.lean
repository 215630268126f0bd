/- Functions that the law comes to: each as a plain Lean function, with the contract of the Go function. -/
import Derived.Test.YtjlkffmdmifahaaVFnBatchTwicew
import Derived.Test.YtjlkffmdmifahaaVFnBatchTwicep0
import Derived.Test.YtjlkffmdmifahaaVFnBatchTwicep1
namespace Go.Proofs.Ytjlkffmdmifahaa.PFnBatchTwice
open Go.RowKit Go.Proofs.YtjlkffmdmifahaaW.PrintWords Go.Proofs.YtjlkffmdmifahaaW.PrintLast Go.Proofs.YtjlkffmdmifahaaW.PrintMore
attribute [local go_sem] max2_int min2_int max_two min_two max_three min_three max_four min_four
set_option linter.unusedVariables false
set_option linter.unusedSimpArgs false
attribute [local go_sem high] eqA38
set_option maxHeartbeats 8000000 in
set_option maxRecDepth 100000 in
theorem spec_l2Put.calls (k : Nat) (A0 : Option Addr) (c0 : Nat) (l0 : List (S38)) (a1_0 : Int) (a1_1 : Int) (a1_2 : Int) (a1_3 : Int) (a1_4 : Int) (r : List (S38)) (w : World) (hr0 : Kd.C k38 w A0 l0.length l0) (hc0 : l0.length ≤ c0) (h : spec_l2Put.f k l0 a1_0 a1_1 a1_2 a1_3 a1_4 = some r) :
  Calls Try.prog 88 #[.slice A0 l0.length c0, .agg #[.int .i64 a1_0, .int .i64 a1_1, .int .i64 a1_2, .int .i64 a1_3, .int .i64 a1_4]] w fun e w' => ∃ v0_ : Value, e = .returned (v0_) ∧ Kd.R k38 38 w' w.heap.size (fun _ => True) v0_ r ∧ Below w.heap.size w w' := by
 have hu38 := Try.underlying38
 have HR0 := Aside0.mk hr0
 have HC0 := Aside0.mk hc0
 clear hr0 hc0
 have HB := Aside0.mk (Below.refl w.heap.size w)
 have H : (spec_l2Put.l0 k l0 (([] : List (S38))) false 0 a1_0 a1_1 a1_2 a1_3 a1_4) = some r := h
 clear h
 obtain ⟨y160, hy_⟩ : ∃ y_ : List (S38), y_ = (([] : List (S38))) := ⟨_, rfl⟩
 replace H : (spec_l2Put.l0 k l0 y160 false 0 a1_0 a1_1 a1_2 a1_3 a1_4) = some r := Q77
 have Ny160 := Aside0.mk hy_
 clear hy_
 have H' := Aside0.mk H
 clear H
 go_enter Try.func88, Try.ntmps88
 go_wp2_with (first | ((with_reducible refine gate_dst (N := 3) rfl ?_); refine box_event ?hg (N := 3) ?hd (cs := #[.int .i64 a1_0, .int .i64 a1_1, .int .i64 a1_2, .int .i64 a1_3, .int .i64 a1_4]) (t := 38) ?hr ?_; (case hd => rfl); (case hg => rfl); (case hr => first | (go_simp; done) | (go_simp; rfl)); intro gb159 hg w3 hbox hb; have n0_ := Aside0.mk (below_step Q35 hb); have n1_ := Aside0.mk (hbox); have n2_ := Aside0.mk ((Q85 : w.heap.size ≤ gb159)); have n3_ := n2_; clear HB; have HB := n0_; have BK159 := n1_; have GW159 := n2_; have GE159 := n3_; clear n0_ n1_ n2_ n3_; clear hb hbox hg) | ((with_reducible refine gate_dst (N := 9) rfl ?_); refine Kd.R_lit k38 _ 38 ?hg (N := 9) ?hd (xs := ([] : List (S38))) (inner := []) (ok := fun _ => True) (okp := fun _ => True) ?hr ?hp (fun _ hk => hk) trivial (Below.refl _ _) (Nat.le_refl _) Q0 ?_; (case hd => rfl); (case hg => rfl); (case hr => first | (go_simp; done) | (go_simp; rfl)); (case hp => exact (Reps.none _ _)); intro v161 w4 ho5 hb hg_ hnew_; clear hg_ hnew_; (first | rw [← Ny160.out] at ho5 | (simp only [Int.reduceToNat] at ho5; rw [← Ny160.out] at ho5)); have n0_ := Aside0.mk (Kd.R_lower (Kd.R_newB ho5 (g := gb159) (o := .cells #[.int .i64 a1_0, .int .i64 a1_1, .int .i64 a1_2, .int .i64 a1_3, .int .i64 a1_4] 38 (0, 0)) Q28) (below_size Q50)); have n1_ := Aside0.mk (blk_below (g := gb159) (o := .cells #[.int .i64 a1_0, .int .i64 a1_1, .int .i64 a1_2, .int .i64 a1_3, .int .i64 a1_4] 38 (0, 0)) Q28 hb); have n2_ := Aside0.mk (below_step Q50 hb); clear BK159; clear HB; have HO162 := n0_; have BK159 := n1_; have HB := n2_; clear n0_ n1_ n2_; clear hb ho5))
 go_loopg [5, 6, 7] k (fun kq v5 v6 v7 w' => ∃ (x5_1 : List (S38)) (x6_1 : Bool) (x7_1 : Int) (x160004_1 : Int), v6 = .bool x6_1 ∧ v7 = .int .i64 x7_1 ∧ Aside0 (spec_l2Put.l0 kq l0 x5_1 x6_1 x7_1 a1_0 a1_1 a1_2 a1_3 x160004_1 = some r) ∧ Aside0 (kq ≤ k) ∧ Aside0 (Kd.R k38 38 w' w.heap.size (fun k_ => k_ ≠ gb159) v5 x5_1) ∧ Aside0 (w'.heap[gb159]? = some (.cells #[.int .i64 a1_0, .int .i64 a1_1, .int .i64 a1_2, .int .i64 a1_3, .int .i64 x160004_1] 38 (0, 0))) ∧ Aside0 (Below w.heap.size w w'))
 case atStart => exact ⟨(y160), (false), (0), (a1_4), Q6, Q6, H', ⟨Nat.le_refl _⟩, ⟨by (with_reducible repeat (first | apply Kd.R_alloc | apply Kd.R_drewN | apply Kd.R_drew)); exact Kd.R_mono HO162.out (fun _ hk => hk.2)⟩, ⟨Q28⟩, ⟨Q50⟩⟩
 case round =>
  clear H'
  try clear p2
  obtain ⟨x5_1, x6_1, x7_1, x160004_1, rfl, rfl, HA, HK1, HO_5, BK159, HB⟩ := hrel
  cases gk with
  | zero => exact absurd HA.out (by simp [spec_l2Put.l0])
  | succ k1 =>
   have H := HA.out
   clear HA
   simp only [spec_l2Put.l0] at H
   by_cases c6 : x7_1 < (l0.length : Int)
   ·rw [if_pos c6] at H
    have c6b0 : decide (x7_1 < (l0.length : Int)) = true := decide_eq_true c6
    clear c6
    by_cases c7 : 0 ≤ x7_1
    ·rw [if_pos c7] at H
     have c7b0 : decide (0 ≤ x7_1) = true := decide_eq_true c7
     clear c7
     replace H := Option.bind_eq_some_iff.mp H
     obtain ⟨t167, A80, H⟩ := H
     replace H : (if x6_1 = true then (spec_l2Put.j1 k1 l0 x5_1 x6_1 x7_1 t167 false a1_0 a1_1 a1_2 a1_3 x160004_1) else (spec_l2Put.j1 k1 l0 x5_1 x6_1 x7_1 t167 (decide (t167 > 0)) a1_0 a1_1 a1_2 a1_3 x160004_1)) = some r := H
     have A8 := Aside0.mk A80
     clear A80
     have HC9 := Aside0.mk H
     clear H
     try go_wp2
     have n0_ := Aside0.mk (Kd.R_drew HO_5.out)
     have n1_ := Aside0.mk (blk_drew BK159.out)
     have n2_ := Aside0.mk (below_drew1 HB.out)
     clear HO_5
     clear BK159
     clear HB
     have HO_5 := n0_
     have BK159 := n1_
     have HB := n2_
     clear n0_ n1_ n2_
     have p166 : 0 ≤ (x7_1 : Int) := of_decide_eq_true Q7
     have q166 : x7_1 < (l0.length : Int) := of_decide_eq_true Q7
     obtain ⟨ad166, e166, hx166_0, hx166_1, hx166_2, hx166_3, hx166_4⟩ := at_T38 HR0.out x7_1 p166 q166
     have hw166_4 := hx166_4
     have hw166_3 := hx166_3
     have hw166_2 := hx166_2
     have hw166_1 := hx166_1
     have hw166_0 := hx166_0
     cases e166
     replace hx166_0 := (HB.out.cell (World.block_lt_of_cell? w _ hx166_0)).trans hx166_0
     replace hx166_1 := (HB.out.cell (World.block_lt_of_cell? w _ hx166_1)).trans hx166_1
     replace hx166_2 := (HB.out.cell (World.block_lt_of_cell? w _ hx166_2)).trans hx166_2
     replace hx166_3 := (HB.out.cell (World.block_lt_of_cell? w _ hx166_3)).trans hx166_3
     replace hx166_4 := (HB.out.cell (World.block_lt_of_cell? w _ hx166_4)).trans hx166_4
     replace p166 := eq_true p166
     replace q166 := eq_true q166
     refine start_ (n := 7) (S := fun w' => w'.cell? ⟨gb159, 0, none⟩ = some (.int .i64 a1_0) ∧ w'.cell? ⟨gb159, 1, none⟩ = some (.int .i64 a1_1) ∧ w'.cell? ⟨gb159, 2, none⟩ = some (.int .i64 a1_2) ∧ w'.cell? ⟨gb159, 3, none⟩ = some (.int .i64 a1_3) ∧ w'.cell? ⟨gb159, 4, none⟩ = some (.int .i64 x160004_1) ∧ w'.cell? (ad166.add ((x7_1).toNat * 5)) = some (.int .i64 ((rd_T38 l0 x7_1).f0)) ∧ w'.cell? ⟨(ad166.add ((x7_1).toNat * 5)).block, (ad166.add ((x7_1).toNat * 5)).off + 1, none⟩ = some (.int .i64 ((rd_T38 l0 x7_1).f1)) ∧ w'.cell? ⟨(ad166.add ((x7_1).toNat * 5)).block, (ad166.add ((x7_1).toNat * 5)).off + 2, none⟩ = some (.int .i64 ((rd_T38 l0 x7_1).f2.f0)) ∧ w'.cell? ⟨(ad166.add ((x7_1).toNat * 5)).block, (ad166.add ((x7_1).toNat * 5)).off + 3, none⟩ = some (.int .i64 ((rd_T38 l0 x7_1).f2.f1)) ∧ w'.cell? ⟨(ad166.add ((x7_1).toNat * 5)).block, (ad166.add ((x7_1).toNat * 5)).off + 4, none⟩ = some (.int .i64 ((rd_T38 l0 x7_1).f3))) (ds := []) b7_0 Q2 rfl rfl ⟨(blk_cell BK159.out 0).trans rfl, (blk_cell BK159.out 1).trans rfl, (blk_cell BK159.out 2).trans rfl, (blk_cell BK159.out 3).trans rfl, (blk_cell BK159.out 4).trans rfl, ((HB.out.cell (World.block_lt_of_cell? w _ hw166_0)).trans hw166_0), ((HB.out.cell (World.block_lt_of_cell? w _ hw166_1)).trans hw166_1), ((HB.out.cell (World.block_lt_of_cell? w _ hw166_2)).trans hw166_2), ((HB.out.cell (World.block_lt_of_cell? w _ hw166_3)).trans hw166_3), ((HB.out.cell (World.block_lt_of_cell? w _ hw166_4)).trans hw166_4)⟩ (fun hHeld => ?_)
     generalize wr.drew = w10 at HO_5 BK159 HB hx166_0 hx166_1 hx166_2 hx166_3 hx166_4 hHeld ⊢
     refine pU_ 0 16 b7_1 ?_
     refine pU_ 1 17 b7_2 ?_
     refine pU_ 2 18 b7_3 ?_
     refine tU_ 3 19 b7_4 hHeld ?_
     refine tU_ 4 20 b7_5 hHeld ?_
     refine one_ (i := 5) (N := some 21) b7_6 rfl rfl Q2 Q1 (fun K hK => ?_)
     refine goes_ Try.func71 Q2 rfl #[.agg #[.int .i64 ((rd_T38 l0 x7_1).f0), .int .i64 ((rd_T38 l0 x7_1).f1), .int .i64 ((rd_T38 l0 x7_1).f2.f0), .int .i64 ((rd_T38 l0 x7_1).f2.f1), .int .i64 ((rd_T38 l0 x7_1).f3)], .agg #[.int .i64 a1_0, .int .i64 a1_1, .int .i64 a1_2, .int .i64 a1_3, .int .i64 x160004_1]] (by rfl) rfl rfl Q37 ?_
     with_reducible refine (spec_l2Comp.calls k1 ((rd_T38 l0 x7_1).f0) ((rd_T38 l0 x7_1).f1) ((rd_T38 l0 x7_1).f2.f0) ((rd_T38 l0 x7_1).f2.f1) ((rd_T38 l0 x7_1).f3) a1_0 a1_1 a1_2 a1_3 x160004_1 t167 _ A8.out).mono ?_
     rintro e w11 ⟨rfl, hb⟩
     refine ⟨_, rfl, ?_⟩
     have n0_ := Aside0.mk (Kd.R_below Q12 hb)
     have n1_ := Aside0.mk (blk_below (g := gb159) (o := .cells #[.int .i64 a1_0, .int .i64 a1_1, .int .i64 a1_2, .int .i64 a1_3, .int .i64 x160004_1] 38 (0, 0)) Q28 hb)
     have n2_ := Aside0.mk (below_step Q50 hb)
     clear HO_5
     clear BK159
     clear HB
     have HO_5 := n0_
     have BK159 := n1_
     have HB := n2_
     clear n0_ n1_ n2_
     (try clear hb)
     (try clear hb2)
     (try clear hk)
     (try clear hi)
     refine hK.out _ _ ⟨(blk_cell BK159.out 0).trans rfl, (blk_cell BK159.out 1).trans rfl, (blk_cell BK159.out 2).trans rfl, (blk_cell BK159.out 3).trans rfl, (blk_cell BK159.out 4).trans rfl, ((HB.out.cell (World.block_lt_of_cell? w _ hw166_0)).trans hw166_0), ((HB.out.cell (World.block_lt_of_cell? w _ hw166_1)).trans hw166_1), ((HB.out.cell (World.block_lt_of_cell? w _ hw166_2)).trans hw166_2), ((HB.out.cell (World.block_lt_of_cell? w _ hw166_3)).trans hw166_3), ((HB.out.cell (World.block_lt_of_cell? w _ hw166_4)).trans hw166_4)⟩ (fun hHeld => ?_)
     clear hK K
     refine norm_ (a' := ?_) ?_ ?_
     rotate_left
     ·show Act.put _ (some 21) _ = _
      simp only [Act.put, List.setIfInBounds_toArray, List.set_cons_zero, List.set_cons_succ, i64_w, i32_w]
      rfl
     refine pU_ 6 8 b7_7 ?_
     refine done_ Q2 ?_
     go_upto_region 7 with (fail)
     go_cut [27] (fun v27 wc => ∃ (kq : Nat) (x27_8 : Bool), v27 = .bool x27_8 ∧ Aside0 (spec_l2Put.j1 kq l0 x5_1 x6_1 x7_1 t167 x27_8 a1_0 a1_1 a1_2 a1_3 x160004_1 = some r) ∧ Aside0 (kq ≤ k1) ∧ Aside0 (Kd.R k38 38 wc w.heap.size (fun k_ => k_ ≠ gb159) u5 x5_1) ∧ Aside0 (wc.heap[gb159]? = some (.cells #[.int .i64 a1_0, .int .i64 a1_1, .int .i64 a1_2, .int .i64 a1_3, .int .i64 x160004_1] 38 (0, 0))) ∧ Aside0 (Below w.heap.size w wc))
     case first =>
      have H := HC9.out
      clear HC9
      by_cases c12 : x6_1 = true
      ·subst c12
       have H1 : (spec_l2Put.j1 k1 l0 x5_1 true x7_1 t167 false a1_0 a1_1 a1_2 a1_3 x160004_1) = some r := by rw [if_pos rfl] at H; exact H
       clear H
       have H := H1
       clear H1
       have H' := Aside0.mk H
       clear H
       go_wp2
       go_meet
       case rel => exact ⟨_, (false), Q6, H', ⟨Q8⟩, ⟨Q12⟩, ⟨Q28⟩, ⟨Q50⟩⟩
      ·replace c12 := Bool.eq_false_iff.mpr c12
       subst c12
       have H1 : (spec_l2Put.j1 k1 l0 x5_1 false x7_1 t167 (decide (t167 > 0)) a1_0 a1_1 a1_2 a1_3 x160004_1) = some r := by rw [if_neg (show ¬ (false = true) by decide)] at H; exact H
       clear H
       have H := H1
       clear H1
       have H' := Aside0.mk H
       clear H
       go_wp2
       go_meet
       case rel => exact ⟨_, (decide (t167 > 0)), Q6, H', ⟨Q8⟩, ⟨Q12⟩, ⟨Q28⟩, ⟨Q50⟩⟩
     case rest =>
      clear HC9
      try clear c1
      try clear p1
      try clear q1
      try clear hx1
      try clear p2
      try clear c6
      try clear c6b0
      try clear c7
      try clear c7b0
      try clear c8
      try clear c12
      try clear hx166_0
      try clear hx166_1
      try clear hx166_2
      try clear hx166_3
      try clear hx166_4
      try clear p166
      try clear p2
      try clear q166
      obtain ⟨kq, x27_8, rfl, HA, HJ8, HO_5, BK159, HB⟩ := hcut
      cases kq with
      | zero => exact absurd HA.out (by simp [spec_l2Put.j1])
      | succ kj8 =>
       have H := HA.out
       clear HA
       simp only [spec_l2Put.j1] at H
       by_cases c13 : x27_8 = true
       ·subst c13
        have H1 : (if x5_1.length < 3518437208883 then ((some (x5_1 ++ [(⟨a1_0, a1_1, (⟨a1_2, a1_3⟩ : S36), x160004_1⟩ : S38)] : List (S38))).bind fun y168 => (if 0 ≤ x7_1 then (if x7_1 < (l0.length : Int) then (if y168.length < 3518437208883 then (spec_l2Put.l0 kj8 l0 (y168 ++ [(⟨(rd_T38 l0 x7_1).f0, (rd_T38 l0 x7_1).f1, (⟨(rd_T38 l0 x7_1).f2.f0, (rd_T38 l0 x7_1).f2.f1⟩ : S36), (rd_T38 l0 x7_1).f3⟩ : S38)]) true (wrap64 (x7_1 + 1)) a1_0 a1_1 a1_2 a1_3 x160004_1) else (none)) else (none)) else (none))) else (none)) = some r := by rw [if_pos rfl] at H; exact H
        clear H
        have H := H1
        clear H1
        by_cases c14 : x5_1.length < 3518437208883
        ·rw [if_pos c14] at H
         have LMc14 := Aside0.mk c14
         clear c14
         obtain ⟨y168, hy_⟩ : ∃ y_ : List (S38), y_ = (x5_1 ++ [(⟨a1_0, a1_1, (⟨a1_2, a1_3⟩ : S36), x160004_1⟩ : S38)]) := ⟨_, rfl⟩
         replace H : (if 0 ≤ x7_1 then (if x7_1 < (l0.length : Int) then (if y168.length < 3518437208883 then (spec_l2Put.l0 kj8 l0 (y168 ++ [(⟨(rd_T38 l0 x7_1).f0, (rd_T38 l0 x7_1).f1, (⟨(rd_T38 l0 x7_1).f2.f0, (rd_T38 l0 x7_1).f2.f1⟩ : S36), (rd_T38 l0 x7_1).f3⟩ : S38)]) true (wrap64 (x7_1 + 1)) a1_0 a1_1 a1_2 a1_3 x160004_1) else (none)) else (none)) else (none)) = some r := Q77
         have Ny168 := Aside0.mk hy_
         clear hy_
         by_cases c15 : 0 ≤ x7_1
         ·rw [if_pos c15] at H
          have c15b0 : decide (0 ≤ x7_1) = true := decide_eq_true c15
          clear c15
          by_cases c16 : x7_1 < (l0.length : Int)
          ·rw [if_pos c16] at H
           have c16b0 : decide (x7_1 < (l0.length : Int)) = true := decide_eq_true c16
           clear c16
           by_cases c17 : y168.length < 3518437208883
           ·rw [if_pos c17] at H
            have LMc17 := Aside0.mk c17
            clear c17
            obtain ⟨y172, hy_⟩ : ∃ y_ : List (S38), y_ = (y168 ++ [(⟨(rd_T38 l0 x7_1).f0, (rd_T38 l0 x7_1).f1, (⟨(rd_T38 l0 x7_1).f2.f0, (rd_T38 l0 x7_1).f2.f1⟩ : S36), (rd_T38 l0 x7_1).f3⟩ : S38)]) := ⟨_, rfl⟩
            replace H : (spec_l2Put.l0 kj8 l0 y172 true (wrap64 (x7_1 + 1)) a1_0 a1_1 a1_2 a1_3 x160004_1) = some r := Q77
            have Ny172 := Aside0.mk hy_
            clear hy_
            have H' := Aside0.mk H
            clear H
            have hcz18_0 : wc.cell? ⟨gb159, 0, none⟩ = some (.int .i64 a1_0) := (blk_cell BK159.out 0).trans rfl
            have hcz18_1 : wc.cell? ⟨gb159, 1, none⟩ = some (.int .i64 a1_1) := (blk_cell BK159.out 1).trans rfl
            have hcz18_2 : wc.cell? ⟨gb159, 2, none⟩ = some (.int .i64 a1_2) := (blk_cell BK159.out 2).trans rfl
            have hcz18_3 : wc.cell? ⟨gb159, 3, none⟩ = some (.int .i64 a1_3) := (blk_cell BK159.out 3).trans rfl
            have hcz18_4 : wc.cell? ⟨gb159, 4, none⟩ = some (.int .i64 x160004_1) := (blk_cell BK159.out 4).trans rfl
            have hfz18_0 := blk_frozen BK159.out 0
            have hfz18_1 := blk_frozen BK159.out 1
            have hfz18_2 := blk_frozen BK159.out 2
            have hfz18_3 := blk_frozen BK159.out 3
            have hfz18_4 := blk_frozen BK159.out 4
            go_wp2_with (first | ((with_reducible refine gate_builtin (b := .append) (xs := #[.tmp 28, .tmp 30]) rfl ?_); at_builtin; refine Kd.R_append k38 (w0 := w) w.heap.size rfl (.tmp 28) (.tmp 30) 23 38 (.agg #[(.int .i64 0), (.int .i64 0), (.int .i64 0), (.int .i64 0), (.int .i64 0)]) 40 rfl Try.underlying23 info38 rfl Q1 (by omega) u5 x5_1 (⟨a1_0, a1_1, (⟨a1_2, a1_3⟩ : S36), x160004_1⟩ : S38) [.int .i64 a1_0, .int .i64 a1_1, .int .i64 a1_2, .int .i64 a1_3, .int .i64 x160004_1] (fun k_ => k_ ≠ gb159) (fun _ => False) rfl rfl ?aP (fun _ hk => hk.elim) ?aF ?aO ?aB ?aS ?aL ?_; (case aP => exact k38_mkM _ _ _ (⟨a1_0, a1_1, (⟨a1_2, a1_3⟩ : S36), x160004_1⟩ : S38)); (case aB => exact Q50); (case aF => exact (fun k_ hk => Kd.freshB (g := gb159) (o := .cells #[.int .i64 a1_0, .int .i64 a1_1, .int .i64 a1_2, .int .i64 a1_3, .int .i64 x160004_1] 38 (0, 0)) Q28 k_ hk)); (case aO => exact Q12); (case aS => exact (below_size Q50)); (case aL => have := LMc14.out; omega); intro v169 w19 ho hb hg hat; rw [← Ny168.out] at ho; have n0_ := Aside0.mk (blk_grown (g := gb159) (o := .cells #[.int .i64 a1_0, .int .i64 a1_1, .int .i64 a1_2, .int .i64 a1_3, .int .i64 x160004_1] 38 (0, 0)) Q28 hg (Kd.R_away HO_5.out (fun _ hk => hk))); have n1_ := Aside0.mk (hb); have n2_ := Aside0.mk (ho); clear BK159; clear HB; clear HO_5; have BK159 := n0_; have HB := n1_; have HO170 := n2_; clear n0_ n1_ n2_; clear ho hb hg hat; have p171 : 0 ≤ (x7_1 : Int) := of_decide_eq_true Q7; have q171 : x7_1 < (l0.length : Int) := of_decide_eq_true Q7; obtain ⟨ad171, e171, hx171_0, hx171_1, hx171_2, hx171_3, hx171_4⟩ := at_T38 HR0.out x7_1 p171 q171; obtain rfl : ad166 = ad171 := (by injection e171); replace hx171_0 := (HB.out.cell (World.block_lt_of_cell? w _ hx171_0)).trans hx171_0; replace hx171_1 := (HB.out.cell (World.block_lt_of_cell? w _ hx171_1)).trans hx171_1; replace hx171_2 := (HB.out.cell (World.block_lt_of_cell? w _ hx171_2)).trans hx171_2; replace hx171_3 := (HB.out.cell (World.block_lt_of_cell? w _ hx171_3)).trans hx171_3; replace hx171_4 := (HB.out.cell (World.block_lt_of_cell? w _ hx171_4)).trans hx171_4; replace p171 := eq_true p171; replace q171 := eq_true q171) | ((with_reducible refine gate_builtin (b := .append) (xs := #[.tmp 51, .tmp 56]) rfl ?_); at_builtin; refine Kd.R_append k38 (w0 := w) w.heap.size rfl (.tmp 51) (.tmp 56) 23 38 (.agg #[(.int .i64 0), (.int .i64 0), (.int .i64 0), (.int .i64 0), (.int .i64 0)]) 40 rfl Try.underlying23 info38 rfl Q1 (by omega) v169 y168 (⟨(rd_T38 l0 x7_1).f0, (rd_T38 l0 x7_1).f1, (⟨(rd_T38 l0 x7_1).f2.f0, (rd_T38 l0 x7_1).f2.f1⟩ : S36), (rd_T38 l0 x7_1).f3⟩ : S38) [.int .i64 ((rd_T38 l0 x7_1).f0), .int .i64 ((rd_T38 l0 x7_1).f1), .int .i64 ((rd_T38 l0 x7_1).f2.f0), .int .i64 ((rd_T38 l0 x7_1).f2.f1), .int .i64 ((rd_T38 l0 x7_1).f3)] (fun k_ => k_ ≠ gb159) (fun _ => False) rfl rfl ?aP (fun _ hk => hk.elim) ?aF ?aO ?aB ?aS ?aL ?_; (case aP => exact k38_mkM _ _ _ (⟨(rd_T38 l0 x7_1).f0, (rd_T38 l0 x7_1).f1, (⟨(rd_T38 l0 x7_1).f2.f0, (rd_T38 l0 x7_1).f2.f1⟩ : S36), (rd_T38 l0 x7_1).f3⟩ : S38)); (case aB => exact Q50); (case aF => exact (fun k_ hk => Kd.freshB (g := gb159) (o := .cells #[.int .i64 a1_0, .int .i64 a1_1, .int .i64 a1_2, .int .i64 a1_3, .int .i64 x160004_1] 38 (0, 0)) Q28 k_ hk)); (case aO => exact (by (with_reducible repeat (first | apply Kd.R_alloc | apply Kd.R_drewN | apply Kd.R_drew)); exact HO170.out)); (case aS => exact (below_size Q50)); (case aL => have := LMc17.out; omega); intro v173 w20 ho hb hg hat; rw [← Ny172.out] at ho; have n0_ := Aside0.mk (blk_grown (g := gb159) (o := .cells #[.int .i64 a1_0, .int .i64 a1_1, .int .i64 a1_2, .int .i64 a1_3, .int .i64 x160004_1] 38 (0, 0)) Q28 hg (Kd.R_away HO170.out (fun _ hk => hk))); have n1_ := Aside0.mk (hb); have n2_ := Aside0.mk (ho); clear BK159; clear HB; clear HO170; have BK159 := n0_; have HB := n1_; have HO174 := n2_; clear n0_ n1_ n2_; clear ho hb hg hat))
            go_roundg kj8
            case measure => have := HK1.out; have := HJ8.out; omega
            case rel => exact ⟨(y172), (true), (wrap64 (x7_1 + 1)), (x160004_1), Q6, Q6, H', ⟨Q5⟩, ⟨by (with_reducible repeat (first | apply Kd.R_alloc | apply Kd.R_drewN | apply Kd.R_drew)); exact HO174.out⟩, ⟨Q28⟩, ⟨Q50⟩⟩
           ·rw [if_neg c17] at H
            exact absurd H Q0
          ·rw [if_neg c16] at H
           exact absurd H Q0
         ·rw [if_neg c15] at H
          exact absurd H Q0
        ·rw [if_neg c14] at H
         exact absurd H Q0
       ·replace c13 := Bool.eq_false_iff.mpr c13
        subst c13
        have H1 : (if x6_1 = true then (if 0 ≤ x7_1 then (if x7_1 < (l0.length : Int) then (if x5_1.length < 3518437208883 then (spec_l2Put.l0 kj8 l0 (x5_1 ++ [(⟨(rd_T38 l0 x7_1).f0, (rd_T38 l0 x7_1).f1, (⟨(rd_T38 l0 x7_1).f2.f0, (rd_T38 l0 x7_1).f2.f1⟩ : S36), (rd_T38 l0 x7_1).f3⟩ : S38)]) x6_1 (wrap64 (x7_1 + 1)) a1_0 a1_1 a1_2 a1_3 x160004_1) else (none)) else (none)) else (none)) else (if t167 = 0 then (if 0 ≤ x7_1 then (if x7_1 < (l0.length : Int) then (if x5_1.length < 3518437208883 then (spec_l2Put.l0 kj8 l0 (x5_1 ++ [(⟨a1_0, a1_1, (⟨a1_2, a1_3⟩ : S36), wrap64 (x160004_1 + ((rd_T38 l0 x7_1).f3))⟩ : S38)]) true (wrap64 (x7_1 + 1)) a1_0 a1_1 a1_2 a1_3 (wrap64 (x160004_1 + ((rd_T38 l0 x7_1).f3)))) else (none)) else (none)) else (none)) else (if 0 ≤ x7_1 then (if x7_1 < (l0.length : Int) then (if x5_1.length < 3518437208883 then (spec_l2Put.l0 kj8 l0 (x5_1 ++ [(⟨(rd_T38 l0 x7_1).f0, (rd_T38 l0 x7_1).f1, (⟨(rd_T38 l0 x7_1).f2.f0, (rd_T38 l0 x7_1).f2.f1⟩ : S36), (rd_T38 l0 x7_1).f3⟩ : S38)]) x6_1 (wrap64 (x7_1 + 1)) a1_0 a1_1 a1_2 a1_3 x160004_1) else (none)) else (none)) else (none)))) = some r := by rw [if_neg (show ¬ (false = true) by decide)] at H; exact H
        clear H
        have H := H1
        clear H1
        by_cases c21 : x6_1 = true
        ·subst c21
         have H1 : (if 0 ≤ x7_1 then (if x7_1 < (l0.length : Int) then (if x5_1.length < 3518437208883 then (spec_l2Put.l0 kj8 l0 (x5_1 ++ [(⟨(rd_T38 l0 x7_1).f0, (rd_T38 l0 x7_1).f1, (⟨(rd_T38 l0 x7_1).f2.f0, (rd_T38 l0 x7_1).f2.f1⟩ : S36), (rd_T38 l0 x7_1).f3⟩ : S38)]) true (wrap64 (x7_1 + 1)) a1_0 a1_1 a1_2 a1_3 x160004_1) else (none)) else (none)) else (none)) = some r := by rw [if_pos rfl] at H; exact H
         clear H
         have H := H1
         clear H1
         by_cases c22 : 0 ≤ x7_1
         ·rw [if_pos c22] at H
          have c22b0 : decide (0 ≤ x7_1) = true := decide_eq_true c22
          clear c22
          by_cases c23 : x7_1 < (l0.length : Int)
          ·rw [if_pos c23] at H
           have c23b0 : decide (x7_1 < (l0.length : Int)) = true := decide_eq_true c23
           clear c23
           by_cases c24 : x5_1.length < 3518437208883
           ·rw [if_pos c24] at H
            have LMc24 := Aside0.mk c24
            clear c24
            obtain ⟨y176, hy_⟩ : ∃ y_ : List (S38), y_ = (x5_1 ++ [(⟨(rd_T38 l0 x7_1).f0, (rd_T38 l0 x7_1).f1, (⟨(rd_T38 l0 x7_1).f2.f0, (rd_T38 l0 x7_1).f2.f1⟩ : S36), (rd_T38 l0 x7_1).f3⟩ : S38)]) := ⟨_, rfl⟩
            replace H : (spec_l2Put.l0 kj8 l0 y176 true (wrap64 (x7_1 + 1)) a1_0 a1_1 a1_2 a1_3 x160004_1) = some r := Q77
            have Ny176 := Aside0.mk hy_
            clear hy_
            have H' := Aside0.mk H
            clear H
            have p175 : 0 ≤ (x7_1 : Int) := of_decide_eq_true Q7
            have q175 : x7_1 < (l0.length : Int) := of_decide_eq_true Q7
            obtain ⟨ad175, e175, hx175_0, hx175_1, hx175_2, hx175_3, hx175_4⟩ := at_T38 HR0.out x7_1 p175 q175
            obtain rfl : ad166 = ad175 := (by injection e175)
            replace hx175_0 := (HB.out.cell (World.block_lt_of_cell? w _ hx175_0)).trans hx175_0
            replace hx175_1 := (HB.out.cell (World.block_lt_of_cell? w _ hx175_1)).trans hx175_1
            replace hx175_2 := (HB.out.cell (World.block_lt_of_cell? w _ hx175_2)).trans hx175_2
            replace hx175_3 := (HB.out.cell (World.block_lt_of_cell? w _ hx175_3)).trans hx175_3
            replace hx175_4 := (HB.out.cell (World.block_lt_of_cell? w _ hx175_4)).trans hx175_4
            replace p175 := eq_true p175
            replace q175 := eq_true q175
            go_wp2_with (first | ((with_reducible refine gate_builtin (b := .append) (xs := #[.tmp 51, .tmp 56]) rfl ?_); at_builtin; refine Kd.R_append k38 (w0 := w) w.heap.size rfl (.tmp 51) (.tmp 56) 23 38 (.agg #[(.int .i64 0), (.int .i64 0), (.int .i64 0), (.int .i64 0), (.int .i64 0)]) 40 rfl Try.underlying23 info38 rfl Q1 (by omega) u5 x5_1 (⟨(rd_T38 l0 x7_1).f0, (rd_T38 l0 x7_1).f1, (⟨(rd_T38 l0 x7_1).f2.f0, (rd_T38 l0 x7_1).f2.f1⟩ : S36), (rd_T38 l0 x7_1).f3⟩ : S38) [.int .i64 ((rd_T38 l0 x7_1).f0), .int .i64 ((rd_T38 l0 x7_1).f1), .int .i64 ((rd_T38 l0 x7_1).f2.f0), .int .i64 ((rd_T38 l0 x7_1).f2.f1), .int .i64 ((rd_T38 l0 x7_1).f3)] (fun k_ => k_ ≠ gb159) (fun _ => False) rfl rfl ?aP (fun _ hk => hk.elim) ?aF ?aO ?aB ?aS ?aL ?_; (case aP => exact k38_mkM _ _ _ (⟨(rd_T38 l0 x7_1).f0, (rd_T38 l0 x7_1).f1, (⟨(rd_T38 l0 x7_1).f2.f0, (rd_T38 l0 x7_1).f2.f1⟩ : S36), (rd_T38 l0 x7_1).f3⟩ : S38)); (case aB => exact Q50); (case aF => exact (fun k_ hk => Kd.freshB (g := gb159) (o := .cells #[.int .i64 a1_0, .int .i64 a1_1, .int .i64 a1_2, .int .i64 a1_3, .int .i64 x160004_1] 38 (0, 0)) Q28 k_ hk)); (case aO => exact Q12); (case aS => exact (below_size Q50)); (case aL => have := LMc24.out; omega); intro v177 w25 ho hb hg hat; rw [← Ny176.out] at ho; have n0_ := Aside0.mk (blk_grown (g := gb159) (o := .cells #[.int .i64 a1_0, .int .i64 a1_1, .int .i64 a1_2, .int .i64 a1_3, .int .i64 x160004_1] 38 (0, 0)) Q28 hg (Kd.R_away HO_5.out (fun _ hk => hk))); have n1_ := Aside0.mk (hb); have n2_ := Aside0.mk (ho); clear BK159; clear HB; clear HO_5; have BK159 := n0_; have HB := n1_; have HO178 := n2_; clear n0_ n1_ n2_; clear ho hb hg hat))
            go_roundg kj8
            case measure => have := HK1.out; have := HJ8.out; omega
            case rel => exact ⟨(y176), (true), (wrap64 (x7_1 + 1)), (x160004_1), Q6, Q6, H', ⟨Q5⟩, ⟨by (with_reducible repeat (first | apply Kd.R_alloc | apply Kd.R_drewN | apply Kd.R_drew)); exact HO178.out⟩, ⟨Q28⟩, ⟨Q50⟩⟩
           ·rw [if_neg c24] at H
            exact absurd H Q0
          ·rw [if_neg c23] at H
           exact absurd H Q0
         ·rw [if_neg c22] at H
          exact absurd H Q0
        ·replace c21 := Bool.eq_false_iff.mpr c21
         subst c21
         have H1 : (if t167 = 0 then (if 0 ≤ x7_1 then (if x7_1 < (l0.length : Int) then (if x5_1.length < 3518437208883 then (spec_l2Put.l0 kj8 l0 (x5_1 ++ [(⟨a1_0, a1_1, (⟨a1_2, a1_3⟩ : S36), wrap64 (x160004_1 + ((rd_T38 l0 x7_1).f3))⟩ : S38)]) true (wrap64 (x7_1 + 1)) a1_0 a1_1 a1_2 a1_3 (wrap64 (x160004_1 + ((rd_T38 l0 x7_1).f3)))) else (none)) else (none)) else (none)) else (if 0 ≤ x7_1 then (if x7_1 < (l0.length : Int) then (if x5_1.length < 3518437208883 then (spec_l2Put.l0 kj8 l0 (x5_1 ++ [(⟨(rd_T38 l0 x7_1).f0, (rd_T38 l0 x7_1).f1, (⟨(rd_T38 l0 x7_1).f2.f0, (rd_T38 l0 x7_1).f2.f1⟩ : S36), (rd_T38 l0 x7_1).f3⟩ : S38)]) false (wrap64 (x7_1 + 1)) a1_0 a1_1 a1_2 a1_3 x160004_1) else (none)) else (none)) else (none))) = some r := by rw [if_neg (show ¬ (false = true) by decide)] at H; exact H
         clear H
         have H := H1
         clear H1
         by_cases c26 : t167 = 0
         ·rw [if_pos c26] at H
          have c26b0 : (t167 == 0) = true := beq_iff_eq.mpr c26
          have c26b1 : (t167 != 0) = false := bne_eq_false_iff_eq.mpr c26
          clear c26
          by_cases c27 : 0 ≤ x7_1
          ·rw [if_pos c27] at H
           have c27b0 : decide (0 ≤ x7_1) = true := decide_eq_true c27
           clear c27
           by_cases c28 : x7_1 < (l0.length : Int)
           ·rw [if_pos c28] at H
            have c28b0 : decide (x7_1 < (l0.length : Int)) = true := decide_eq_true c28
            clear c28
            by_cases c29 : x5_1.length < 3518437208883
            ·rw [if_pos c29] at H
             have LMc29 := Aside0.mk c29
             clear c29
             obtain ⟨y180, hy_⟩ : ∃ y_ : List (S38), y_ = (x5_1 ++ [(⟨a1_0, a1_1, (⟨a1_2, a1_3⟩ : S36), wrap64 (x160004_1 + ((rd_T38 l0 x7_1).f3))⟩ : S38)]) := ⟨_, rfl⟩
             replace H : (spec_l2Put.l0 kj8 l0 y180 true (wrap64 (x7_1 + 1)) a1_0 a1_1 a1_2 a1_3 (wrap64 (x160004_1 + ((rd_T38 l0 x7_1).f3)))) = some r := Q77
             have Ny180 := Aside0.mk hy_
             clear hy_
             have H' := Aside0.mk H
             clear H
             try go_wp2
             have n0_ := Aside0.mk (Kd.R_drew HO_5.out)
             have n1_ := Aside0.mk (blk_drew BK159.out)
             have n2_ := Aside0.mk (below_drew1 HB.out)
             clear HO_5
             clear BK159
             clear HB
             have HO_5 := n0_
             have BK159 := n1_
             have HB := n2_
             clear n0_ n1_ n2_
             have p179 : 0 ≤ (x7_1 : Int) := of_decide_eq_true Q7
             have q179 : x7_1 < (l0.length : Int) := of_decide_eq_true Q7
             obtain ⟨ad179, e179, hx179_0, hx179_1, hx179_2, hx179_3, hx179_4⟩ := at_T38 HR0.out x7_1 p179 q179
             have hw179_4 := hx179_4
             have hw179_3 := hx179_3
             have hw179_2 := hx179_2
             have hw179_1 := hx179_1
             have hw179_0 := hx179_0
             obtain rfl : ad166 = ad179 := (by injection e179)
             replace hx179_0 := (HB.out.cell (World.block_lt_of_cell? w _ hx179_0)).trans hx179_0
             replace hx179_1 := (HB.out.cell (World.block_lt_of_cell? w _ hx179_1)).trans hx179_1
             replace hx179_2 := (HB.out.cell (World.block_lt_of_cell? w _ hx179_2)).trans hx179_2
             replace hx179_3 := (HB.out.cell (World.block_lt_of_cell? w _ hx179_3)).trans hx179_3
             replace hx179_4 := (HB.out.cell (World.block_lt_of_cell? w _ hx179_4)).trans hx179_4
             replace p179 := eq_true p179
             replace q179 := eq_true q179
             refine start_ (n := 10) (S := fun w' => w'.cell? ⟨gb159, 0, none⟩ = some (.int .i64 a1_0) ∧ w'.cell? ⟨gb159, 1, none⟩ = some (.int .i64 a1_1) ∧ w'.cell? ⟨gb159, 2, none⟩ = some (.int .i64 a1_2) ∧ w'.cell? ⟨gb159, 3, none⟩ = some (.int .i64 a1_3) ∧ w'.cell? ⟨gb159, 4, none⟩ = some (.int .i64 x160004_1) ∧ w'.cell? (ad166.add ((x7_1).toNat * 5)) = some (.int .i64 ((rd_T38 l0 x7_1).f0)) ∧ w'.cell? ⟨(ad166.add ((x7_1).toNat * 5)).block, (ad166.add ((x7_1).toNat * 5)).off + 1, none⟩ = some (.int .i64 ((rd_T38 l0 x7_1).f1)) ∧ w'.cell? ⟨(ad166.add ((x7_1).toNat * 5)).block, (ad166.add ((x7_1).toNat * 5)).off + 2, none⟩ = some (.int .i64 ((rd_T38 l0 x7_1).f2.f0)) ∧ w'.cell? ⟨(ad166.add ((x7_1).toNat * 5)).block, (ad166.add ((x7_1).toNat * 5)).off + 3, none⟩ = some (.int .i64 ((rd_T38 l0 x7_1).f2.f1)) ∧ w'.cell? ⟨(ad166.add ((x7_1).toNat * 5)).block, (ad166.add ((x7_1).toNat * 5)).off + 4, none⟩ = some (.int .i64 ((rd_T38 l0 x7_1).f3))) (ds := [9]) b10_0 Q2 rfl rfl ⟨(blk_cell BK159.out 0).trans rfl, (blk_cell BK159.out 1).trans rfl, (blk_cell BK159.out 2).trans rfl, (blk_cell BK159.out 3).trans rfl, (blk_cell BK159.out 4).trans rfl, ((HB.out.cell (World.block_lt_of_cell? w _ hw179_0)).trans hw179_0), ((HB.out.cell (World.block_lt_of_cell? w _ hw179_1)).trans hw179_1), ((HB.out.cell (World.block_lt_of_cell? w _ hw179_2)).trans hw179_2), ((HB.out.cell (World.block_lt_of_cell? w _ hw179_3)).trans hw179_3), ((HB.out.cell (World.block_lt_of_cell? w _ hw179_4)).trans hw179_4)⟩ (fun hHeld => ?_); refine with_tabW spec_l2Put.tab11 spec_l2Put.bits11 (fun HT_ HW_ => ?_)
             generalize wc.drew = w30 at HO_5 BK159 HB hx179_0 hx179_1 hx179_2 hx179_3 hx179_4 hHeld ⊢
             refine pU_ 0 38 b10_1 ?_
             refine pU_ 2 40 c55 ?_
             refine pU_ 3 41 c56 ?_
             refine pU_ 4 42 c57 ?_
             refine pU_ 5 43 c58 ?_
             refine tU_ 1 39 b10_6 hHeld ?_
             refine tU_ 6 44 b10_7 hHeld ?_
             refine pU_ 7 45 b10_8 ?_
             refine pU_ 8 46 b10_9 ?_
             refine last_ (i := 9) (N := none) b10_10 rfl rfl (one_of HT_.out Q2) Q1 (fun K hK => ?_)
             have hs31 : w30.cell? ⟨gb159, 4, none⟩ = some (.int .i64 x160004_1) := (blk_cell BK159.out 4).trans rfl
             have hfs31 := blk_frozen BK159.out 4
             refine skip_ (w1 := ?_) (by rfl) rfl ?_ ?_
             rotate_left
             ·go_simp
              rfl
             refine hK.out _ _ ?_
             clear hK K
             refine done_ (done_of HT_.out Q2) ?_
             have hcz32_0 : w30.cell? ⟨gb159, 0, none⟩ = some (.int .i64 a1_0) := (blk_cell BK159.out 0).trans rfl
             have hcz32_1 : w30.cell? ⟨gb159, 1, none⟩ = some (.int .i64 a1_1) := (blk_cell BK159.out 1).trans rfl
             have hcz32_2 : w30.cell? ⟨gb159, 2, none⟩ = some (.int .i64 a1_2) := (blk_cell BK159.out 2).trans rfl
             have hcz32_3 : w30.cell? ⟨gb159, 3, none⟩ = some (.int .i64 a1_3) := (blk_cell BK159.out 3).trans rfl
             have hcz32_4 : w30.cell? ⟨gb159, 4, none⟩ = some (.int .i64 x160004_1) := (blk_cell BK159.out 4).trans rfl
             have hfz32_0 := blk_frozen BK159.out 0
             have hfz32_1 := blk_frozen BK159.out 1
             have hfz32_2 := blk_frozen BK159.out 2
             have hfz32_3 := blk_frozen BK159.out 3
             have hfz32_4 := blk_frozen BK159.out 4
             try go_wp2_with (first | ((with_reducible refine gate_builtin (b := .append) (xs := #[.tmp 47, .tmp 49]) rfl ?_); at_builtin; refine Kd.R_append k38 (w0 := w) w.heap.size rfl (.tmp 47) (.tmp 49) 23 38 (.agg #[(.int .i64 0), (.int .i64 0), (.int .i64 0), (.int .i64 0), (.int .i64 0)]) 40 rfl Try.underlying23 info38 rfl Q1 (by omega) u5 x5_1 (⟨a1_0, a1_1, (⟨a1_2, a1_3⟩ : S36), wrap64 (x160004_1 + ((rd_T38 l0 x7_1).f3))⟩ : S38) [.int .i64 a1_0, .int .i64 a1_1, .int .i64 a1_2, .int .i64 a1_3, .int .i64 (wrap64 (x160004_1 + ((rd_T38 l0 x7_1).f3)))] (fun k_ => k_ ≠ gb159) (fun _ => False) rfl (by first | (go_simp; done) | (go_simp; rfl)) ?aP (fun _ hk => hk.elim) ?aF ?aO ?aB ?aS ?aL ?_; (case aP => exact k38_mkM _ _ _ (⟨a1_0, a1_1, (⟨a1_2, a1_3⟩ : S36), wrap64 (x160004_1 + ((rd_T38 l0 x7_1).f3))⟩ : S38)); (case aB => exact Q50); (case aF => exact (fun k_ hk => Kd.freshB (g := gb159) (o := .cells #[.int .i64 a1_0, .int .i64 a1_1, .int .i64 a1_2, .int .i64 a1_3, .int .i64 (wrap64 (x160004_1 + ((rd_T38 l0 x7_1).f3)))] 38 (0, 0)) (by (with_reducible repeat (first | refine blk_drewN ?_ _ | refine blk_drew ?_ | refine blk_alloc ?_ _)); refine blk_put (cs := #[.int .i64 a1_0, .int .i64 a1_1, .int .i64 a1_2, .int .i64 a1_3, .int .i64 x160004_1]) ?_ 4 _ rfl; (with_reducible repeat (first | refine blk_drewN ?_ _ | refine blk_drew ?_ | refine blk_alloc ?_ _)); exact BK159.out) k_ hk)); (case aO => exact (by (with_reducible repeat (first | apply Kd.R_alloc | apply Kd.R_drewN | apply Kd.R_drew)); exact Kd.R_mono (Kd.R_far (p := ⟨gb159, 4, none⟩) (Kd.R_mono HO_5.out (fun k_ hk => (⟨hk, hk⟩ : _ ∧ k_ ≠ gb159))) (fun _ hk => hk.2) (.int .i64 (wrap64 (x160004_1 + ((rd_T38 l0 x7_1).f3))))) (fun _ hk => hk.1))); (case aS => exact (below_size Q50)); (case aL => have := LMc29.out; omega); intro v181 w33 ho hb hg hat; rw [← Ny180.out] at ho; have n0_ := Aside0.mk (blk_grown (g := gb159) (o := .cells #[.int .i64 a1_0, .int .i64 a1_1, .int .i64 a1_2, .int .i64 a1_3, .int .i64 (wrap64 (x160004_1 + ((rd_T38 l0 x7_1).f3)))] 38 (0, 0)) (by (with_reducible repeat (first | refine blk_drewN ?_ _ | refine blk_drew ?_ | refine blk_alloc ?_ _)); refine blk_put (cs := #[.int .i64 a1_0, .int .i64 a1_1, .int .i64 a1_2, .int .i64 a1_3, .int .i64 x160004_1]) ?_ 4 _ rfl; (with_reducible repeat (first | refine blk_drewN ?_ _ | refine blk_drew ?_ | refine blk_alloc ?_ _)); exact BK159.out) hg (Kd.R_away HO_5.out (fun _ hk => hk))); have n1_ := Aside0.mk (hb); have n2_ := Aside0.mk (ho); clear BK159; clear HB; clear HO_5; have BK159 := n0_; have HB := n1_; have HO182 := n2_; clear n0_ n1_ n2_; clear ho hb hg hat))
             go_roundg kj8
             case measure => have := HK1.out; have := HJ8.out; omega
             case rel => exact ⟨(y180), (true), (wrap64 (x7_1 + 1)), (wrap64 (x160004_1 + ((rd_T38 l0 x7_1).f3))), Q6, Q6, H', ⟨Q5⟩, ⟨by (with_reducible repeat (first | apply Kd.R_alloc | apply Kd.R_drewN | apply Kd.R_drew)); exact HO182.out⟩, ⟨Q28⟩, ⟨Q50⟩⟩
            ·rw [if_neg c29] at H
             exact absurd H Q0
           ·rw [if_neg c28] at H
            exact absurd H Q0
          ·rw [if_neg c27] at H
           exact absurd H Q0
         ·rw [if_neg c26] at H
          have c26b0 : (t167 == 0) = false := beq_eq_false_iff_ne.mpr c26
          have c26b1 : (t167 != 0) = true := bne_iff_ne.mpr c26
          by_cases c34 : 0 ≤ x7_1
          ·rw [if_pos c34] at H
           have c34b0 : decide (0 ≤ x7_1) = true := decide_eq_true c34
           clear c34
           by_cases c35 : x7_1 < (l0.length : Int)
           ·rw [if_pos c35] at H
            have c35b0 : decide (x7_1 < (l0.length : Int)) = true := decide_eq_true c35
            clear c35
            by_cases c36 : x5_1.length < 3518437208883
            ·rw [if_pos c36] at H
             have LMc36 := Aside0.mk c36
             clear c36
             obtain ⟨y184, hy_⟩ : ∃ y_ : List (S38), y_ = (x5_1 ++ [(⟨(rd_T38 l0 x7_1).f0, (rd_T38 l0 x7_1).f1, (⟨(rd_T38 l0 x7_1).f2.f0, (rd_T38 l0 x7_1).f2.f1⟩ : S36), (rd_T38 l0 x7_1).f3⟩ : S38)]) := ⟨_, rfl⟩
             replace H : (spec_l2Put.l0 kj8 l0 y184 false (wrap64 (x7_1 + 1)) a1_0 a1_1 a1_2 a1_3 x160004_1) = some r := Q77
             have Ny184 := Aside0.mk hy_
             clear hy_
             have H' := Aside0.mk H
             clear H
             have p183 : 0 ≤ (x7_1 : Int) := of_decide_eq_true Q7
             have q183 : x7_1 < (l0.length : Int) := of_decide_eq_true Q7
             obtain ⟨ad183, e183, hx183_0, hx183_1, hx183_2, hx183_3, hx183_4⟩ := at_T38 HR0.out x7_1 p183 q183
             obtain rfl : ad166 = ad183 := (by injection e183)
             replace hx183_0 := (HB.out.cell (World.block_lt_of_cell? w _ hx183_0)).trans hx183_0
             replace hx183_1 := (HB.out.cell (World.block_lt_of_cell? w _ hx183_1)).trans hx183_1
             replace hx183_2 := (HB.out.cell (World.block_lt_of_cell? w _ hx183_2)).trans hx183_2
             replace hx183_3 := (HB.out.cell (World.block_lt_of_cell? w _ hx183_3)).trans hx183_3
             replace hx183_4 := (HB.out.cell (World.block_lt_of_cell? w _ hx183_4)).trans hx183_4
             replace p183 := eq_true p183
             replace q183 := eq_true q183
             go_wp2_with (first | ((with_reducible refine gate_builtin (b := .append) (xs := #[.tmp 51, .tmp 56]) rfl ?_); at_builtin; refine Kd.R_append k38 (w0 := w) w.heap.size rfl (.tmp 51) (.tmp 56) 23 38 (.agg #[(.int .i64 0), (.int .i64 0), (.int .i64 0), (.int .i64 0), (.int .i64 0)]) 40 rfl Try.underlying23 info38 rfl Q1 (by omega) u5 x5_1 (⟨(rd_T38 l0 x7_1).f0, (rd_T38 l0 x7_1).f1, (⟨(rd_T38 l0 x7_1).f2.f0, (rd_T38 l0 x7_1).f2.f1⟩ : S36), (rd_T38 l0 x7_1).f3⟩ : S38) [.int .i64 ((rd_T38 l0 x7_1).f0), .int .i64 ((rd_T38 l0 x7_1).f1), .int .i64 ((rd_T38 l0 x7_1).f2.f0), .int .i64 ((rd_T38 l0 x7_1).f2.f1), .int .i64 ((rd_T38 l0 x7_1).f3)] (fun k_ => k_ ≠ gb159) (fun _ => False) rfl rfl ?aP (fun _ hk => hk.elim) ?aF ?aO ?aB ?aS ?aL ?_; (case aP => exact k38_mkM _ _ _ (⟨(rd_T38 l0 x7_1).f0, (rd_T38 l0 x7_1).f1, (⟨(rd_T38 l0 x7_1).f2.f0, (rd_T38 l0 x7_1).f2.f1⟩ : S36), (rd_T38 l0 x7_1).f3⟩ : S38)); (case aB => exact Q50); (case aF => exact (fun k_ hk => Kd.freshB (g := gb159) (o := .cells #[.int .i64 a1_0, .int .i64 a1_1, .int .i64 a1_2, .int .i64 a1_3, .int .i64 x160004_1] 38 (0, 0)) Q28 k_ hk)); (case aO => exact Q12); (case aS => exact (below_size Q50)); (case aL => have := LMc36.out; omega); intro v185 w37 ho hb hg hat; rw [← Ny184.out] at ho; have n0_ := Aside0.mk (blk_grown (g := gb159) (o := .cells #[.int .i64 a1_0, .int .i64 a1_1, .int .i64 a1_2, .int .i64 a1_3, .int .i64 x160004_1] 38 (0, 0)) Q28 hg (Kd.R_away HO_5.out (fun _ hk => hk))); have n1_ := Aside0.mk (hb); have n2_ := Aside0.mk (ho); clear BK159; clear HB; clear HO_5; have BK159 := n0_; have HB := n1_; have HO186 := n2_; clear n0_ n1_ n2_; clear ho hb hg hat))
             go_roundg kj8
             case measure => have := HK1.out; have := HJ8.out; omega
             case rel => exact ⟨(y184), (false), (wrap64 (x7_1 + 1)), (x160004_1), Q6, Q6, H', ⟨Q5⟩, ⟨by (with_reducible repeat (first | apply Kd.R_alloc | apply Kd.R_drewN | apply Kd.R_drew)); exact HO186.out⟩, ⟨Q28⟩, ⟨Q50⟩⟩
            ·rw [if_neg c36] at H
             exact absurd H Q0
           ·rw [if_neg c35] at H
            exact absurd H Q0
          ·rw [if_neg c34] at H
           exact absurd H Q0
    ·rw [if_neg c7] at H
     exact absurd H Q0
   ·rw [if_neg c6] at H
    have c6b0 : decide (x7_1 < (l0.length : Int)) = false := decide_eq_false c6
    clear c6
    by_cases c38 : x6_1 = true
    ·subst c38
     have H1 : (some x5_1) = some r := by rw [if_pos rfl] at H; exact H
     clear H
     have H := H1
     clear H1
     obtain rfl := Option.some.inj H
     go_wp2
     go_ret
     exact ⟨_, Q10, by (with_reducible repeat (first | apply Kd.R_alloc | apply Kd.R_drewN | apply Kd.R_drew)); exact Kd.R_mono HO_5.out (fun _ hk => trivial), Q50⟩
    ·replace c38 := Bool.eq_false_iff.mpr c38
     subst c38
     have H1 : (if x5_1.length < 3518437208883 then (some (x5_1 ++ [(⟨a1_0, a1_1, (⟨a1_2, a1_3⟩ : S36), x160004_1⟩ : S38)])) else (none)) = some r := by rw [if_neg (show ¬ (false = true) by decide)] at H; exact H
     clear H
     have H := H1
     clear H1
     by_cases c39 : x5_1.length < 3518437208883
     ·rw [if_pos c39] at H
      have LMc39 := Aside0.mk c39
      clear c39
      obtain ⟨y163, hy_⟩ : ∃ y_ : List (S38), y_ = (x5_1 ++ [(⟨a1_0, a1_1, (⟨a1_2, a1_3⟩ : S36), x160004_1⟩ : S38)]) := ⟨_, rfl⟩
      replace H : (some y163) = some r := Q77
      have Ny163 := Aside0.mk hy_
      clear hy_
      obtain rfl := Option.some.inj H
      have hcz40_0 : wr.cell? ⟨gb159, 0, none⟩ = some (.int .i64 a1_0) := (blk_cell BK159.out 0).trans rfl
      have hcz40_1 : wr.cell? ⟨gb159, 1, none⟩ = some (.int .i64 a1_1) := (blk_cell BK159.out 1).trans rfl
      have hcz40_2 : wr.cell? ⟨gb159, 2, none⟩ = some (.int .i64 a1_2) := (blk_cell BK159.out 2).trans rfl
      have hcz40_3 : wr.cell? ⟨gb159, 3, none⟩ = some (.int .i64 a1_3) := (blk_cell BK159.out 3).trans rfl
      have hcz40_4 : wr.cell? ⟨gb159, 4, none⟩ = some (.int .i64 x160004_1) := (blk_cell BK159.out 4).trans rfl
      have hfz40_0 := blk_frozen BK159.out 0
      have hfz40_1 := blk_frozen BK159.out 1
      have hfz40_2 := blk_frozen BK159.out 2
      have hfz40_3 := blk_frozen BK159.out 3
      have hfz40_4 := blk_frozen BK159.out 4
      go_wp2_with (first | ((with_reducible refine gate_builtin (b := .append) (xs := #[.tmp 60, .tmp 62]) rfl ?_); at_builtin; refine Kd.R_append k38 (w0 := w) w.heap.size rfl (.tmp 60) (.tmp 62) 23 38 (.agg #[(.int .i64 0), (.int .i64 0), (.int .i64 0), (.int .i64 0), (.int .i64 0)]) 40 rfl Try.underlying23 info38 rfl Q1 (by omega) u5 x5_1 (⟨a1_0, a1_1, (⟨a1_2, a1_3⟩ : S36), x160004_1⟩ : S38) [.int .i64 a1_0, .int .i64 a1_1, .int .i64 a1_2, .int .i64 a1_3, .int .i64 x160004_1] (fun k_ => k_ ≠ gb159) (fun _ => False) rfl rfl ?aP (fun _ hk => hk.elim) ?aF ?aO ?aB ?aS ?aL ?_; (case aP => exact k38_mkM _ _ _ (⟨a1_0, a1_1, (⟨a1_2, a1_3⟩ : S36), x160004_1⟩ : S38)); (case aB => exact Q50); (case aF => exact (fun k_ hk => Kd.freshB (g := gb159) (o := .cells #[.int .i64 a1_0, .int .i64 a1_1, .int .i64 a1_2, .int .i64 a1_3, .int .i64 x160004_1] 38 (0, 0)) Q28 k_ hk)); (case aO => exact Q12); (case aS => exact (below_size Q50)); (case aL => have := LMc39.out; omega); intro v164 w41 ho hb hg hat; rw [← Ny163.out] at ho; have n0_ := Aside0.mk (blk_grown (g := gb159) (o := .cells #[.int .i64 a1_0, .int .i64 a1_1, .int .i64 a1_2, .int .i64 a1_3, .int .i64 x160004_1] 38 (0, 0)) Q28 hg (Kd.R_away HO_5.out (fun _ hk => hk))); have n1_ := Aside0.mk (hb); have n2_ := Aside0.mk (ho); clear BK159; clear HB; clear HO_5; have BK159 := n0_; have HB := n1_; have HO165 := n2_; clear n0_ n1_ n2_; clear ho hb hg hat))
      go_ret
      exact ⟨_, Q10, by (with_reducible repeat (first | apply Kd.R_alloc | apply Kd.R_drewN | apply Kd.R_drew)); exact Kd.R_mono HO165.out (fun _ hk => trivial), Q50⟩
     ·rw [if_neg c39] at H
      exact absurd H Q0
mutual
def spec_l2Sum.l0 : Nat → List (S38) → List (S38) → Int → Option ((List (S38)))
 | 0, _, _, _ => none
 | k + 1, x0, x3, x4 => if x4 < (x0.length : Int) then (if 0 ≤ x4 then ((spec_l2Put.f k x3 ((rd_T38 x0 x4).f0) ((rd_T38 x0 x4).f1) ((rd_T38 x0 x4).f2.f0) ((rd_T38 x0 x4).f2.f1) ((rd_T38 x0 x4).f3)).bind fun t191 => (spec_l2Sum.l0 k x0 t191 (wrap64 (x4 + 1)))) else (none)) else (spec_l2Sum.l1 k x3 (([] : List (S38))) 0)
def spec_l2Sum.l1 : Nat → List (S38) → List (S38) → Int → Option ((List (S38)))
 | 0, _, _, _ => none
 | k + 1, x3, x5, x6 => if x6 < (x3.length : Int) then (if 0 ≤ x6 then (if ((rd_T38 x3 x6).f3) = 0 then (spec_l2Sum.l1 k x3 x5 (wrap64 (x6 + 1))) else (if x5.length < 3518437208883 then (spec_l2Sum.l1 k x3 (x5 ++ [(⟨(rd_T38 x3 x6).f0, (rd_T38 x3 x6).f1, (⟨(rd_T38 x3 x6).f2.f0, (rd_T38 x3 x6).f2.f1⟩ : S36), (rd_T38 x3 x6).f3⟩ : S38)]) (wrap64 (x6 + 1))) else (none))) else (none)) else (some x5)
end
def spec_l2Sum.f (k : Nat) (l0 : List (S38)) : Option ((List (S38))) := spec_l2Sum.l0 k l0 (([] : List (S38))) 0
theorem spec_l2Sum.mono_l : ∀ k, (∀ y0 y1 y2, LeO (spec_l2Sum.l0 k y0 y1 y2) (spec_l2Sum.l0 (k + 1) y0 y1 y2)) ∧ (∀ y0 y1 y2, LeO (spec_l2Sum.l1 k y0 y1 y2) (spec_l2Sum.l1 (k + 1) y0 y1 y2))
 | 0 => ⟨fun _ _ _ r h => by simp [spec_l2Sum.l0] at h, fun _ _ _ r h => by simp [spec_l2Sum.l1] at h⟩
 | k + 1 => by
  obtain ⟨ih0, ih1⟩ := spec_l2Sum.mono_l k
  refine ⟨?_, ?_⟩
  ·intro y0 y1 y2
   unfold spec_l2Sum.l0
   repeat' first
   | (with_reducible exact ih0 _ _ _)
   | (with_reducible exact ih1 _ _ _)
   | (with_reducible exact spec_l2Put.mono _ _ _ _ _ _ _)
   | (with_reducible exact LeO.refl _)
   | (with_reducible exact LeO.none _)
   | (with_reducible refine LeO.ite ?_ ?_)
   | (with_reducible refine LeO.bind ?_ (fun _ => ?_))
   | exact ih0 _ _ _
   | exact ih1 _ _ _
   | exact spec_l2Put.mono _ _ _ _ _ _ _
   | exact LeO.none _
   | refine LeO.ite ?_ ?_
   | refine LeO.bind ?_ (fun _ => ?_)
  ·intro y0 y1 y2
   unfold spec_l2Sum.l1
   repeat' first
   | (with_reducible exact ih0 _ _ _)
   | (with_reducible exact ih1 _ _ _)
   | (with_reducible exact spec_l2Put.mono _ _ _ _ _ _ _)
   | (with_reducible exact LeO.refl _)
   | (with_reducible exact LeO.none _)
   | (with_reducible refine LeO.ite ?_ ?_)
   | (with_reducible refine LeO.bind ?_ (fun _ => ?_))
   | exact ih0 _ _ _
   | exact ih1 _ _ _
   | exact spec_l2Put.mono _ _ _ _ _ _ _
   | exact LeO.none _
   | refine LeO.ite ?_ ?_
   | refine LeO.bind ?_ (fun _ => ?_)
theorem spec_l2Sum.mono : ∀ a0 k, LeO (spec_l2Sum.f k a0) (spec_l2Sum.f (k + 1) a0) := by
 intro a0 k
 obtain ⟨ih0, ih1⟩ := spec_l2Sum.mono_l k
 unfold spec_l2Sum.f
 repeat' first
   | (with_reducible exact ih0 _ _ _)
   | (with_reducible exact ih1 _ _ _)
   | (with_reducible exact spec_l2Put.mono _ _ _ _ _ _ _)
   | (with_reducible exact LeO.refl _)
   | (with_reducible exact LeO.none _)
   | (with_reducible refine LeO.ite ?_ ?_)
   | (with_reducible refine LeO.bind ?_ (fun _ => ?_))
   | exact ih0 _ _ _
   | exact ih1 _ _ _
   | exact spec_l2Put.mono _ _ _ _ _ _ _
   | exact LeO.none _
   | refine LeO.ite ?_ ?_
   | refine LeO.bind ?_ (fun _ => ?_)
set_option maxHeartbeats 8000000 in
set_option maxRecDepth 100000 in
theorem spec_l2Sum.calls (k : Nat) (A0 : Option Addr) (c0 : Nat) (l0 : List (S38)) (r : List (S38)) (w : World) (hr0 : Kd.C k38 w A0 l0.length l0) (hc0 : l0.length ≤ c0) (h : spec_l2Sum.f k l0 = some r) :
  Calls Try.prog 58 #[.slice A0 l0.length c0] w fun e w' => ∃ v0_ : Value, e = .returned (v0_) ∧ Kd.R k38 38 w' w.heap.size (fun _ => True) v0_ r ∧ Below w.heap.size w w' := by
 have hu38 := Try.underlying38
 have HR0 := Aside0.mk hr0
 have HC0 := Aside0.mk hc0
 clear hr0 hc0
 have HB := Aside0.mk (Below.refl w.heap.size w)
 have H : (spec_l2Sum.l0 k l0 (([] : List (S38))) 0) = some r := h
 clear h
 obtain ⟨y187, hy_⟩ : ∃ y_ : List (S38), y_ = (([] : List (S38))) := ⟨_, rfl⟩
 replace H : (spec_l2Sum.l0 k l0 y187 0) = some r := Q77
 have Ny187 := Aside0.mk hy_
 clear hy_
 have H' := Aside0.mk H
 clear H
 go_enter Try.func58, Try.ntmps58
 go_wp2_with (first | ((with_reducible refine gate_dst (N := 7) rfl ?_); refine Kd.R_lit k38 _ 38 ?hg (N := 7) ?hd (xs := ([] : List (S38))) (inner := []) (ok := fun _ => True) (okp := fun _ => True) ?hr ?hp (fun _ hk => hk) trivial (Below.refl _ _) (Nat.le_refl _) Q0 ?_; (case hd => rfl); (case hg => rfl); (case hr => first | (go_simp; done) | (go_simp; rfl)); (case hp => exact (Reps.none _ _)); intro v188 w2 ho3 hb hg_ hnew_; clear hg_ hnew_; (first | rw [← Ny187.out] at ho3 | (simp only [Int.reduceToNat] at ho3; rw [← Ny187.out] at ho3)); have n0_ := Aside0.mk (Kd.R_lower ho3 (below_size Q35)); have n1_ := Aside0.mk (below_step Q35 hb); clear HB; have HO189 := n0_; have HB := n1_; clear n0_ n1_; clear hb ho3))
 go_loopg [3, 4] k (fun kq v3 v4 w' => ∃ (x3_1 : List (S38)) (x4_1 : Int), v4 = .int .i64 x4_1 ∧ Aside0 (spec_l2Sum.l0 kq l0 x3_1 x4_1 = some r) ∧ Aside0 (kq ≤ k) ∧ Aside0 (Kd.R k38 38 w' w.heap.size (fun _ => True) v3 x3_1) ∧ Aside0 (Below w.heap.size w w'))
 case atStart => exact ⟨(y187), (0), Q6, H', ⟨Nat.le_refl _⟩, ⟨by (with_reducible repeat (first | apply Kd.R_alloc | apply Kd.R_drewN | apply Kd.R_drew)); exact HO189.out⟩, ⟨Q35⟩⟩
 case round =>
  clear H'
  try clear p2
  obtain ⟨x3_1, x4_1, rfl, HA, HK1, HO_3, HB⟩ := hrel
  cases gk with
  | zero => exact absurd HA.out (by simp [spec_l2Sum.l0])
  | succ k1 =>
   have H := HA.out
   clear HA
   simp only [spec_l2Sum.l0] at H
   by_cases c4 : x4_1 < (l0.length : Int)
   ·rw [if_pos c4] at H
    have c4b0 : decide (x4_1 < (l0.length : Int)) = true := decide_eq_true c4
    clear c4
    by_cases c5 : 0 ≤ x4_1
    ·rw [if_pos c5] at H
     have c5b0 : decide (0 ≤ x4_1) = true := decide_eq_true c5
     clear c5
     replace H := Option.bind_eq_some_iff.mp H
     obtain ⟨t191, A60, H⟩ := H
     replace H : (spec_l2Sum.l0 k1 l0 t191 (wrap64 (x4_1 + 1))) = some r := H
     have A6 := Aside0.mk A60
     clear A60
     have H' := Aside0.mk H
     clear H
     have p190 : 0 ≤ (x4_1 : Int) := of_decide_eq_true Q7
     have q190 : x4_1 < (l0.length : Int) := of_decide_eq_true Q7
     obtain ⟨ad190, e190, hx190_0, hx190_1, hx190_2, hx190_3, hx190_4⟩ := at_T38 HR0.out x4_1 p190 q190
     cases e190
     replace hx190_0 := (HB.out.cell (World.block_lt_of_cell? w _ hx190_0)).trans hx190_0
     replace hx190_1 := (HB.out.cell (World.block_lt_of_cell? w _ hx190_1)).trans hx190_1
     replace hx190_2 := (HB.out.cell (World.block_lt_of_cell? w _ hx190_2)).trans hx190_2
     replace hx190_3 := (HB.out.cell (World.block_lt_of_cell? w _ hx190_3)).trans hx190_3
     replace hx190_4 := (HB.out.cell (World.block_lt_of_cell? w _ hx190_4)).trans hx190_4
     replace p190 := eq_true p190
     replace q190 := eq_true q190
     obtain ⟨Ao7, co7, eo7⟩ := Kd.R_slice HO_3.out
     subst eo7
     go_wp2_with (first | ((with_reducible refine gate_callee (f := 88) rfl ?_); refine goesL_ (some 19) rfl rfl Try.func88 Q2 rfl #[.slice Ao7 x3_1.length co7, .agg #[.int .i64 ((rd_T38 l0 x4_1).f0), .int .i64 ((rd_T38 l0 x4_1).f1), .int .i64 ((rd_T38 l0 x4_1).f2.f0), .int .i64 ((rd_T38 l0 x4_1).f2.f1), .int .i64 ((rd_T38 l0 x4_1).f3)]] rfl Q37 ?_; (with_reducible refine (spec_l2Put.calls k1 _ _ x3_1 ((rd_T38 l0 x4_1).f0) ((rd_T38 l0 x4_1).f1) ((rd_T38 l0 x4_1).f2.f0) ((rd_T38 l0 x4_1).f2.f1) ((rd_T38 l0 x4_1).f3) t191 _ ?side1 ?side2 A6.out).mono ?_); (case side1 => exact Q52); (case side2 => exact (Kd.R_reads' HO_3.out).2.1); rintro e w8 ⟨v192, rfl, ho0, hb⟩; refine ⟨_, rfl, ?_⟩; have n0_ := Aside0.mk (Kd.R_elder' Q13 (Kd.R_base ho0) hb); have n1_ := Aside0.mk (Kd.R_lower (Kd.R_new' ho0 (Kd.R_lt Q13)) (below_size Q35)); have n2_ := Aside0.mk (below_step Q35 hb); clear HO_3; clear HB; have HO_3 := n0_; have HO193 := n1_; have HB := n2_; clear n0_ n1_ n2_; (try clear hb); (try clear hb2); (try clear hk); (try clear hi); (try clear ho0)))
     go_roundg k1
     case measure => have := HK1.out; omega
     case rel => exact ⟨(t191), (wrap64 (x4_1 + 1)), Q6, H', ⟨Q3⟩, ⟨by (with_reducible repeat (first | apply Kd.R_alloc | apply Kd.R_drewN | apply Kd.R_drew)); exact Kd.R_mono HO193.out (fun _ hk => trivial)⟩, ⟨Q35⟩⟩
    ·rw [if_neg c5] at H
     exact absurd H Q0
   ·rw [if_neg c4] at H
    have c4b0 : decide (x4_1 < (l0.length : Int)) = false := decide_eq_false c4
    clear c4
    obtain ⟨y194, hy_⟩ : ∃ y_ : List (S38), y_ = (([] : List (S38))) := ⟨_, rfl⟩
    replace H : (spec_l2Sum.l1 k1 x3_1 y194 0) = some r := Q77
    have Ny194 := Aside0.mk hy_
    clear hy_
    have H' := Aside0.mk H
    clear H
    go_wp2_with (first | ((with_reducible refine gate_dst (N := 20) rfl ?_); refine Kd.R_lit k38 _ 38 ?hg (N := 20) ?hd (xs := ([] : List (S38))) (inner := []) (ok := fun _ => True) (okp := fun _ => True) ?hr ?hp (fun _ hk => hk) trivial (Below.refl _ _) (Nat.le_refl _) Q0 ?_; (case hd => rfl); (case hg => rfl); (case hr => first | (go_simp; done) | (go_simp; rfl)); (case hp => exact (Reps.none _ _)); intro v195 w9 ho10 hb hg_ hnew_; clear hg_ hnew_; (first | rw [← Ny194.out] at ho10 | (simp only [Int.reduceToNat] at ho10; rw [← Ny194.out] at ho10)); have n0_ := Aside0.mk (Kd.R_elder' Q13 (Kd.R_base ho10) hb); have n1_ := Aside0.mk (Kd.R_lower (Kd.R_new' ho10 (Kd.R_lt Q13)) (below_size Q35)); have n2_ := Aside0.mk (below_step Q35 hb); clear HO_3; clear HB; have HO_3 := n0_; have HO196 := n1_; have HB := n2_; clear n0_ n1_ n2_; clear hb ho10))
    go_loopg [5, 6] k1 (fun kq v5 v6 w' => ∃ (x5_2 : List (S38)) (x6_2 : Int), v6 = .int .i64 x6_2 ∧ Aside0 (spec_l2Sum.l1 kq x3_1 x5_2 x6_2 = some r) ∧ Aside0 (kq ≤ k1) ∧ Aside0 (Kd.R k38 38 w' w.heap.size (fun k_ => some k_ ≠ (v5 : Value).ownBlock) u3 x3_1) ∧ Aside0 (Kd.R k38 38 w' w.heap.size (fun k_ => some k_ ≠ (u3 : Value).ownBlock) v5 x5_2) ∧ Aside0 (Below w.heap.size w w'))
    case atStart => exact ⟨(y194), (0), Q6, H', ⟨Nat.le_refl _⟩, ⟨by (with_reducible repeat (first | apply Kd.R_alloc | apply Kd.R_drewN | apply Kd.R_drew)); exact Kd.R_mono HO_3.out (fun _ hk => hk.2)⟩, ⟨by (with_reducible repeat (first | apply Kd.R_alloc | apply Kd.R_drewN | apply Kd.R_drew)); exact Kd.R_mono HO196.out (fun _ hk => hk.2)⟩, ⟨Q35⟩⟩
    case round =>
     clear H'
     try clear p1
     try clear q1
     try clear hx1
     try clear p2
     try clear c4
     try clear c4b0
     try clear c5
     try clear c5b0
     try clear p6
     try clear c8
     try clear hx190_0
     try clear hx190_1
     try clear hx190_2
     try clear hx190_3
     try clear hx190_4
     try clear p190
     try clear p2
     try clear q190
     obtain ⟨x5_2, x6_2, rfl, HA, HK2, HO_3, HO_5, HB⟩ := hrel
     cases gk with
     | zero => exact absurd HA.out (by simp [spec_l2Sum.l1])
     | succ k2 =>
      have H := HA.out
      clear HA
      simp only [spec_l2Sum.l1] at H
      by_cases c11 : x6_2 < (x3_1.length : Int)
      ·rw [if_pos c11] at H
       have c11b0 : decide (x6_2 < (x3_1.length : Int)) = true := decide_eq_true c11
       clear c11
       by_cases c12 : 0 ≤ x6_2
       ·rw [if_pos c12] at H
        have c12b0 : decide (0 ≤ x6_2) = true := decide_eq_true c12
        clear c12
        by_cases c13 : ((rd_T38 x3_1 x6_2).f3) = 0
        ·rw [if_pos c13] at H
         have c13b0 : (((rd_T38 x3_1 x6_2).f3) == 0) = true := beq_iff_eq.mpr c13
         have c13b1 : (((rd_T38 x3_1 x6_2).f3) != 0) = false := bne_eq_false_iff_eq.mpr c13
         clear c13
         have H' := Aside0.mk H
         clear H
         obtain ⟨Ao14, co14, eo14⟩ := Kd.R_slice HO_3.out
         subst eo14
         have p197 : 0 ≤ (x6_2 : Int) := of_decide_eq_true Q7
         have q197 : x6_2 < (x3_1.length : Int) := of_decide_eq_true Q7
         obtain ⟨ad197, e197, hx197_0, hx197_1, hx197_2, hx197_3, hx197_4⟩ := at_T38 (Kd.R_reads' HO_3.out).2.2 x6_2 p197 q197
         cases e197
         replace p197 := eq_true p197
         replace q197 := eq_true q197
         go_wp2
         go_roundg k2
         case measure => have := HK1.out; have := HK2.out; omega
         case rel => exact ⟨(x5_2), (wrap64 (x6_2 + 1)), Q6, H', ⟨by have := HK1.out; have := HK2.out; omega⟩, ⟨Q13⟩, ⟨Q12⟩, ⟨Q35⟩⟩
        ·rw [if_neg c13] at H
         have c13b0 : (((rd_T38 x3_1 x6_2).f3) == 0) = false := beq_eq_false_iff_ne.mpr c13
         have c13b1 : (((rd_T38 x3_1 x6_2).f3) != 0) = true := bne_iff_ne.mpr c13
         by_cases c15 : x5_2.length < 3518437208883
         ·rw [if_pos c15] at H
          have LMc15 := Aside0.mk c15
          clear c15
          obtain ⟨y199, hy_⟩ : ∃ y_ : List (S38), y_ = (x5_2 ++ [(⟨(rd_T38 x3_1 x6_2).f0, (rd_T38 x3_1 x6_2).f1, (⟨(rd_T38 x3_1 x6_2).f2.f0, (rd_T38 x3_1 x6_2).f2.f1⟩ : S36), (rd_T38 x3_1 x6_2).f3⟩ : S38)]) := ⟨_, rfl⟩
          replace H : (spec_l2Sum.l1 k2 x3_1 y199 (wrap64 (x6_2 + 1))) = some r := Q77
          have Ny199 := Aside0.mk hy_
          clear hy_
          have H' := Aside0.mk H
          clear H
          obtain ⟨Ao16, co16, eo16⟩ := Kd.R_slice HO_3.out
          subst eo16
          have p197 : 0 ≤ (x6_2 : Int) := of_decide_eq_true Q7
          have q197 : x6_2 < (x3_1.length : Int) := of_decide_eq_true Q7
          obtain ⟨ad197, e197, hx197_0, hx197_1, hx197_2, hx197_3, hx197_4⟩ := at_T38 (Kd.R_reads' HO_3.out).2.2 x6_2 p197 q197
          cases e197
          replace p197 := eq_true p197
          replace q197 := eq_true q197
          have p198 : 0 ≤ (x6_2 : Int) := of_decide_eq_true Q7
          have q198 : x6_2 < (x3_1.length : Int) := of_decide_eq_true Q7
          obtain ⟨ad198, e198, hx198_0, hx198_1, hx198_2, hx198_3, hx198_4⟩ := at_T38 (Kd.R_reads' HO_3.out).2.2 x6_2 p198 q198
          obtain rfl : ad197 = ad198 := (by injection e198)
          replace p198 := eq_true p198
          replace q198 := eq_true q198
          go_wp2_with (first | ((with_reducible refine gate_builtin (b := .append) (xs := #[.tmp 33, .tmp 38]) rfl ?_); at_builtin; refine Kd.R_append k38 (w0 := w) w.heap.size rfl (.tmp 33) (.tmp 38) 23 38 (.agg #[(.int .i64 0), (.int .i64 0), (.int .i64 0), (.int .i64 0), (.int .i64 0)]) 40 rfl Try.underlying23 info38 rfl Q1 (by omega) u5 x5_2 (⟨(rd_T38 x3_1 x6_2).f0, (rd_T38 x3_1 x6_2).f1, (⟨(rd_T38 x3_1 x6_2).f2.f0, (rd_T38 x3_1 x6_2).f2.f1⟩ : S36), (rd_T38 x3_1 x6_2).f3⟩ : S38) [.int .i64 ((rd_T38 x3_1 x6_2).f0), .int .i64 ((rd_T38 x3_1 x6_2).f1), .int .i64 ((rd_T38 x3_1 x6_2).f2.f0), .int .i64 ((rd_T38 x3_1 x6_2).f2.f1), .int .i64 ((rd_T38 x3_1 x6_2).f3)] (fun k_ => some k_ ≠ (.slice (some ad197) x3_1.length co16 : Value).ownBlock) (fun _ => False) rfl rfl ?aP (fun _ hk => hk.elim) ?aF ?aO ?aB ?aS ?aL ?_; (case aP => exact k38_mkM _ _ _ (⟨(rd_T38 x3_1 x6_2).f0, (rd_T38 x3_1 x6_2).f1, (⟨(rd_T38 x3_1 x6_2).f2.f0, (rd_T38 x3_1 x6_2).f2.f1⟩ : S36), (rd_T38 x3_1 x6_2).f3⟩ : S38)); (case aB => exact Q35); (case aF => exact (fun k_ hk => Kd.fresh' (Kd.R_lt Q13) k_ hk)); (case aO => exact Q12); (case aS => exact (below_size Q35)); (case aL => have := LMc15.out; omega); intro v200 w17 ho hb hg hat; rw [← Ny199.out] at ho; have n0_ := Aside0.mk (Kd.R_after (ok := (fun _ => True)) (by (with_reducible repeat (first | apply Kd.R_alloc | apply Kd.R_drewN | apply Kd.R_drew)); exact Kd.R_mono HO_3.out (fun _ hk => ⟨trivial, hk⟩)) hg hat); have n1_ := Aside0.mk (hb); have n2_ := Aside0.mk (ho); clear HO_3; clear HB; clear HO_5; have HO_3 := n0_; have HB := n1_; have HO201 := n2_; clear n0_ n1_ n2_; clear ho hb hg hat))
          go_roundg k2
          case measure => have := HK1.out; have := HK2.out; omega
          case rel => exact ⟨(y199), (wrap64 (x6_2 + 1)), Q6, H', ⟨by have := HK1.out; have := HK2.out; omega⟩, ⟨by (with_reducible repeat (first | apply Kd.R_alloc | apply Kd.R_drewN | apply Kd.R_drew)); exact Kd.R_mono HO_3.out (fun _ hk => hk.2)⟩, ⟨by (with_reducible repeat (first | apply Kd.R_alloc | apply Kd.R_drewN | apply Kd.R_drew)); exact HO201.out⟩, ⟨Q35⟩⟩
         ·rw [if_neg c15] at H
          exact absurd H Q0
       ·rw [if_neg c12] at H
        exact absurd H Q0
      ·rw [if_neg c11] at H
       have c11b0 : decide (x6_2 < (x3_1.length : Int)) = false := decide_eq_false c11
       clear c11
       obtain rfl := Option.some.inj H
       obtain ⟨Ao18, co18, eo18⟩ := Kd.R_slice HO_3.out
       subst eo18
       go_wp2
       go_ret
       exact ⟨_, Q10, by (with_reducible repeat (first | apply Kd.R_alloc | apply Kd.R_drewN | apply Kd.R_drew)); exact Kd.R_mono HO_5.out (fun _ hk => trivial), Q35⟩
def spec_BatchOf.f (k : Nat) (l0 : List (S38)) : Option ((List (S38))) := (spec_RowsOk.f k l0).bind fun t202 => (if t202 = true then ((spec_l2Sum.f k l0).bind fun t203 => ((spec_l2Fit.f k t203).bind fun t206 => (some t206))) else (some (([] : List (S38)))))
theorem spec_BatchOf.mono : ∀ a0 k, LeO (spec_BatchOf.f k a0) (spec_BatchOf.f (k + 1) a0) := by
 intro a0 k
 unfold spec_BatchOf.f
 repeat' first
   | (with_reducible exact spec_RowsOk.mono _ _)
   | (with_reducible exact spec_l2Fit.mono _ _)
   | (with_reducible exact spec_l2Sum.mono _ _)
   | (with_reducible exact LeO.refl _)
   | (with_reducible exact LeO.none _)
   | (with_reducible refine LeO.ite ?_ ?_)
   | (with_reducible refine LeO.bind ?_ (fun _ => ?_))
   | exact spec_RowsOk.mono _ _
   | exact spec_l2Fit.mono _ _
   | exact spec_l2Sum.mono _ _
   | exact LeO.none _
   | refine LeO.ite ?_ ?_
   | refine LeO.bind ?_ (fun _ => ?_)
set_option maxHeartbeats 8000000 in
set_option maxRecDepth 100000 in
theorem spec_BatchOf.calls (k : Nat) (A0 : Option Addr) (c0 : Nat) (l0 : List (S38)) (r : List (S38)) (w : World) (hr0 : Kd.C k38 w A0 l0.length l0) (hc0 : l0.length ≤ c0) (h : spec_BatchOf.f k l0 = some r) :
  Calls Try.prog 27 #[.slice A0 l0.length c0] w fun e w' => ∃ v0_ : Value, e = .returned (v0_) ∧ Kd.R k38 38 w' w.heap.size (fun _ => True) v0_ r ∧ Below w.heap.size w w' := by
 have HR0 := Aside0.mk hr0
 have HC0 := Aside0.mk hc0
 clear hr0 hc0
 have HB := Aside0.mk (Below.refl w.heap.size w)
 have H : ((spec_RowsOk.f k l0).bind fun t202 => (if t202 = true then ((spec_l2Sum.f k l0).bind fun t203 => ((spec_l2Fit.f k t203).bind fun t206 => (some t206))) else (some (([] : List (S38)))))) = some r := h
 clear h
 replace H := Option.bind_eq_some_iff.mp H
 obtain ⟨t202, A20, H⟩ := H
 replace H : (if t202 = true then ((spec_l2Sum.f k l0).bind fun t203 => ((spec_l2Fit.f k t203).bind fun t206 => (some t206))) else (some (([] : List (S38))))) = some r := H
 have A2 := Aside0.mk A20
 clear A20
 by_cases c3 : t202 = true
 ·subst c3
  have H1 : ((spec_l2Sum.f k l0).bind fun t203 => ((spec_l2Fit.f k t203).bind fun t206 => (some t206))) = some r := by rw [if_pos rfl] at H; exact H
  clear H
  have H := H1
  clear H1
  replace H := Option.bind_eq_some_iff.mp H
  obtain ⟨t203, A40, H⟩ := H
  replace H : ((spec_l2Fit.f k t203).bind fun t206 => (some t206)) = some r := H
  have A4 := Aside0.mk A40
  clear A40
  replace H := Option.bind_eq_some_iff.mp H
  obtain ⟨t206, A50, H⟩ := H
  replace H : (some t206) = some r := H
  have A5 := Aside0.mk A50
  clear A50
  obtain rfl := Option.some.inj H
  go_enter Try.func27, Try.ntmps27
  go_wp2_with (first | ((with_reducible refine gate_callee (f := 20) rfl ?_); refine goesL_ (some 4) rfl rfl Try.func20 Q2 rfl #[.slice A0 l0.length c0] rfl Q37 ?_; (with_reducible refine (spec_RowsOk.calls k _ _ l0 true _ ?side1 ?side2 A2.out).mono ?_); (case side1 => exact Q41); (case side2 => exact HC0.out); rintro e w6 ⟨rfl, hb⟩; refine ⟨_, rfl, ?_⟩; have n0_ := Aside0.mk (below_step Q35 hb); clear HB; have HB := n0_; clear n0_; (try clear hb); (try clear hb2); (try clear hk); (try clear hi)) | ((with_reducible refine gate_callee (f := 58) rfl ?_); refine goesL_ (some 8) rfl rfl Try.func58 Q2 rfl #[.slice A0 l0.length c0] rfl Q37 ?_; (with_reducible refine (spec_l2Sum.calls k _ _ l0 t203 _ ?side1 ?side2 A4.out).mono ?_); (case side1 => exact Q54); (case side2 => exact HC0.out); rintro e w7 ⟨v204, rfl, ho0, hb⟩; refine ⟨_, rfl, ?_⟩; have n0_ := Aside0.mk (Kd.R_lower ho0 (below_size Q35)); have n1_ := Aside0.mk (below_step Q35 hb); clear HB; have HO205 := n0_; have HB := n1_; clear n0_ n1_; (try clear hb); (try clear hb2); (try clear hk); (try clear hi); (try clear ho0); obtain ⟨Ao8, co8, eo8⟩ := Kd.R_slice HO205.out; subst eo8) | ((with_reducible refine gate_callee (f := 57) rfl ?_); refine goesL_ (some 9) rfl rfl Try.func57 Q2 rfl #[.slice Ao8 t203.length co8] rfl Q37 ?_; (with_reducible refine (spec_l2Fit.calls k (fun k_ => some k_ = (.slice Ao8 t203.length co8 : Value).ownBlock) (.slice Ao8 t203.length co8) t203 t206 w _ ?side1 ?side2 A5.out).mono ?_); (case side1 => exact Q35); (case side2 => exact Kd.R_tight rfl HO205.out); rintro e w9 ⟨v207, rfl, ho0, hb, hkp⟩; refine ⟨_, rfl, ?_⟩; have n0_ := Aside0.mk (Kd.R_mono (ok' := fun k_ => True) ho0 (fun k_ hk_ => trivial)); have n1_ := Aside0.mk (hb); clear HB; clear HO205; have HO208 := n0_; have HB := n1_; clear n0_ n1_; (try clear hb); (try clear hkp); (try clear ho0)))
  go_ret
  exact ⟨_, Q10, by (with_reducible repeat (first | apply Kd.R_alloc | apply Kd.R_drewN | apply Kd.R_drew)); exact HO208.out, Q35⟩
 ·replace c3 := Bool.eq_false_iff.mpr c3
  subst c3
  have H1 : (some (([] : List (S38)))) = some r := by rw [if_neg (show ¬ (false = true) by decide)] at H; exact H
  clear H
  have H := H1
  clear H1
  obtain ⟨y209, hy_⟩ : ∃ y_ : List (S38), y_ = (([] : List (S38))) := ⟨_, rfl⟩
  replace H : (some y209) = some r := Q77
  have Ny209 := Aside0.mk hy_
  clear hy_
  obtain rfl := Option.some.inj H
  go_enter Try.func27, Try.ntmps27
  go_wp2_with (first | ((with_reducible refine gate_callee (f := 20) rfl ?_); refine goesL_ (some 4) rfl rfl Try.func20 Q2 rfl #[.slice A0 l0.length c0] rfl Q37 ?_; (with_reducible refine (spec_RowsOk.calls k _ _ l0 false _ ?side1 ?side2 A2.out).mono ?_); (case side1 => exact Q41); (case side2 => exact HC0.out); rintro e w10 ⟨rfl, hb⟩; refine ⟨_, rfl, ?_⟩; have n0_ := Aside0.mk (below_step Q35 hb); clear HB; have HB := n0_; clear n0_; (try clear hb); (try clear hb2); (try clear hk); (try clear hi)) | ((with_reducible refine gate_dst (N := 6) rfl ?_); refine Kd.R_lit k38 _ 38 ?hg (N := 6) ?hd (xs := ([] : List (S38))) (inner := []) (ok := fun _ => True) (okp := fun _ => True) ?hr ?hp (fun _ hk => hk) trivial (Below.refl _ _) (Nat.le_refl _) Q0 ?_; (case hd => rfl); (case hg => rfl); (case hr => first | (go_simp; done) | (go_simp; rfl)); (case hp => exact (Reps.none _ _)); intro v210 w11 ho12 hb hg_ hnew_; clear hg_ hnew_; (first | rw [← Ny209.out] at ho12 | (simp only [Int.reduceToNat] at ho12; rw [← Ny209.out] at ho12)); have n0_ := Aside0.mk (Kd.R_lower ho12 (below_size Q35)); have n1_ := Aside0.mk (below_step Q35 hb); clear HB; have HO211 := n0_; have HB := n1_; clear n0_ n1_; clear hb ho12))
  go_ret
  exact ⟨_, Q10, by (with_reducible repeat (first | apply Kd.R_alloc | apply Kd.R_drewN | apply Kd.R_drew)); exact HO211.out, Q35⟩
def IsS87 (w0 W : World) (g : Nat) (f0 : List Int) (f1 : Int) : Prop := ∃ A0 c0, W.heap[g]? = some (.cells #[.slice A0 f0.length c0, .int .i64 f1] 87 (0, 0)) ∧ w0.heap.size ≤ g ∧ Kd.C (Kd.int .u8) w0 A0 f0.length f0
theorem IsS87.grown {w0 W : World} {g : Nat} {f0 : List Int} {f1 : Int} {W1 : World} {row : Option Nat} (h : IsS87 w0 W g f0 f1) (hw : W.grownBy W1 row) (hne : some g ≠ row) : IsS87 w0 W1 g f0 f1 := by
 obtain ⟨A0, c0, hb, hg, hr0⟩ := h
 exact ⟨A0, c0, blk_grown hb hw hne, hg, hr0⟩
theorem IsS87.own_neN {w0 W : World} {g : Nat} {f0 : List Int} {f1 : Int} {α : Type} {d : Kd α} {e : Nat} {base : Nat} {ok : Nat → Prop} {v : Value} {xs : List α} (h : IsS87 w0 W g f0 f1) (ho : Kd.N d e W base ok v xs) (ht : e ≠ 87) : some g ≠ v.ownBlock := by
 obtain ⟨A0, c0, hb, hg, hr0⟩ := h
 exact Kd.N_ne ho hb ht
theorem IsS87.fresh {w0 W : World} {g : Nat} {f0 : List Int} {f1 : Int} (h : IsS87 w0 W g f0 f1) : ∀ k, W.heap.size ≤ k → k ≠ g := by
 obtain ⟨A0, c0, hb, hg, hr0⟩ := h
 exact Kd.freshB hb
theorem IsS87.kept {w0 W : World} {g : Nat} {f0 : List Int} {f1 : Int} {W1 : World} {S : Nat → Prop} (h : IsS87 w0 W g f0 f1) (hk : Kept W W1 S) (hne : ¬ S g) : IsS87 w0 W1 g f0 f1 := by
 obtain ⟨A0, c0, hb, hg, hr0⟩ := h
 exact ⟨A0, c0, blk_kept hb hk hne, hg, hr0⟩
theorem IsS87.below {w0 W : World} {g : Nat} {f0 : List Int} {f1 : Int} {W1 : World} (h : IsS87 w0 W g f0 f1) (hw : Below W.heap.size W W1) : IsS87 w0 W1 g f0 f1 := h.grown (grown_of_below hw none) Q0
theorem IsS87.alloc {w0 W : World} {g : Nat} {f0 : List Int} {f1 : Int} (h : IsS87 w0 W g f0 f1) (o : Obj) : IsS87 w0 (W.alloc o) g f0 f1 := h.below (below_alloc (Below.refl _ _) o)
theorem IsS87.drewN {w0 W : World} {g : Nat} {f0 : List Int} {f1 : Int} (h : IsS87 w0 W g f0 f1) (m : Nat) : IsS87 w0 (W.drewN m) g f0 f1 := h
theorem IsS87.drew {w0 W : World} {g : Nat} {f0 : List Int} {f1 : Int} (h : IsS87 w0 W g f0 f1) : IsS87 w0 W.drew g f0 f1 := h
theorem IsS87.at_ {w0 W : World} {g : Nat} {f0 : List Int} {f1 : Int} {w' : World} {m : Nat} (hq : W.drewN m = w') (h : IsS87 w0 W g f0 f1) : IsS87 w0 w' g f0 f1 := by subst hq; exact IsS87.drewN h m
theorem IsS87.apart {w0 W : World} {g : Nat} {f0 : List Int} {f1 : Int} {α : Type} {d : Kd α} {e : Nat} {base : Nat} {ok : Nat → Prop} {v : Value} {xs : List α} (h : IsS87 w0 W g f0 f1) (ho : d.R e W base ok v xs) (ht : ∀ q, q ∈ e :: d.E → q ≠ 87) : d.R e W base (fun k => ok k ∧ k ≠ g) v xs := by
 obtain ⟨A0, c0, hb, hg, hr0⟩ := h
 exact Kd.R_types ho hb ht
theorem IsS87.own_ne {w0 W : World} {g : Nat} {f0 : List Int} {f1 : Int} {α : Type} {d : Kd α} {e : Nat} {base : Nat} {ok : Nat → Prop} {v : Value} {xs : List α} (h : IsS87 w0 W g f0 f1) (ho : d.R e W base ok v xs) (ht : e ≠ 87) : some g ≠ v.ownBlock := by
 obtain ⟨A0, c0, hb, hg, hr0⟩ := h
 exact Kd.R_ne ho hb ht
theorem IsS87.apartQ {w0 W : World} {g : Nat} {f0 : List Int} {f1 : Int} {α : Type} {d : Kd α} {e : Nat} {base : Nat} {ok : Nat → Prop} {v : Value} {xs : List α} (h : IsS87 w0 W g f0 f1) (ho : d.Q e W base ok v xs) (ht : ∀ q, q ∈ e :: d.E → q ≠ 87) : d.Q e W base (fun k => ok k ∧ k ≠ g) v xs := by
 obtain ⟨A0, c0, hb, hg, hr0⟩ := h
 exact Kd.Q_types ho hb ht
theorem IsS87.own_neQ {w0 W : World} {g : Nat} {f0 : List Int} {f1 : Int} {α : Type} {d : Kd α} {e : Nat} {base : Nat} {ok : Nat → Prop} {v : Value} {xs : List α} (h : IsS87 w0 W g f0 f1) (ho : d.Q e W base ok v xs) (ht : e ≠ 87) : some g ≠ v.ownBlock := by
 obtain ⟨A0, c0, hb, hg, hr0⟩ := h
 exact Kd.Q_ne ho hb ht
theorem IsS87.apartS {w0 W : World} {g : Nat} {f0 : List Int} {f1 : Int} {α : Type} {d : Kd α} {e : Nat} {base : Nat} {ok : Nat → Prop} {v : Value} {xs : List α} (h : IsS87 w0 W g f0 f1) (ho : d.S e W base ok v xs) (ht : ∀ q, q ∈ e :: d.E → q ≠ 87) : d.S e W base (fun k => ok k ∧ k ≠ g) v xs := by
 obtain ⟨A0, c0, hb, hg, hr0⟩ := h
 exact Kd.S_types ho hb ht
theorem IsS87.own_neS {w0 W : World} {g : Nat} {f0 : List Int} {f1 : Int} {α : Type} {d : Kd α} {e : Nat} {base : Nat} {ok : Nat → Prop} {v : Value} {xs : List α} (h : IsS87 w0 W g f0 f1) (ho : d.S e W base ok v xs) (ht : e ≠ 87) : some g ≠ v.ownBlock := by
 obtain ⟨A0, c0, hb, hg, hr0⟩ := h
 exact Kd.S_ne ho hb ht
theorem IsS87.lt {w0 W : World} {g : Nat} {f0 : List Int} {f1 : Int} (h : IsS87 w0 W g f0 f1) : g < W.heap.size := by
 obtain ⟨A0, c0, hb, hg, hr0⟩ := h
 exact blk_lt hb
theorem IsS87.ge {w0 W : World} {g : Nat} {f0 : List Int} {f1 : Int} (h : IsS87 w0 W g f0 f1) : w0.heap.size ≤ g := by
 obtain ⟨A0, c0, hb, hg, hr0⟩ := h
 exact hg
theorem IsS87.ne_blk {w0 W : World} {g : Nat} {f0 : List Int} {f1 : Int} {a : Nat} {cs : Array Value} {t : TypeId} {fr : Nat × Nat} (h : IsS87 w0 W g f0 f1) (hb2 : W.heap[a]? = some (.cells cs t fr)) (ht : t ≠ 87) : g ≠ a := by
 obtain ⟨A0, c0, hb, hg, hr0⟩ := h
 rintro rfl
 rw [hb] at hb2
 injection hb2 with hb2
 injection hb2 with _ ht2
 exact ht ht2.symm
theorem IsS87.far {w0 W : World} {g : Nat} {f0 : List Int} {f1 : Int} {p : Addr} (h : IsS87 w0 W g f0 f1) (hne : g ≠ p.block) (u : Value) : IsS87 w0 (W.setCell p u) g f0 f1 := by
 obtain ⟨A0, c0, hb, hg, hr0⟩ := h
 exact ⟨A0, c0, blk_far hb hne u, hg, hr0⟩
theorem cellS87_0 {W : World} {g : Nat} {A0 : Option Addr} {c0 : Nat} {f0 : List Int} {f1 : Int} (h : W.heap[g]? = some (.cells #[.slice A0 f0.length c0, .int .i64 f1] 87 (0, 0))) : W.cell? ⟨g, 0, none⟩ = some (.slice A0 f0.length c0) := (blk_cell h 0).trans rfl
theorem cellS87_1 {W : World} {g : Nat} {A0 : Option Addr} {c0 : Nat} {f0 : List Int} {f1 : Int} (h : W.heap[g]? = some (.cells #[.slice A0 f0.length c0, .int .i64 f1] 87 (0, 0))) : W.cell? ⟨g, 1, none⟩ = some (.int .i64 f1) := (blk_cell h 1).trans rfl
theorem IsS87.set_1 {w0 W : World} {g : Nat} {f0 : List Int} {f1 : Int} (h : IsS87 w0 W g f0 f1) (x : Int) : IsS87 w0 (W.setCell ⟨g, 1, none⟩ (.int .i64 x)) g f0 x := by
 obtain ⟨A0, c0, hb, hg, hr0⟩ := h
 exact ⟨A0, c0, by simpa using blk_set hb 1 (.int .i64 x), hg, hr0⟩
theorem IsS87.new (w0 W : World) (A0 : Option Addr) (c0 : Nat) (f0 : List Int) (f1 : Int) (hB : Below w0.heap.size w0 W) (hr0 : Kd.C (Kd.int .u8) w0 A0 f0.length f0) : IsS87 w0 (W.alloc (.cells #[.slice A0 f0.length c0, .int .i64 f1] 87)) W.heap.size f0 f1 := ⟨A0, c0, by simpa using heap_alloc_new W _, hB.size, hr0⟩
def spec_l6Open.f (l0 : List Int) : Option (List Int × Int) := if (l0.length : Int) > 2000 then (if 2000 ≤ (l0.length : Int) then (some (l0.take 2000, 0)) else (none)) else (some (l0, 0))
set_option maxHeartbeats 8000000 in
set_option maxRecDepth 100000 in
theorem spec_l6Open.calls (A0 : Option Addr) (c0 : Nat) (l0 : List Int) (r1 : List Int) (r2 : Int) (w0 w : World) (hB : Below w0.heap.size w0 w) (hr0 : Kd.C (Kd.int .u8) w0 A0 l0.length l0) (hc0 : l0.length ≤ c0) (h : spec_l6Open.f l0 = some (r1, r2)) :
  Calls Try.prog 50 #[.slice A0 l0.length c0] w fun e w' => ∃ g_ : Nat, e = .returned (.pointer (some ⟨g_, 0, none⟩)) ∧ IsS87 w0 w' g_ r1 r2 ∧ Below w0.heap.size w0 w' ∧ Below w.heap.size w w' := by
 have hu87 := Try.underlying87
 have HR0 := Aside0.mk hr0
 have HC0 := Aside0.mk hc0
 clear hr0 hc0
 have HBW := Aside0.mk (Below.refl w.heap.size w)
 have HW0 := Aside0.mk hB.size
 have HB := Aside0.mk hB
 clear hB
 have H : (if (l0.length : Int) > 2000 then (if 2000 ≤ (l0.length : Int) then (some (l0.take 2000, 0)) else (none)) else (some (l0, 0))) = some (r1, r2) := h
 clear h
 by_cases c2 : (l0.length : Int) > 2000
 ·rw [if_pos c2] at H
  have c2b0 : decide (2000 < (l0.length : Int)) = true := decide_eq_true c2
  have c2b1 : decide (2000 < l0.length) = true := decide_eq_true (by omega)
  clear c2
  by_cases c3 : 2000 ≤ (l0.length : Int)
  ·rw [if_pos c3] at H
   have c3b0 := eq_true c3
   have c3b1 : decide (2000 ≤ (l0.length : Int)) = true := decide_eq_true c3
   clear c3
   simp only [Option.some.injEq, Prod.mk.injEq] at H
   obtain ⟨rfl, rfl⟩ := H
   obtain ⟨i04, hi04, _, hsz4, _⟩ := info_parts info5
   obtain ⟨hcut4, hA4, hC4⟩ := print_take_of (P := Try.prog) (Value.int .u8) 0 22 5 .i64 Try.underlying22 hi04 hsz4 A0 c0 l0 2000 (by omega) (of_decide_eq_true Q7) HC0.out
   have HR212 := Aside0.mk (Kd.C_of_reads (h1 := fun _ => rfl) (hA4 _ (Kd.reads_of_C HR0.out)))
   have HC212 := Aside0.mk hC4
   clear hA4 hC4 hi04 hsz4
   go_enter Try.func50, Try.ntmps50
   go_wp2_with (first | ((with_reducible refine gate_dst (N := 10) rfl ?_); refine box_event ?hg (N := 10) ?hd (cs := #[.slice A0 (l0.take 2000).length c0, .int .i64 0]) (t := 87) ?hr ?_; (case hd => rfl); (case hg => rfl); (case hr => first | (go_simp; done) | (go_simp; rfl)); intro gb213 hg w5 hbox hb; have n0_ := Aside0.mk (below_step HBW.out hb); have n1_ := Aside0.mk (below_step Q35 hb); have n2_ := Aside0.mk (hbox); have n3_ := Aside0.mk ((by rw [hg]; exact (below_size Q36) : w.heap.size ≤ gb213)); have n4_ := Aside0.mk ((Nat.le_trans HW0.out (by rw [hg]; exact (below_size Q36) : w.heap.size ≤ gb213) : w0.heap.size ≤ gb213)); clear HBW; clear HB; have HBW := n0_; have HB := n1_; have BK213 := n2_; have GW213 := n3_; have GE213 := n4_; clear n0_ n1_ n2_ n3_ n4_; clear hb hbox hg))
   go_ret
   exact ⟨_, rfl, (show IsS87 w0 _ gb213 (l0.take 2000) 0 from ⟨_, _, by (with_reducible repeat (first | refine blk_drewN ?_ _ | refine blk_drew ?_ | refine blk_alloc ?_ _)); exact BK213.out, GE213.out, HR212.out⟩), by repeat (first | (with_reducible first | exact HB.out | apply below_alloc | apply pw_below_drewN | apply below_drew1 | refine below_set ?_ GE213.out) | exact HB.out), by repeat (first | (with_reducible first | exact HBW.out | apply below_alloc | apply pw_below_drewN | apply below_drew1 | refine below_set ?_ GW213.out) | exact HBW.out)⟩
  ·rw [if_neg c3] at H
   exact absurd H Q0
 ·rw [if_neg c2] at H
  have c2b0 : decide (2000 < (l0.length : Int)) = false := decide_eq_false c2
  have c2b1 : decide (2000 < l0.length) = false := decide_eq_false (by omega)
  clear c2
  simp only [Option.some.injEq, Prod.mk.injEq] at H
  obtain ⟨rfl, rfl⟩ := H
  go_enter Try.func50, Try.ntmps50
  go_wp2_with (first | ((with_reducible refine gate_dst (N := 10) rfl ?_); refine box_event ?hg (N := 10) ?hd (cs := #[.slice A0 l0.length c0, .int .i64 0]) (t := 87) ?hr ?_; (case hd => rfl); (case hg => rfl); (case hr => first | (go_simp; done) | (go_simp; rfl)); intro gb214 hg w6 hbox hb; have n0_ := Aside0.mk (below_step HBW.out hb); have n1_ := Aside0.mk (below_step Q35 hb); have n2_ := Aside0.mk (hbox); have n3_ := Aside0.mk ((by rw [hg]; exact (below_size Q36) : w.heap.size ≤ gb214)); have n4_ := Aside0.mk ((Nat.le_trans HW0.out (by rw [hg]; exact (below_size Q36) : w.heap.size ≤ gb214) : w0.heap.size ≤ gb214)); clear HBW; clear HB; have HBW := n0_; have HB := n1_; have BK214 := n2_; have GW214 := n3_; have GE214 := n4_; clear n0_ n1_ n2_ n3_ n4_; clear hb hbox hg))
  go_ret
  exact ⟨_, rfl, (show IsS87 w0 _ gb214 l0 0 from ⟨_, _, by (with_reducible repeat (first | refine blk_drewN ?_ _ | refine blk_drew ?_ | refine blk_alloc ?_ _)); exact BK214.out, GE214.out, HR0.out⟩), by repeat (first | (with_reducible first | exact HB.out | apply below_alloc | apply pw_below_drewN | apply below_drew1 | refine below_set ?_ GE214.out) | exact HB.out), by repeat (first | (with_reducible first | exact HBW.out | apply below_alloc | apply pw_below_drewN | apply below_drew1 | refine below_set ?_ GW214.out) | exact HBW.out)⟩
def spec_l6Rd_pick.j0 : Nat → Int → Bool → List Int → Int → Option (Int × Int)
 | 0, _, _, _, _ => none
 | k + 1, x1, x24, x1000, x1001 => if x24 = true then (some (0, x1001)) else (if (wrap64 (x1001 - 1)) < (x1000.length : Int) then (if 0 ≤ (wrap64 (x1001 - 1)) then (if x1 = 0 then (none) else (some (Int.tmod (wrap64 (rd x1000 (wrap64 (x1001 - 1)))) x1, x1001))) else (none)) else (if (x1000.length : Int) = 0 then (none) else (if 0 ≤ (Int.tmod (wrap64 (x1001 - 1)) (x1000.length : Int)) then (if (Int.tmod (wrap64 (x1001 - 1)) (x1000.length : Int)) < (x1000.length : Int) then (if 0 ≤ (Int.tmod (wrap64 ((wrap64 ((wrap64 (x1001 - 1)) * 7)) + 3)) (x1000.length : Int)) then (if (Int.tmod (wrap64 ((wrap64 ((wrap64 (x1001 - 1)) * 7)) + 3)) (x1000.length : Int)) < (x1000.length : Int) then (if x1 = 0 then (none) else (some (Int.tmod (Go.bits .xor .i64 (wrap64 ((wrap64 ((wrap64 ((wrap64 ((wrap64 (rd x1000 (Int.tmod (wrap64 (x1001 - 1)) (x1000.length : Int)))) * 131)) + (wrap64 ((wrap64 (rd x1000 (Int.tmod (wrap64 ((wrap64 ((wrap64 (x1001 - 1)) * 7)) + 3)) (x1000.length : Int)))) * 1117)))) + (wrap64 ((wrap64 (x1001 - 1)) * 29)))) + (wrap64 ((wrap64 (Int.tdiv (wrap64 (x1001 - 1)) (x1000.length : Int))) * 53)))) (wrap64 (Int.tdiv (wrap64 ((wrap64 ((wrap64 ((wrap64 ((wrap64 (rd x1000 (Int.tmod (wrap64 (x1001 - 1)) (x1000.length : Int)))) * 131)) + (wrap64 ((wrap64 (rd x1000 (Int.tmod (wrap64 ((wrap64 ((wrap64 (x1001 - 1)) * 7)) + 3)) (x1000.length : Int)))) * 1117)))) + (wrap64 ((wrap64 (x1001 - 1)) * 29)))) + (wrap64 ((wrap64 (Int.tdiv (wrap64 (x1001 - 1)) (x1000.length : Int))) * 53)))) 64))) x1, x1001))) else (none)) else (none)) else (none)) else (none))))
def spec_l6Rd_pick.f (k : Nat) (s0_0 : List Int) (s0_1 : Int) (a1 : Int) : Option (Int × Int) := if a1 < 1 then (spec_l6Rd_pick.j0 k a1 true s0_0 (wrap64 (s0_1 + 1))) else (spec_l6Rd_pick.j0 k a1 ((s0_0.length : Int) == 0) s0_0 (wrap64 (s0_1 + 1)))
theorem spec_l6Rd_pick.mono_l : ∀ k, (∀ y0 y1 y2 y3, LeO (spec_l6Rd_pick.j0 k y0 y1 y2 y3) (spec_l6Rd_pick.j0 (k + 1) y0 y1 y2 y3))
 | 0 => fun _ _ _ _ r h => by simp [spec_l6Rd_pick.j0] at h
 | k + 1 => by
  have ih0 := spec_l6Rd_pick.mono_l k
  ·intro y0 y1 y2 y3
   unfold spec_l6Rd_pick.j0
   repeat' first
   | (with_reducible exact ih0 _ _ _ _)
   | (with_reducible exact LeO.refl _)
   | (with_reducible exact LeO.none _)
   | (with_reducible refine LeO.ite ?_ ?_)
   | (with_reducible refine LeO.bind ?_ (fun _ => ?_))
   | exact ih0 _ _ _ _
   | exact LeO.none _
   | refine LeO.ite ?_ ?_
   | refine LeO.bind ?_ (fun _ => ?_)
theorem spec_l6Rd_pick.mono : ∀ a0 a1 a2 k, LeO (spec_l6Rd_pick.f k a0 a1 a2) (spec_l6Rd_pick.f (k + 1) a0 a1 a2) := by
 intro a0 a1 a2 k
 have ih0 := spec_l6Rd_pick.mono_l k
 unfold spec_l6Rd_pick.f
 repeat' first
   | (with_reducible exact ih0 _ _ _ _)
   | (with_reducible exact LeO.refl _)
   | (with_reducible exact LeO.none _)
   | (with_reducible refine LeO.ite ?_ ?_)
   | (with_reducible refine LeO.bind ?_ (fun _ => ?_))
   | exact ih0 _ _ _ _
   | exact LeO.none _
   | refine LeO.ite ?_ ?_
   | refine LeO.bind ?_ (fun _ => ?_)
set_option maxHeartbeats 8000000 in
set_option maxRecDepth 100000 in
theorem spec_l6Rd_pick.calls (k : Nat) (g : Nat) (s0_0 : List Int) (s0_1 : Int) (a1 : Int) (r1 : Int) (r2 : Int) (w0 w : World) (hI : IsS87 w0 w g s0_0 s0_1) (hB : Below w0.heap.size w0 w) (h : spec_l6Rd_pick.f k s0_0 s0_1 a1 = some (r1, r2)) :
  Calls Try.prog 68 #[.pointer (some ⟨g, 0, none⟩), .int .i64 a1] w fun e w' => e = .returned (.int .i64 r1) ∧ IsS87 w0 w' g s0_0 r2 ∧ Below w0.heap.size w0 w' ∧ KeepBut w w' g none := by
 have HI0 := Aside0.mk hI
 have HK := Aside0.mk (KeepBut.refl w g none)
 have HL := Aside0.mk hB.size
 clear hI
 have HW0 := Aside0.mk hB.size
 have HB := Aside0.mk hB
 clear hB
 have H : (if a1 < 1 then (spec_l6Rd_pick.j0 k a1 true s0_0 (wrap64 (s0_1 + 1))) else (spec_l6Rd_pick.j0 k a1 ((s0_0.length : Int) == 0) s0_0 (wrap64 (s0_1 + 1)))) = some (r1, r2) := h
 clear h
 have HC3 := Aside0.mk H
 clear H
 obtain ⟨ASz4_0, cSz4_0, HGz4, hgz4, HSz4_0⟩ := HI0.out
 have hcz4_0 := cellS87_0 HGz4
 have hcz4_1 := cellS87_1 HGz4
 have hfz4_1 := blk_frozen HGz4 1
 clear HGz4 hgz4
 go_enter Try.func68, Try.ntmps68
 go_upto_region 2 with (fail)
 repeat (go_quiet (fail); go_upto_region 2 with (fail))
 go_cut [24] (fun v24 wc => ∃ (kq : Nat) (x24_2 : Bool), v24 = .bool x24_2 ∧ Aside0 (spec_l6Rd_pick.j0 kq a1 x24_2 s0_0 (wrap64 (s0_1 + 1)) = some (r1, r2)) ∧ Aside0 (kq ≤ k) ∧ Aside0 (IsS87 w0 wc g s0_0 (wrap64 (s0_1 + 1))) ∧ Aside0 (KeepBut w wc g none) ∧ Aside0 (Below w0.heap.size w0 wc))
 case first =>
  have H := HC3.out
  clear HC3
  by_cases c5 : a1 < 1
  ·rw [if_pos c5] at H
   have c5b0 : decide (a1 < 1) = true := decide_eq_true c5
   clear c5
   (first | rw [c5b0] | (simp only [i64_w, i32_w]; rw [c5b0]) | skip)
   have H' := Aside0.mk H
   clear H
   go_wp2
   repeat (go_quiet (fail); try go_wp2)
   go_meet
   case rel => exact ⟨_, (true), Q6, H', ⟨Q4⟩, ⟨Q40⟩, ⟨Q39⟩, ⟨Q55⟩⟩
  ·rw [if_neg c5] at H
   have c5b0 : decide (a1 < 1) = false := decide_eq_false c5
   clear c5
   (first | rw [c5b0] | (simp only [i64_w, i32_w]; rw [c5b0]) | skip)
   have H' := Aside0.mk H
   clear H
   obtain ⟨ASz6_0, cSz6_0, HGz6, hgz6, HSz6_0⟩ := HI0.out
   have hcz6_0 := cellS87_0 HGz6
   have hcz6_1 := cellS87_1 HGz6
   have hfz6_1 := blk_frozen HGz6 1
   clear HGz6 hgz6
   go_wp2
   repeat (go_quiet (fail); try go_wp2)
   go_meet
   case rel => exact ⟨_, (((s0_0.length : Int) == 0)), Q6, H', ⟨Q4⟩, ⟨Q40⟩, ⟨Q39⟩, ⟨Q55⟩⟩
 case rest =>
  clear HC3
  try clear p2
  try clear c5
  try clear c5b0
  try clear c6
  try clear p6
  try clear hcz4_0
  try clear hcz4_1
  try clear hcz6_0
  try clear hcz6_1
  try clear hfz4_1
  try clear hfz6_1
  obtain ⟨kq, x24_2, rfl, HA, HJ2, HI0, HK, HB⟩ := hcut
  cases kq with
  | zero => exact absurd HA.out (by simp [spec_l6Rd_pick.j0])
  | succ kj2 =>
   have H := HA.out
   clear HA
   simp only [spec_l6Rd_pick.j0] at H
   by_cases c7 : x24_2 = true
   ·subst c7
    have H1 : (some (0, (wrap64 (s0_1 + 1)))) = some (r1, r2) := by rw [if_pos rfl] at H; exact H
    clear H
    have H := H1
    clear H1
    simp only [Option.some.injEq, Prod.mk.injEq] at H
    obtain ⟨rfl, rfl⟩ := H
    go_wp2
    repeat (go_quiet (fail); try go_wp2)
    go_ret
    exact ⟨Q10, Q40, Q55, Q39⟩
   ·replace c7 := Bool.eq_false_iff.mpr c7
    subst c7
    have H1 : (if (wrap64 ((wrap64 (s0_1 + 1)) - 1)) < (s0_0.length : Int) then (if 0 ≤ (wrap64 ((wrap64 (s0_1 + 1)) - 1)) then (if a1 = 0 then (none) else (some (Int.tmod (wrap64 (rd s0_0 (wrap64 ((wrap64 (s0_1 + 1)) - 1)))) a1, (wrap64 (s0_1 + 1))))) else (none)) else (if (s0_0.length : Int) = 0 then (none) else (if 0 ≤ (Int.tmod (wrap64 ((wrap64 (s0_1 + 1)) - 1)) (s0_0.length : Int)) then (if (Int.tmod (wrap64 ((wrap64 (s0_1 + 1)) - 1)) (s0_0.length : Int)) < (s0_0.length : Int) then (if 0 ≤ (Int.tmod (wrap64 ((wrap64 ((wrap64 ((wrap64 (s0_1 + 1)) - 1)) * 7)) + 3)) (s0_0.length : Int)) then (if (Int.tmod (wrap64 ((wrap64 ((wrap64 ((wrap64 (s0_1 + 1)) - 1)) * 7)) + 3)) (s0_0.length : Int)) < (s0_0.length : Int) then (if a1 = 0 then (none) else (some (Int.tmod (Go.bits .xor .i64 (wrap64 ((wrap64 ((wrap64 ((wrap64 ((wrap64 (rd s0_0 (Int.tmod (wrap64 ((wrap64 (s0_1 + 1)) - 1)) (s0_0.length : Int)))) * 131)) + (wrap64 ((wrap64 (rd s0_0 (Int.tmod (wrap64 ((wrap64 ((wrap64 ((wrap64 (s0_1 + 1)) - 1)) * 7)) + 3)) (s0_0.length : Int)))) * 1117)))) + (wrap64 ((wrap64 ((wrap64 (s0_1 + 1)) - 1)) * 29)))) + (wrap64 ((wrap64 (Int.tdiv (wrap64 ((wrap64 (s0_1 + 1)) - 1)) (s0_0.length : Int))) * 53)))) (wrap64 (Int.tdiv (wrap64 ((wrap64 ((wrap64 ((wrap64 ((wrap64 (rd s0_0 (Int.tmod (wrap64 ((wrap64 (s0_1 + 1)) - 1)) (s0_0.length : Int)))) * 131)) + (wrap64 ((wrap64 (rd s0_0 (Int.tmod (wrap64 ((wrap64 ((wrap64 ((wrap64 (s0_1 + 1)) - 1)) * 7)) + 3)) (s0_0.length : Int)))) * 1117)))) + (wrap64 ((wrap64 ((wrap64 (s0_1 + 1)) - 1)) * 29)))) + (wrap64 ((wrap64 (Int.tdiv (wrap64 ((wrap64 (s0_1 + 1)) - 1)) (s0_0.length : Int))) * 53)))) 64))) a1, (wrap64 (s0_1 + 1))))) else (none)) else (none)) else (none)) else (none)))) = some (r1, r2) := by rw [if_neg (show ¬ (false = true) by decide)] at H; exact H
    clear H
    have H := H1
    clear H1
    by_cases c8 : (wrap64 ((wrap64 (s0_1 + 1)) - 1)) < (s0_0.length : Int)
    ·rw [if_pos c8] at H
     have c8b0 : decide ((wrap64 ((wrap64 (s0_1 + 1)) - 1)) < (s0_0.length : Int)) = true := decide_eq_true c8
     clear c8
     obtain ⟨ji9, hji9⟩ : ∃ j_ : Int, (wrap64 ((wrap64 (s0_1 + 1)) - 1)) = j_ := ⟨_, rfl⟩
     replace H : (if 0 ≤ (ji9) then (if a1 = 0 then (none) else (some (Int.tmod (wrap64 (rd s0_0 (ji9))) a1, (wrap64 (s0_1 + 1))))) else (none)) = some (r1, r2) := by first | (rw [hji9] at H; exact H) | (simp only [hji9] at H ⊢; exact H)
     (try rw [hji9] at c8b0)
     have hji9w : (IntKind.i64.wrap ((wrap64 (s0_1 + 1)) - 1)) = ji9 := (i64_w _).trans hji9
     by_cases c10 : 0 ≤ (ji9)
     ·rw [if_pos c10] at H
      have c10b0 : decide (0 ≤ (ji9)) = true := decide_eq_true c10
      clear c10
      by_cases c11 : a1 = 0
      ·rw [if_pos c11] at H
       exact absurd H Q0
      ·rw [if_neg c11] at H
       have c11b0 : (a1 == 0) = false := beq_eq_false_iff_ne.mpr c11
       have c11b1 : (a1 != 0) = true := bne_iff_ne.mpr c11
       simp only [Option.some.injEq, Prod.mk.injEq] at H
       obtain ⟨rfl, rfl⟩ := H
       obtain ⟨ASz12_0, cSz12_0, HGz12, hgz12, HSz12_0⟩ := HI0.out
       have hcz12_0 := cellS87_0 HGz12
       have hcz12_1 := cellS87_1 HGz12
       have hfz12_1 := blk_frozen HGz12 1
       clear HGz12 hgz12
       have p215 : 0 ≤ ((ji9) : Int) := of_decide_eq_true Q7
       have q215 : (ji9) < (s0_0.length : Int) := of_decide_eq_true Q7
       obtain ⟨ad215, e215, hx215_0⟩ := Kd.at_int HSz12_0 (ji9) p215 q215
       cases e215
       replace hx215_0 := pw_cell_below HB.out hx215_0
       replace p215 := eq_true p215
       replace q215 := eq_true q215
       go_wp2
       repeat (go_quiet (fail); try go_wp2)
       go_ret
       exact ⟨by first | rfl | (simp [errW_none, errW_some] <;> rfl) | (simp only [← hji9]; first | rfl | (simp [errW_none, errW_some] <;> rfl)) | (simp [*, errW_none, errW_some] <;> rfl), Q40, Q55, Q39⟩
     ·rw [if_neg c10] at H
      exact absurd H Q0
    ·rw [if_neg c8] at H
     have c8b0 : decide ((wrap64 ((wrap64 (s0_1 + 1)) - 1)) < (s0_0.length : Int)) = false := decide_eq_false c8
     clear c8
     by_cases c13 : (s0_0.length : Int) = 0
     ·rw [if_pos c13] at H
      exact absurd H Q0
     ·rw [if_neg c13] at H
      have c13b0 : ((s0_0.length : Int) == 0) = false := beq_eq_false_iff_ne.mpr c13
      have c13b1 : ((s0_0.length : Int) != 0) = true := bne_iff_ne.mpr c13
      have c13b2 : ¬ (s0_0 = []) := fun h_ => c13 (by rw [h_]; rfl)
      obtain ⟨ji14, hji14⟩ : ∃ j_ : Int, (Int.tmod (wrap64 ((wrap64 (s0_1 + 1)) - 1)) (s0_0.length : Int)) = j_ := ⟨_, rfl⟩
      replace H : (if 0 ≤ (ji14) then (if (ji14) < (s0_0.length : Int) then (if 0 ≤ (Int.tmod (wrap64 ((wrap64 ((wrap64 ((wrap64 (s0_1 + 1)) - 1)) * 7)) + 3)) (s0_0.length : Int)) then (if (Int.tmod (wrap64 ((wrap64 ((wrap64 ((wrap64 (s0_1 + 1)) - 1)) * 7)) + 3)) (s0_0.length : Int)) < (s0_0.length : Int) then (if a1 = 0 then (none) else (some (Int.tmod (Go.bits .xor .i64 (wrap64 ((wrap64 ((wrap64 ((wrap64 ((wrap64 (rd s0_0 (ji14))) * 131)) + (wrap64 ((wrap64 (rd s0_0 (Int.tmod (wrap64 ((wrap64 ((wrap64 ((wrap64 (s0_1 + 1)) - 1)) * 7)) + 3)) (s0_0.length : Int)))) * 1117)))) + (wrap64 ((wrap64 ((wrap64 (s0_1 + 1)) - 1)) * 29)))) + (wrap64 ((wrap64 (Int.tdiv (wrap64 ((wrap64 (s0_1 + 1)) - 1)) (s0_0.length : Int))) * 53)))) (wrap64 (Int.tdiv (wrap64 ((wrap64 ((wrap64 ((wrap64 ((wrap64 (rd s0_0 (ji14))) * 131)) + (wrap64 ((wrap64 (rd s0_0 (Int.tmod (wrap64 ((wrap64 ((wrap64 ((wrap64 (s0_1 + 1)) - 1)) * 7)) + 3)) (s0_0.length : Int)))) * 1117)))) + (wrap64 ((wrap64 ((wrap64 (s0_1 + 1)) - 1)) * 29)))) + (wrap64 ((wrap64 (Int.tdiv (wrap64 ((wrap64 (s0_1 + 1)) - 1)) (s0_0.length : Int))) * 53)))) 64))) a1, (wrap64 (s0_1 + 1))))) else (none)) else (none)) else (none)) else (none)) = some (r1, r2) := by first | (rw [hji14] at H; exact H) | (simp only [hji14] at H ⊢; exact H)
      by_cases c15 : 0 ≤ (ji14)
      ·rw [if_pos c15] at H
       have c15b0 : decide (0 ≤ (ji14)) = true := decide_eq_true c15
       clear c15
       by_cases c16 : (ji14) < (s0_0.length : Int)
       ·rw [if_pos c16] at H
        have c16b0 : decide ((ji14) < (s0_0.length : Int)) = true := decide_eq_true c16
        clear c16
        obtain ⟨ji17, hji17⟩ : ∃ j_ : Int, (Int.tmod (wrap64 ((wrap64 ((wrap64 ((wrap64 (s0_1 + 1)) - 1)) * 7)) + 3)) (s0_0.length : Int)) = j_ := ⟨_, rfl⟩
        replace H : (if 0 ≤ (ji17) then (if (ji17) < (s0_0.length : Int) then (if a1 = 0 then (none) else (some (Int.tmod (Go.bits .xor .i64 (wrap64 ((wrap64 ((wrap64 ((wrap64 ((wrap64 (rd s0_0 (ji14))) * 131)) + (wrap64 ((wrap64 (rd s0_0 (ji17))) * 1117)))) + (wrap64 ((wrap64 ((wrap64 (s0_1 + 1)) - 1)) * 29)))) + (wrap64 ((wrap64 (Int.tdiv (wrap64 ((wrap64 (s0_1 + 1)) - 1)) (s0_0.length : Int))) * 53)))) (wrap64 (Int.tdiv (wrap64 ((wrap64 ((wrap64 ((wrap64 ((wrap64 (rd s0_0 (ji14))) * 131)) + (wrap64 ((wrap64 (rd s0_0 (ji17))) * 1117)))) + (wrap64 ((wrap64 ((wrap64 (s0_1 + 1)) - 1)) * 29)))) + (wrap64 ((wrap64 (Int.tdiv (wrap64 ((wrap64 (s0_1 + 1)) - 1)) (s0_0.length : Int))) * 53)))) 64))) a1, (wrap64 (s0_1 + 1))))) else (none)) else (none)) = some (r1, r2) := by first | (rw [hji17] at H; exact H) | (simp only [hji17] at H ⊢; exact H)
        by_cases c18 : 0 ≤ (ji17)
        ·rw [if_pos c18] at H
         have c18b0 : decide (0 ≤ (ji17)) = true := decide_eq_true c18
         clear c18
         by_cases c19 : (ji17) < (s0_0.length : Int)
         ·rw [if_pos c19] at H
          have c19b0 : decide ((ji17) < (s0_0.length : Int)) = true := decide_eq_true c19
          clear c19
          by_cases c20 : a1 = 0
          ·rw [if_pos c20] at H
           exact absurd H Q0
          ·rw [if_neg c20] at H
           have c20b0 : (a1 == 0) = false := beq_eq_false_iff_ne.mpr c20
           have c20b1 : (a1 != 0) = true := bne_iff_ne.mpr c20
           simp only [Option.some.injEq, Prod.mk.injEq] at H
           obtain ⟨rfl, rfl⟩ := H
           obtain ⟨ASz21_0, cSz21_0, HGz21, hgz21, HSz21_0⟩ := HI0.out
           have hcz21_0 := cellS87_0 HGz21
           have hcz21_1 := cellS87_1 HGz21
           have hfz21_1 := blk_frozen HGz21 1
           clear HGz21 hgz21
           have p216 : 0 ≤ ((ji14) : Int) := of_decide_eq_true Q7
           have q216 : (ji14) < (s0_0.length : Int) := of_decide_eq_true Q7
           obtain ⟨ad216, e216, hx216_0⟩ := Kd.at_int HSz21_0 (ji14) p216 q216
           cases e216
           replace hx216_0 := pw_cell_below HB.out hx216_0
           replace p216 := eq_true p216
           replace q216 := eq_true q216
           have p217 : 0 ≤ ((ji17) : Int) := of_decide_eq_true Q7
           have q217 : (ji17) < (s0_0.length : Int) := of_decide_eq_true Q7
           obtain ⟨ad217, e217, hx217_0⟩ := Kd.at_int HSz21_0 (ji17) p217 q217
           obtain rfl : ad216 = ad217 := (by injection e217)
           replace hx217_0 := pw_cell_below HB.out hx217_0
           replace p217 := eq_true p217
           replace q217 := eq_true q217
           go_wp2
           repeat (go_quiet (fail); try go_wp2)
           go_ret
           exact ⟨by first | rfl | (simp [errW_none, errW_some] <;> rfl) | (simp only [← hji14, ← hji17]; first | rfl | (simp [errW_none, errW_some] <;> rfl)) | (simp [*, errW_none, errW_some] <;> rfl), Q40, Q55, Q39⟩
         ·rw [if_neg c19] at H
          exact absurd H Q0
        ·rw [if_neg c18] at H
         exact absurd H Q0
       ·rw [if_neg c16] at H
        exact absurd H Q0
      ·rw [if_neg c15] at H
       exact absurd H Q0
def spec_l71Time.f (k : Nat) (s0_0 : List Int) (s0_1 : Int) : Option (Int × Int × Int) := (spec_l6Rd_pick.f k s0_0 s0_1 10).bind fun bt219 => (if bt219.1 = 0 then ((spec_l6Rd_pick.f k s0_0 bt219.2 8).bind fun bt221 => ((spec_l6Rd_pick.f k s0_0 bt221.2 8).bind fun bt223 => (some (bt221.1, bt223.1, bt223.2)))) else ((spec_l6Rd_pick.f k s0_0 bt219.2 4).bind fun bt225 => ((spec_l6Rd_pick.f k s0_0 bt225.2 4).bind fun bt227 => (some (bt225.1, bt227.1, bt227.2)))))
theorem spec_l71Time.mono : ∀ a0 a1 k, LeO (spec_l71Time.f k a0 a1) (spec_l71Time.f (k + 1) a0 a1) := by
 intro a0 a1 k
 unfold spec_l71Time.f
 repeat' first
   | (with_reducible exact spec_l6Rd_pick.mono _ _ _ _)
   | (with_reducible exact LeO.refl _)
   | (with_reducible exact LeO.none _)
   | (with_reducible refine LeO.ite ?_ ?_)
   | (with_reducible refine LeO.bind ?_ (fun _ => ?_))
   | exact spec_l6Rd_pick.mono _ _ _ _
   | exact LeO.none _
   | refine LeO.ite ?_ ?_
   | refine LeO.bind ?_ (fun _ => ?_)
set_option maxHeartbeats 8000000 in
set_option maxRecDepth 100000 in
theorem spec_l71Time.calls (k : Nat) (g : Nat) (s0_0 : List Int) (s0_1 : Int) (r1 : Int) (r2 : Int) (r3 : Int) (w0 w : World) (hI : IsS87 w0 w g s0_0 s0_1) (hB : Below w0.heap.size w0 w) (h : spec_l71Time.f k s0_0 s0_1 = some (r1, r2, r3)) :
  Calls Try.prog 92 #[.pointer (some ⟨g, 0, none⟩)] w fun e w' => e = .returned (.agg #[.int .i64 r1, .int .i64 r2]) ∧ IsS87 w0 w' g s0_0 r3 ∧ Below w0.heap.size w0 w' ∧ KeepBut w w' g none := by
 have hu36 := Try.underlying36
 have HI0 := Aside0.mk hI
 have HK := Aside0.mk (KeepBut.refl w g none)
 have HL := Aside0.mk hB.size
 clear hI
 have HW0 := Aside0.mk hB.size
 have HB := Aside0.mk hB
 clear hB
 have H : ((spec_l6Rd_pick.f k s0_0 s0_1 10).bind fun bt219 => (if bt219.1 = 0 then ((spec_l6Rd_pick.f k s0_0 bt219.2 8).bind fun bt221 => ((spec_l6Rd_pick.f k s0_0 bt221.2 8).bind fun bt223 => (some (bt221.1, bt223.1, bt223.2)))) else ((spec_l6Rd_pick.f k s0_0 bt219.2 4).bind fun bt225 => ((spec_l6Rd_pick.f k s0_0 bt225.2 4).bind fun bt227 => (some (bt225.1, bt227.1, bt227.2)))))) = some (r1, r2, r3) := h
 clear h
 replace H := Option.bind_eq_some_iff.mp H
 obtain ⟨⟨t219, t220⟩, A20, H⟩ := H
 replace H : (if t219 = 0 then ((spec_l6Rd_pick.f k s0_0 t220 8).bind fun bt221 => ((spec_l6Rd_pick.f k s0_0 bt221.2 8).bind fun bt223 => (some (bt221.1, bt223.1, bt223.2)))) else ((spec_l6Rd_pick.f k s0_0 t220 4).bind fun bt225 => ((spec_l6Rd_pick.f k s0_0 bt225.2 4).bind fun bt227 => (some (bt225.1, bt227.1, bt227.2))))) = some (r1, r2, r3) := H
 have A2 := Aside0.mk A20
 clear A20
 by_cases c3 : t219 = 0
 ·rw [if_pos c3] at H
  have c3b0 : (t219 == 0) = true := beq_iff_eq.mpr c3
  have c3b1 : (t219 != 0) = false := bne_eq_false_iff_eq.mpr c3
  clear c3
  replace H := Option.bind_eq_some_iff.mp H
  obtain ⟨⟨t221, t222⟩, A40, H⟩ := H
  replace H : ((spec_l6Rd_pick.f k s0_0 t222 8).bind fun bt223 => (some (t221, bt223.1, bt223.2))) = some (r1, r2, r3) := H
  have A4 := Aside0.mk A40
  clear A40
  replace H := Option.bind_eq_some_iff.mp H
  obtain ⟨⟨t223, t224⟩, A50, H⟩ := H
  replace H : (some (t221, t223, t224)) = some (r1, r2, r3) := H
  have A5 := Aside0.mk A50
  clear A50
  simp only [Option.some.injEq, Prod.mk.injEq] at H
  obtain ⟨rfl, rfl, rfl⟩ := H
  go_enter Try.func92, Try.ntmps92
  go_wp2_with (first | ((with_reducible refine gate_dst (N := 2) rfl ?_); refine box_event ?hg (N := 2) ?hd (cs := #[.int .i64 0, .int .i64 0]) (t := 36) ?hr ?_; (case hd => rfl); (case hg => rfl); (case hr => first | (go_simp; done) | (go_simp; rfl)); intro gb218 hg w6 hbox hb; have n0_ := Aside0.mk (IsS87.below Q40 hb); have n1_ := Aside0.mk (KeepBut.trans Q39 (KeepBut.of_below hb g none) (.inl rfl)); have n2_ := Aside0.mk (below_step Q55 hb); have n3_ := Aside0.mk (hbox); have n4_ := Aside0.mk ((Q86 : w.heap.size ≤ gb218)); have n5_ := Aside0.mk ((Nat.le_trans HW0.out (Q86 : w.heap.size ≤ gb218) : w0.heap.size ≤ gb218)); have n6_ := Aside0.mk ((by rw [hg]; exact Nat.ne_of_lt (IsS87.lt (show IsS87 w0 _ g s0_0 s0_1 from by repeat (first | (with_reducible first | exact HI0.out | apply IsS87.alloc | apply IsS87.drewN | apply IsS87.drew | apply IsS87.set_1) | exact HI0.out))) : g ≠ gb218)); have n7_ := Aside0.mk ((by rw [hg]; exact Nat.ne_of_gt (IsS87.lt (show IsS87 w0 _ g s0_0 s0_1 from by repeat (first | (with_reducible first | exact HI0.out | apply IsS87.alloc | apply IsS87.drewN | apply IsS87.drew | apply IsS87.set_1) | exact HI0.out))) : gb218 ≠ g)); clear HI0; clear HK; clear HB; have HI0 := n0_; have HK := n1_; have HB := n2_; have BK218 := n3_; have GW218 := n4_; have GE218 := n5_; have NB0_218 := n6_; have NB218_0 := n7_; clear n0_ n1_ n2_ n3_ n4_ n5_ n6_ n7_; clear hb hbox hg) | ((with_reducible refine gate_callee (f := 68) rfl ?_); refine goesL_ (some 4) rfl rfl Try.func68 Q2 rfl #[.pointer (some ⟨g, 0, none⟩), .int .i64 10] rfl Q37 ?_; (with_reducible refine (spec_l6Rd_pick.calls k g s0_0 s0_1 10 t219 t220 w0 _ ?side1 ?side2 A2.out).mono ?_); (case side1 => exact Q63); (case side2 => exact Q70); rintro e w7 ⟨rfl, hi, hb, hk⟩; refine ⟨_, rfl, ?_⟩; have n0_ := Aside0.mk (KeepBut.blk hk (g' := gb218) (o := .cells #[.int .i64 0, .int .i64 0] 36 (0, 0)) Q29 NB218_0.out Q0); have n1_ := Aside0.mk (KeepBut.trans Q59 hk (.inl rfl)); have n2_ := Aside0.mk (hb); have n3_ := Aside0.mk (hi); clear BK218; clear HK; clear HB; clear HI0; have BK218 := n0_; have HK := n1_; have HB := n2_; have HI0 := n3_; clear n0_ n1_ n2_ n3_; (try clear hb); (try clear hb2); (try clear hk); (try clear hi)) | ((with_reducible refine gate_callee (f := 68) rfl ?_); refine goesL_ (some 7) rfl rfl Try.func68 Q2 rfl #[.pointer (some ⟨g, 0, none⟩), .int .i64 8] rfl Q37 ?_; (with_reducible refine (spec_l6Rd_pick.calls k g s0_0 t220 8 t221 t222 w0 _ ?side1 ?side2 A4.out).mono ?_); (case side1 => exact Q63); (case side2 => exact Q70); rintro e w8 ⟨rfl, hi, hb, hk⟩; refine ⟨_, rfl, ?_⟩; have n0_ := Aside0.mk (KeepBut.blk hk (g' := gb218) (o := .cells #[.int .i64 0, .int .i64 0] 36 (0, 0)) Q29 NB218_0.out Q0); have n1_ := Aside0.mk (KeepBut.trans Q59 hk (.inl rfl)); have n2_ := Aside0.mk (hb); have n3_ := Aside0.mk (hi); clear BK218; clear HK; clear HB; clear HI0; have BK218 := n0_; have HK := n1_; have HB := n2_; have HI0 := n3_; clear n0_ n1_ n2_ n3_; (try clear hb); (try clear hb2); (try clear hk); (try clear hi)) | ((with_reducible refine gate_callee (f := 68) rfl ?_); refine goesL_ (some 9) rfl rfl Try.func68 Q2 rfl #[.pointer (some ⟨g, 0, none⟩), .int .i64 8] rfl Q37 ?_; (with_reducible refine (spec_l6Rd_pick.calls k g s0_0 t222 8 t223 t224 w0 _ ?side1 ?side2 A5.out).mono ?_); (case side1 => exact Q63); (case side2 => exact Q70); rintro e w9 ⟨rfl, hi, hb, hk⟩; refine ⟨_, rfl, ?_⟩; have n0_ := Aside0.mk (KeepBut.blk hk (g' := gb218) (o := .cells #[.int .i64 0, .int .i64 0] 36 (0, 0)) Q29 NB218_0.out Q0); have n1_ := Aside0.mk (KeepBut.trans Q59 hk (.inl rfl)); have n2_ := Aside0.mk (hb); have n3_ := Aside0.mk (hi); clear BK218; clear HK; clear HB; clear HI0; have BK218 := n0_; have HK := n1_; have HB := n2_; have HI0 := n3_; clear n0_ n1_ n2_ n3_; (try clear hb); (try clear hb2); (try clear hk); (try clear hi); have hnb10 := NB218_0.out; have hnc10 := NB0_218.out; obtain ⟨hcz11_0, hcz11_1, hfz11_0, hfz11_1⟩ := bx2_ BK218))
  refine bodyPost_ret (results_cell_row rfl _ _ gb218 36 #[.int .i64 t221, .int .i64 t223] (0, 0) _ rfl (by (with_reducible repeat (first | refine blk_drewN ?_ _ | refine blk_drew ?_ | refine blk_alloc ?_ _)); refine blk_put (cs := #[.int .i64 t221, .int .i64 0]) ?_ 1 _ rfl; (with_reducible repeat (first | refine blk_drewN ?_ _ | refine blk_drew ?_ | refine blk_alloc ?_ _)); refine blk_put (cs := #[.int .i64 0, .int .i64 0]) ?_ 0 _ rfl; (with_reducible repeat (first | refine blk_drewN ?_ _ | refine blk_drew ?_ | refine blk_alloc ?_ _)); exact BK218.out) Try.underlying36 rfl Q2) rfl ?_
  exact ⟨Q10, Q63, Q70, Q59⟩
 ·rw [if_neg c3] at H
  have c3b0 : (t219 == 0) = false := beq_eq_false_iff_ne.mpr c3
  have c3b1 : (t219 != 0) = true := bne_iff_ne.mpr c3
  replace H := Option.bind_eq_some_iff.mp H
  obtain ⟨⟨t225, t226⟩, A120, H⟩ := H
  replace H : ((spec_l6Rd_pick.f k s0_0 t226 4).bind fun bt227 => (some (t225, bt227.1, bt227.2))) = some (r1, r2, r3) := H
  have A12 := Aside0.mk A120
  clear A120
  replace H := Option.bind_eq_some_iff.mp H
  obtain ⟨⟨t227, t228⟩, A130, H⟩ := H
  replace H : (some (t225, t227, t228)) = some (r1, r2, r3) := H
  have A13 := Aside0.mk A130
  clear A130
  simp only [Option.some.injEq, Prod.mk.injEq] at H
  obtain ⟨rfl, rfl, rfl⟩ := H
  go_enter Try.func92, Try.ntmps92
  go_wp2_with (first | ((with_reducible refine gate_dst (N := 2) rfl ?_); refine box_event ?hg (N := 2) ?hd (cs := #[.int .i64 0, .int .i64 0]) (t := 36) ?hr ?_; (case hd => rfl); (case hg => rfl); (case hr => first | (go_simp; done) | (go_simp; rfl)); intro gb218 hg w14 hbox hb; have n0_ := Aside0.mk (IsS87.below Q40 hb); have n1_ := Aside0.mk (KeepBut.trans Q39 (KeepBut.of_below hb g none) (.inl rfl)); have n2_ := Aside0.mk (below_step Q55 hb); have n3_ := Aside0.mk (hbox); have n4_ := Aside0.mk ((Q86 : w.heap.size ≤ gb218)); have n5_ := Aside0.mk ((Nat.le_trans HW0.out (Q86 : w.heap.size ≤ gb218) : w0.heap.size ≤ gb218)); have n6_ := Aside0.mk ((by rw [hg]; exact Nat.ne_of_lt (IsS87.lt (show IsS87 w0 _ g s0_0 s0_1 from by repeat (first | (with_reducible first | exact HI0.out | apply IsS87.alloc | apply IsS87.drewN | apply IsS87.drew | apply IsS87.set_1) | exact HI0.out))) : g ≠ gb218)); have n7_ := Aside0.mk ((by rw [hg]; exact Nat.ne_of_gt (IsS87.lt (show IsS87 w0 _ g s0_0 s0_1 from by repeat (first | (with_reducible first | exact HI0.out | apply IsS87.alloc | apply IsS87.drewN | apply IsS87.drew | apply IsS87.set_1) | exact HI0.out))) : gb218 ≠ g)); clear HI0; clear HK; clear HB; have HI0 := n0_; have HK := n1_; have HB := n2_; have BK218 := n3_; have GW218 := n4_; have GE218 := n5_; have NB0_218 := n6_; have NB218_0 := n7_; clear n0_ n1_ n2_ n3_ n4_ n5_ n6_ n7_; clear hb hbox hg) | ((with_reducible refine gate_callee (f := 68) rfl ?_); refine goesL_ (some 4) rfl rfl Try.func68 Q2 rfl #[.pointer (some ⟨g, 0, none⟩), .int .i64 10] rfl Q37 ?_; (with_reducible refine (spec_l6Rd_pick.calls k g s0_0 s0_1 10 t219 t220 w0 _ ?side1 ?side2 A2.out).mono ?_); (case side1 => exact Q63); (case side2 => exact Q70); rintro e w15 ⟨rfl, hi, hb, hk⟩; refine ⟨_, rfl, ?_⟩; have n0_ := Aside0.mk (KeepBut.blk hk (g' := gb218) (o := .cells #[.int .i64 0, .int .i64 0] 36 (0, 0)) Q29 NB218_0.out Q0); have n1_ := Aside0.mk (KeepBut.trans Q59 hk (.inl rfl)); have n2_ := Aside0.mk (hb); have n3_ := Aside0.mk (hi); clear BK218; clear HK; clear HB; clear HI0; have BK218 := n0_; have HK := n1_; have HB := n2_; have HI0 := n3_; clear n0_ n1_ n2_ n3_; (try clear hb); (try clear hb2); (try clear hk); (try clear hi)) | ((with_reducible refine gate_callee (f := 68) rfl ?_); refine goesL_ (some 12) rfl rfl Try.func68 Q2 rfl #[.pointer (some ⟨g, 0, none⟩), .int .i64 4] rfl Q37 ?_; (with_reducible refine (spec_l6Rd_pick.calls k g s0_0 t220 4 t225 t226 w0 _ ?side1 ?side2 A12.out).mono ?_); (case side1 => exact Q63); (case side2 => exact Q70); rintro e w16 ⟨rfl, hi, hb, hk⟩; refine ⟨_, rfl, ?_⟩; have n0_ := Aside0.mk (KeepBut.blk hk (g' := gb218) (o := .cells #[.int .i64 0, .int .i64 0] 36 (0, 0)) Q29 NB218_0.out Q0); have n1_ := Aside0.mk (KeepBut.trans Q59 hk (.inl rfl)); have n2_ := Aside0.mk (hb); have n3_ := Aside0.mk (hi); clear BK218; clear HK; clear HB; clear HI0; have BK218 := n0_; have HK := n1_; have HB := n2_; have HI0 := n3_; clear n0_ n1_ n2_ n3_; (try clear hb); (try clear hb2); (try clear hk); (try clear hi)) | ((with_reducible refine gate_callee (f := 68) rfl ?_); refine goesL_ (some 14) rfl rfl Try.func68 Q2 rfl #[.pointer (some ⟨g, 0, none⟩), .int .i64 4] rfl Q37 ?_; (with_reducible refine (spec_l6Rd_pick.calls k g s0_0 t226 4 t227 t228 w0 _ ?side1 ?side2 A13.out).mono ?_); (case side1 => exact Q63); (case side2 => exact Q70); rintro e w17 ⟨rfl, hi, hb, hk⟩; refine ⟨_, rfl, ?_⟩; have n0_ := Aside0.mk (KeepBut.blk hk (g' := gb218) (o := .cells #[.int .i64 0, .int .i64 0] 36 (0, 0)) Q29 NB218_0.out Q0); have n1_ := Aside0.mk (KeepBut.trans Q59 hk (.inl rfl)); have n2_ := Aside0.mk (hb); have n3_ := Aside0.mk (hi); clear BK218; clear HK; clear HB; clear HI0; have BK218 := n0_; have HK := n1_; have HB := n2_; have HI0 := n3_; clear n0_ n1_ n2_ n3_; (try clear hb); (try clear hb2); (try clear hk); (try clear hi); have hnb18 := NB218_0.out; have hnc18 := NB0_218.out; obtain ⟨hcz19_0, hcz19_1, hfz19_0, hfz19_1⟩ := bx2_ BK218))
  refine bodyPost_ret (results_cell_row rfl _ _ gb218 36 #[.int .i64 t225, .int .i64 t227] (0, 0) _ rfl (by (with_reducible repeat (first | refine blk_drewN ?_ _ | refine blk_drew ?_ | refine blk_alloc ?_ _)); refine blk_put (cs := #[.int .i64 t225, .int .i64 0]) ?_ 1 _ rfl; (with_reducible repeat (first | refine blk_drewN ?_ _ | refine blk_drew ?_ | refine blk_alloc ?_ _)); refine blk_put (cs := #[.int .i64 0, .int .i64 0]) ?_ 0 _ rfl; (with_reducible repeat (first | refine blk_drewN ?_ _ | refine blk_drew ?_ | refine blk_alloc ?_ _)); exact BK218.out) Try.underlying36 rfl Q2) rfl ?_
  exact ⟨Q10, Q63, Q70, Q59⟩
def spec_l71Row.f (k : Nat) (s0_0 : List Int) (s0_1 : Int) : Option (Int × Int × Int × Int × Int × Int) := (spec_l6Rd_pick.f k s0_0 s0_1 4).bind fun bt230 => ((some (([0, 1, 2, 3, 4, 9, 10, 57, 99] : List Int) : List Int)).bind fun y232 => ((spec_l6Rd_pick.f k s0_0 bt230.2 9).bind fun bt235 => (if 0 ≤ bt235.1 then (if bt235.1 < (y232.length : Int) then ((spec_l71Time.f k s0_0 bt235.2).bind fun bt238 => ((some (([1, 1, 1, 2, (-1), (-1), 3, 0] : List Int) : List Int)).bind fun y241 => ((spec_l6Rd_pick.f k s0_0 bt238.2.2 8).bind fun bt244 => (if 0 ≤ bt244.1 then (if bt244.1 < (y241.length : Int) then (some (bt230.1, rd y232 bt235.1, bt238.1, bt238.2.1, rd y241 bt244.1, bt244.2)) else (none)) else (none))))) else (none)) else (none))))
theorem spec_l71Row.mono : ∀ a0 a1 k, LeO (spec_l71Row.f k a0 a1) (spec_l71Row.f (k + 1) a0 a1) := by
 intro a0 a1 k
 unfold spec_l71Row.f
 repeat' first
   | (with_reducible exact spec_l6Rd_pick.mono _ _ _ _)
   | (with_reducible exact spec_l71Time.mono _ _ _)
   | (with_reducible exact LeO.refl _)
   | (with_reducible exact LeO.none _)
   | (with_reducible refine LeO.ite ?_ ?_)
   | (with_reducible refine LeO.bind ?_ (fun _ => ?_))
   | exact spec_l6Rd_pick.mono _ _ _ _
   | exact spec_l71Time.mono _ _ _
   | exact LeO.none _
   | refine LeO.ite ?_ ?_
   | refine LeO.bind ?_ (fun _ => ?_)
def spec_l71Row.T1 : Bool × List (List Nat × List Nat) := (true, [([], []), ([0], [0]), ([], []), ([], []), ([3, 1], [3]), ([2, 4], [2, 4]), ([5], [5]), ([], []), ([7, 4], [7]), ([], []), ([], []), ([10, 8], [10]), ([9, 11], [9, 11]), ([12], [12]), ([1, 6, 8, 13], [1, 6, 8, 13]), ([14, 11, 0, 1, 2, 3, 4, 5, 6, 7, 8, 9, 10, 11, 12, 13, 14], [14])])
def spec_l71Row.B1 : List Nat := [0, 1, 0, 0, 11, 31, 63, 0, 155, 0, 0, 1435, 3995, 8091, 16383, 32767]
theorem spec_l71Row.tab1 : rtab .any (opsOf Try.f70 1) = spec_l71Row.T1 := by kernel_rfl
theorem spec_l71Row.bits1 : waitsOk spec_l71Row.T1.2 spec_l71Row.B1 = true := by kernel_rfl
set_option maxHeartbeats 8000000 in
set_option maxRecDepth 100000 in
theorem spec_l71Row.calls (k : Nat) (g : Nat) (s0_0 : List Int) (s0_1 : Int) (r1 : Int) (r2 : Int) (r3 : Int) (r4 : Int) (r5 : Int) (r6 : Int) (w0 w : World) (hI : IsS87 w0 w g s0_0 s0_1) (hB : Below w0.heap.size w0 w) (h : spec_l71Row.f k s0_0 s0_1 = some (r1, r2, r3, r4, r5, r6)) :
  Calls Try.prog 70 #[.pointer (some ⟨g, 0, none⟩)] w fun e w' => e = .returned (.agg #[.int .i64 r1, .int .i64 r2, .int .i64 r3, .int .i64 r4, .int .i64 r5]) ∧ IsS87 w0 w' g s0_0 r6 ∧ Below w0.heap.size w0 w' ∧ KeepBut w w' g none := by
 have hu38 := Try.underlying38
 have HI0 := Aside0.mk hI
 have HK := Aside0.mk (KeepBut.refl w g none)
 have HL := Aside0.mk hB.size
 clear hI
 have HW0 := Aside0.mk hB.size
 have HB := Aside0.mk hB
 clear hB
 have H : ((spec_l6Rd_pick.f k s0_0 s0_1 4).bind fun bt230 => ((some (([0, 1, 2, 3, 4, 9, 10, 57, 99] : List Int) : List Int)).bind fun y232 => ((spec_l6Rd_pick.f k s0_0 bt230.2 9).bind fun bt235 => (if 0 ≤ bt235.1 then (if bt235.1 < (y232.length : Int) then ((spec_l71Time.f k s0_0 bt235.2).bind fun bt238 => ((some (([1, 1, 1, 2, (-1), (-1), 3, 0] : List Int) : List Int)).bind fun y241 => ((spec_l6Rd_pick.f k s0_0 bt238.2.2 8).bind fun bt244 => (if 0 ≤ bt244.1 then (if bt244.1 < (y241.length : Int) then (some (bt230.1, rd y232 bt235.1, bt238.1, bt238.2.1, rd y241 bt244.1, bt244.2)) else (none)) else (none))))) else (none)) else (none))))) = some (r1, r2, r3, r4, r5, r6) := h
 clear h
 replace H := Option.bind_eq_some_iff.mp H
 obtain ⟨⟨t230, t231⟩, A20, H⟩ := H
 replace H : ((some (([0, 1, 2, 3, 4, 9, 10, 57, 99] : List Int) : List Int)).bind fun y232 => ((spec_l6Rd_pick.f k s0_0 t231 9).bind fun bt235 => (if 0 ≤ bt235.1 then (if bt235.1 < (y232.length : Int) then ((spec_l71Time.f k s0_0 bt235.2).bind fun bt238 => ((some (([1, 1, 1, 2, (-1), (-1), 3, 0] : List Int) : List Int)).bind fun y241 => ((spec_l6Rd_pick.f k s0_0 bt238.2.2 8).bind fun bt244 => (if 0 ≤ bt244.1 then (if bt244.1 < (y241.length : Int) then (some (t230, rd y232 bt235.1, bt238.1, bt238.2.1, rd y241 bt244.1, bt244.2)) else (none)) else (none))))) else (none)) else (none)))) = some (r1, r2, r3, r4, r5, r6) := H
 have A2 := Aside0.mk A20
 clear A20
 obtain ⟨y232, hy_⟩ : ∃ y_ : List Int, y_ = (([0, 1, 2, 3, 4, 9, 10, 57, 99] : List Int)) := ⟨_, rfl⟩
 replace H : ((spec_l6Rd_pick.f k s0_0 t231 9).bind fun bt235 => (if 0 ≤ bt235.1 then (if bt235.1 < (y232.length : Int) then ((spec_l71Time.f k s0_0 bt235.2).bind fun bt238 => ((some (([1, 1, 1, 2, (-1), (-1), 3, 0] : List Int) : List Int)).bind fun y241 => ((spec_l6Rd_pick.f k s0_0 bt238.2.2 8).bind fun bt244 => (if 0 ≤ bt244.1 then (if bt244.1 < (y241.length : Int) then (some (t230, rd y232 bt235.1, bt238.1, bt238.2.1, rd y241 bt244.1, bt244.2)) else (none)) else (none))))) else (none)) else (none))) = some (r1, r2, r3, r4, r5, r6) := Q77
 have Ny232 := Aside0.mk hy_
 clear hy_
 replace H := Option.bind_eq_some_iff.mp H
 obtain ⟨⟨t235, t236⟩, A30, H⟩ := H
 replace H : (if 0 ≤ t235 then (if t235 < (y232.length : Int) then ((spec_l71Time.f k s0_0 t236).bind fun bt238 => ((some (([1, 1, 1, 2, (-1), (-1), 3, 0] : List Int) : List Int)).bind fun y241 => ((spec_l6Rd_pick.f k s0_0 bt238.2.2 8).bind fun bt244 => (if 0 ≤ bt244.1 then (if bt244.1 < (y241.length : Int) then (some (t230, rd y232 t235, bt238.1, bt238.2.1, rd y241 bt244.1, bt244.2)) else (none)) else (none))))) else (none)) else (none)) = some (r1, r2, r3, r4, r5, r6) := H
 have A3 := Aside0.mk A30
 clear A30
 by_cases c4 : 0 ≤ t235
 ·rw [if_pos c4] at H
  have c4b0 : decide (0 ≤ t235) = true := decide_eq_true c4
  clear c4
  by_cases c5 : t235 < (y232.length : Int)
  ·rw [if_pos c5] at H
   have c5b0 : decide (t235 < (y232.length : Int)) = true := decide_eq_true c5
   clear c5
   replace H := Option.bind_eq_some_iff.mp H
   obtain ⟨⟨t238, t239, t240⟩, A60, H⟩ := H
   replace H : ((some (([1, 1, 1, 2, (-1), (-1), 3, 0] : List Int) : List Int)).bind fun y241 => ((spec_l6Rd_pick.f k s0_0 t240 8).bind fun bt244 => (if 0 ≤ bt244.1 then (if bt244.1 < (y241.length : Int) then (some (t230, rd y232 t235, t238, t239, rd y241 bt244.1, bt244.2)) else (none)) else (none)))) = some (r1, r2, r3, r4, r5, r6) := H
   have A6 := Aside0.mk A60
   clear A60
   obtain ⟨y241, hy_⟩ : ∃ y_ : List Int, y_ = (([1, 1, 1, 2, (-1), (-1), 3, 0] : List Int)) := ⟨_, rfl⟩
   replace H : ((spec_l6Rd_pick.f k s0_0 t240 8).bind fun bt244 => (if 0 ≤ bt244.1 then (if bt244.1 < (y241.length : Int) then (some (t230, rd y232 t235, t238, t239, rd y241 bt244.1, bt244.2)) else (none)) else (none))) = some (r1, r2, r3, r4, r5, r6) := Q77
   have Ny241 := Aside0.mk hy_
   clear hy_
   replace H := Option.bind_eq_some_iff.mp H
   obtain ⟨⟨t244, t245⟩, A70, H⟩ := H
   replace H : (if 0 ≤ t244 then (if t244 < (y241.length : Int) then (some (t230, rd y232 t235, t238, t239, rd y241 t244, t245)) else (none)) else (none)) = some (r1, r2, r3, r4, r5, r6) := H
   have A7 := Aside0.mk A70
   clear A70
   by_cases c8 : 0 ≤ t244
   ·rw [if_pos c8] at H
    have c8b0 : decide (0 ≤ t244) = true := decide_eq_true c8
    clear c8
    by_cases c9 : t244 < (y241.length : Int)
    ·rw [if_pos c9] at H
     have c9b0 : decide (t244 < (y241.length : Int)) = true := decide_eq_true c9
     clear c9
     simp only [Option.some.injEq, Prod.mk.injEq] at H
     obtain ⟨rfl, rfl, rfl, rfl, rfl, rfl⟩ := H
     go_enter Try.func70, Try.ntmps70
     try go_wp2_with (first | ((with_reducible refine gate_dst (N := 2) rfl ?_); refine box_event ?hg (N := 2) ?hd (cs := #[.int .i64 0, .int .i64 0, .int .i64 0, .int .i64 0, .int .i64 0]) (t := 38) ?hr ?_; (case hd => rfl); (case hg => rfl); (case hr => first | (go_simp; done) | (go_simp; rfl)); intro gb229 hg w10 hbox hb; have n0_ := Aside0.mk (IsS87.below Q40 hb); have n1_ := Aside0.mk (KeepBut.trans Q39 (KeepBut.of_below hb g none) (.inl rfl)); have n2_ := Aside0.mk (below_step Q55 hb); have n3_ := Aside0.mk (hbox); have n4_ := Aside0.mk ((Q86 : w.heap.size ≤ gb229)); have n5_ := Aside0.mk ((Nat.le_trans HW0.out (Q86 : w.heap.size ≤ gb229) : w0.heap.size ≤ gb229)); have n6_ := Aside0.mk ((by rw [hg]; exact Nat.ne_of_lt (IsS87.lt (show IsS87 w0 _ g s0_0 s0_1 from by repeat (first | (with_reducible first | exact HI0.out | apply IsS87.alloc | apply IsS87.drewN | apply IsS87.drew | apply IsS87.set_1) | exact HI0.out))) : g ≠ gb229)); have n7_ := Aside0.mk ((by rw [hg]; exact Nat.ne_of_gt (IsS87.lt (show IsS87 w0 _ g s0_0 s0_1 from by repeat (first | (with_reducible first | exact HI0.out | apply IsS87.alloc | apply IsS87.drewN | apply IsS87.drew | apply IsS87.set_1) | exact HI0.out))) : gb229 ≠ g)); clear HI0; clear HK; clear HB; have HI0 := n0_; have HK := n1_; have HB := n2_; have BK229 := n3_; have GW229 := n4_; have GE229 := n5_; have NB0_229 := n6_; have NB229_0 := n7_; clear n0_ n1_ n2_ n3_ n4_ n5_ n6_ n7_; clear hb hbox hg))
     have pi237 : (0 ≤ (t235 : Int)) = True := eq_true (of_decide_eq_true Q7)
     have qi237 : (t235 < (y232.length : Int)) = True := eq_true (of_decide_eq_true Q7)
     have pi246 : (0 ≤ (t244 : Int)) = True := eq_true (of_decide_eq_true Q7)
     have qi246 : (t244 < (y241.length : Int)) = True := eq_true (of_decide_eq_true Q7)
     have n0_ := Aside0.mk (blk_drew BK229.out)
     have n1_ := Aside0.mk (IsS87.drew HI0.out)
     have n2_ := Aside0.mk (keep_drew HK.out)
     have n3_ := Aside0.mk (below_drew1 HB.out)
     clear BK229
     clear HI0
     clear HK
     clear HB
     have BK229 := n0_
     have HI0 := n1_
     have HK := n2_
     have HB := n3_
     clear n0_ n1_ n2_ n3_
     refine start_ (n := 16) (S := fun w' => True) (ds := []) b16_0 Q2 rfl rfl trivial (fun hHeld => ?_); refine with_tabW spec_l71Row.tab1 spec_l71Row.bits1 (fun HT_ HW_ => ?_)
     generalize w10.drew = w11 at BK229 HI0 HK HB hHeld ⊢
     refine pU_ 0 3 b16_1 ?_
     refine pU_ 3 6 c66 ?_
     refine pU_ 7 10 c67 ?_
     refine pU_ 10 13 c68 ?_
     refine inv_at [1, 2, 4, 5, 6, 8, 9, 11, 12, 13, 14, 15] (fun a0_ b a w' => ∃ (v233 : Value) (adz_v233 : Addr) (v242 : Value) (adz_v242 : Addr) (m5_ : Value) (m12_ : Value), a = putSel a0_ b [(1, 4, .int .i64 t230), (2, 5, v233), (4, 7, .int .i64 t235), (5, 8, m5_), (6, 9, .int .i64 (rd y232 t235)), (8, 11, .agg #[.int .i64 t238, .int .i64 t239]), (9, 12, v242), (11, 14, .int .i64 t244), (12, 15, m12_), (13, 16, .int .i64 (rd y241 t244)), (14, 17, .agg #[.int .i64 t230, .int .i64 (rd y232 t235), .int .i64 t238, .int .i64 t239, .int .i64 (rd y241 t244)])] ∧ (b 15 = false → w'.heap[gb229]? = some (.cells #[.int .i64 0, .int .i64 0, .int .i64 0, .int .i64 0, .int .i64 0] 38 (0, 0))) ∧ (b 1 = false → IsS87 w0 w' g s0_0 s0_1) ∧ (KeepBut w w' g none) ∧ (Below w0.heap.size w0 w') ∧ (b 1 = true → b 4 = false → IsS87 w0 w' g s0_0 t231) ∧ (b 2 = true → Kd.R (Kd.int .i64) 3 w' w.heap.size (fun _ => True) v233 y232) ∧ (b 2 = true → ∃ c_, (v233 : Value) = .slice (some adz_v233) y232.length c_) ∧ (b 4 = true → b 8 = false → IsS87 w0 w' g s0_0 t236) ∧ (b 8 = true → b 11 = false → IsS87 w0 w' g s0_0 t240) ∧ (b 9 = true → Kd.R (Kd.int .i64) 3 w' w.heap.size (fun _ => True) v242 y241) ∧ (b 9 = true → ∃ c_, (v242 : Value) = .slice (some adz_v242) y241.length c_) ∧ (b 11 = true → IsS87 w0 w' g s0_0 t245) ∧ (b 15 = true → w'.heap[gb229]? = some (.cells #[.int .i64 t230, .int .i64 (rd y232 t235), .int .i64 t238, .int .i64 t239, .int .i64 (rd y241 t244)] 38 (0, 0))) ∧ (b 5 = true → (m5_ : Value) = .pointer (some (adz_v233.add (t235).toNat))) ∧ (b 12 = true → (m12_ : Value) = .pointer (some (adz_v242.add (t244).toNat)))) HT_.out HW_.out Q2 Q2 ?_ ?_ ?_
     ·exact ⟨.bool false, ⟨0, 0, none⟩, .bool false, ⟨0, 0, none⟩, .bool false, .bool false, by simp only [putSel, Bool.false_eq_true, if_false], fun _ => BK229.out, fun _ => HI0.out, HK.out, HB.out, fun h_ => absurd h_ Q1, fun h_ => absurd h_ Q1, fun h_ => absurd h_ Q1, fun h_ => absurd h_ Q1, fun h_ => absurd h_ Q1, fun h_ => absurd h_ Q1, fun h_ => absurd h_ Q1, fun h_ => absurd h_ Q1, fun h_ => absurd h_ Q1, fun h_ => absurd h_ Q1, fun h_ => absurd h_ Q1⟩
     ·skip
      clear BK229 HB HI0 HK
      refine steps_cons ?_ ?_
      ·rintro b a w' ⟨v233, adz_v233, v242, adz_v242, m5_, m12_, ha, Q_BK229, Q_HI0, Q_HK, Q_HB, Q_HI0_e1, Q_HO234, Q_HA_HO234, Q_HI0_e4, Q_HI0_e8, Q_HO243, Q_HA_HO243, Q_HI0_e11, Q_BK229_e15, Q_X5_, Q_X12_⟩ hb_ hon hoff
       refine ⟨_, rfl, fun K hK => ?_⟩
       have e3 : a.tmps[3]? = some (.pointer (some ⟨g, 0, none⟩)) := by rw [ha]; exact (putSel_off rfl).trans rfl
       replace ha := Aside0.mk ha
       have BK229 := Aside0.mk (Q_BK229 (hoff 15 Q2))
       have HI0 := Aside0.mk (Q_HI0 hb_)
       have HK := Aside0.mk Q_HK
       have HB := Aside0.mk Q_HB
       refine goes_ Try.func68 Q2 rfl #[.pointer (some ⟨g, 0, none⟩), .int .i64 4] (by rfl) rfl rfl (by first | (simp only [List.map_toArray, List.map_cons, List.map_nil, Act.eval, Array.getD_eq_getD_getElem?, Option.getD_some, e3]; done) | (simp only [List.map_toArray, List.map_cons, List.map_nil, Act.eval, Array.getD_eq_getD_getElem?, Option.getD_some, e3]; rfl)) ?_
       with_reducible refine (spec_l6Rd_pick.calls k g s0_0 s0_1 4 t230 t231 w0 _ ?side1 ?side2 A2.out).mono ?_
       (case side1 => exact Q64)
       (case side2 => exact Q71)
       rintro e w12 ⟨rfl, hi, hb, hk⟩
       refine ⟨_, rfl, ?_⟩
       have n0_ := Aside0.mk (KeepBut.blk hk (g' := gb229) (o := .cells #[.int .i64 0, .int .i64 0, .int .i64 0, .int .i64 0, .int .i64 0] 38 (0, 0)) Q30 NB229_0.out Q0)
       have n1_ := Aside0.mk (KeepBut.trans Q60 hk (.inl rfl))
       have n2_ := Aside0.mk (hb)
       have n3_ := Aside0.mk (hi)
       have z_HO234 := fun (h0_ : b 2 = true) => (show Kd.R (Kd.int .i64) 3 w12 w.heap.size (fun _ => True) v233 y232 from by first | exact (Kd.R_mono (Kd.R_keep (IsS87.apart (show IsS87 w0 _ g s0_0 s0_1 from by repeat (first | (with_reducible first | exact HI0.out | apply IsS87.alloc | apply IsS87.drewN | apply IsS87.drew | apply IsS87.set_1 | refine IsS87.far ?_ NB0_229.out _) | exact HI0.out)) Q22 Q1) hk (fun _ h => h.2)) (fun _ h => h.1)) | exact Kd.R_mono (Kd.R_mono (Kd.R_keep (IsS87.apart (show IsS87 w0 _ g s0_0 s0_1 from by repeat (first | (with_reducible first | exact HI0.out | apply IsS87.alloc | apply IsS87.drewN | apply IsS87.drew | apply IsS87.set_1 | refine IsS87.far ?_ NB0_229.out _) | exact HI0.out)) Q22 Q1) hk (fun _ h => h.2)) (fun _ h => h.1)) (fun _ h_ => by first | trivial | exact h_ | exact h_.1))
       have z_HO243 := fun (h0_ : b 9 = true) => (show Kd.R (Kd.int .i64) 3 w12 w.heap.size (fun _ => True) v242 y241 from by first | exact (Kd.R_mono (Kd.R_keep (IsS87.apart (show IsS87 w0 _ g s0_0 s0_1 from by repeat (first | (with_reducible first | exact HI0.out | apply IsS87.alloc | apply IsS87.drewN | apply IsS87.drew | apply IsS87.set_1 | refine IsS87.far ?_ NB0_229.out _) | exact HI0.out)) Q23 Q1) hk (fun _ h => h.2)) (fun _ h => h.1)) | exact Kd.R_mono (Kd.R_mono (Kd.R_keep (IsS87.apart (show IsS87 w0 _ g s0_0 s0_1 from by repeat (first | (with_reducible first | exact HI0.out | apply IsS87.alloc | apply IsS87.drewN | apply IsS87.drew | apply IsS87.set_1 | refine IsS87.far ?_ NB0_229.out _) | exact HI0.out)) Q23 Q1) hk (fun _ h => h.2)) (fun _ h => h.1)) (fun _ h_ => by first | trivial | exact h_ | exact h_.1))
       clear BK229
       clear HK
       clear HB
       clear HI0
       have BK229 := n0_
       have HK := n1_
       have HB := n2_
       have HI0 := n3_
       clear n0_ n1_ n2_ n3_
       (try clear hb)
       (try clear hb2)
       (try clear hk)
       (try clear hi)
       refine hK.out _ _ ⟨v233, adz_v233, v242, adz_v242, m5_, m12_, (by rw [ha.out]; exact putSel_upk 0 hb_ rfl rfl rfl), fun _ => Q30, fun h0_ => absurd ((up_self b 1).symm.trans h0_) Q1, Q60, Q71, fun _ _ => Q64, z_HO234, Q_HA_HO234, fun h0_ _ => absurd ((hoff 4 Q2).symm.trans h0_) Q1, fun h0_ _ => absurd ((hoff 8 Q2).symm.trans h0_) Q1, z_HO243, Q_HA_HO243, fun h0_ => absurd ((hoff 11 Q2).symm.trans h0_) Q1, fun h0_ => absurd ((hoff 15 Q2).symm.trans h0_) Q1, fun h0_ => absurd ((hoff 5 Q2).symm.trans h0_) Q1, fun h0_ => absurd ((hoff 12 Q2).symm.trans h0_) Q1⟩
      refine steps_cons ?_ ?_
      ·rintro b a w' ⟨v233, adz_v233, v242, adz_v242, m5_, m12_, ha, Q_BK229, Q_HI0, Q_HK, Q_HB, Q_HI0_e1, Q_HO234, Q_HA_HO234, Q_HI0_e4, Q_HI0_e8, Q_HO243, Q_HA_HO243, Q_HI0_e11, Q_BK229_e15, Q_X5_, Q_X12_⟩ hb_ hon hoff
       refine ⟨_, rfl, fun K hK => ?_⟩
       replace ha := Aside0.mk ha
       have BK229 := Aside0.mk (Q_BK229 (hoff 15 Q2))
       have HK := Aside0.mk Q_HK
       have HB := Aside0.mk Q_HB
       refine Kd.R_lit_step (Kd.int .i64) _ 3 ?hg (N := 5) ?hd (xs := ([0, 1, 2, 3, 4, 9, 10, 57, 99] : List Int)) (inner := [.int .i64 0, .int .i64 1, .int .i64 2, .int .i64 3, .int .i64 4, .int .i64 9, .int .i64 10, .int .i64 57, .int .i64 99]) (ok := fun _ => True) (okp := fun _ => True) ?hr ?hp (fun _ hk => hk) trivial (Below.refl _ _) (Nat.le_refl _) Q0 ?_; (case hd => rfl); (case hg => rfl); (case hr => first | (go_simp; done) | (go_simp; rfl)); (case hp => exact (Reps.one (show Kd.M (Kd.int .i64) _ _ _ 0 [.int .i64 0] from rfl) (Reps.one (show Kd.M (Kd.int .i64) _ _ _ 1 [.int .i64 1] from rfl) (Reps.one (show Kd.M (Kd.int .i64) _ _ _ 2 [.int .i64 2] from rfl) (Reps.one (show Kd.M (Kd.int .i64) _ _ _ 3 [.int .i64 3] from rfl) (Reps.one (show Kd.M (Kd.int .i64) _ _ _ 4 [.int .i64 4] from rfl) (Reps.one (show Kd.M (Kd.int .i64) _ _ _ 9 [.int .i64 9] from rfl) (Reps.one (show Kd.M (Kd.int .i64) _ _ _ 10 [.int .i64 10] from rfl) (Reps.one (show Kd.M (Kd.int .i64) _ _ _ 57 [.int .i64 57] from rfl) (Reps.one (show Kd.M (Kd.int .i64) _ _ _ 99 [.int .i64 99] from rfl) (Reps.none _ _)))))))))))
       intro v233 w12 ho13 hb hg_ hnew_
       clear hg_ hnew_
       (first | rw [← Ny232.out] at ho13 | (simp only [Int.reduceToNat] at ho13; rw [← Ny232.out] at ho13))
       have n0_ := Aside0.mk (Kd.R_lower ho13 (keep_size (w := w) (g := g) (row := none) Q60))
       have n2_ := Aside0.mk (blk_below (g := gb229) (o := .cells #[.int .i64 0, .int .i64 0, .int .i64 0, .int .i64 0, .int .i64 0] 38 (0, 0)) Q30 hb)
       have n3_ := Aside0.mk (KeepBut.trans Q60 (KeepBut.of_below hb g none) (.inl rfl))
       have n4_ := Aside0.mk (below_step Q51 hb)
       have z_HI0 := fun (h0_ : b 1 = false) => (show IsS87 w0 w12 g s0_0 s0_1 from by first | exact (IsS87.below (by repeat (first | (with_reducible first | exact (Q_HI0 h0_) | apply IsS87.alloc | apply IsS87.drewN | apply IsS87.drew | apply IsS87.set_1 | refine IsS87.far ?_ NB0_229.out _) | exact (Q_HI0 h0_))) hb))
       have z_HI0_e1 := fun (h0_ : b 1 = true) (h1_ : b 4 = false) => (show IsS87 w0 w12 g s0_0 t231 from by first | exact (IsS87.below (by repeat (first | (with_reducible first | exact (Q_HI0_e1 h0_ h1_) | apply IsS87.alloc | apply IsS87.drewN | apply IsS87.drew | apply IsS87.set_1 | refine IsS87.far ?_ NB0_229.out _) | exact (Q_HI0_e1 h0_ h1_))) hb))
       have z_HI0_e4 := fun (h0_ : b 4 = true) (h1_ : b 8 = false) => (show IsS87 w0 w12 g s0_0 t236 from by first | exact (IsS87.below (by repeat (first | (with_reducible first | exact (Q_HI0_e4 h0_ h1_) | apply IsS87.alloc | apply IsS87.drewN | apply IsS87.drew | apply IsS87.set_1 | refine IsS87.far ?_ NB0_229.out _) | exact (Q_HI0_e4 h0_ h1_))) hb))
       have z_HI0_e8 := fun (h0_ : b 8 = true) (h1_ : b 11 = false) => (show IsS87 w0 w12 g s0_0 t240 from by first | exact (IsS87.below (by repeat (first | (with_reducible first | exact (Q_HI0_e8 h0_ h1_) | apply IsS87.alloc | apply IsS87.drewN | apply IsS87.drew | apply IsS87.set_1 | refine IsS87.far ?_ NB0_229.out _) | exact (Q_HI0_e8 h0_ h1_))) hb))
       have z_HO243 := fun (h0_ : b 9 = true) => (show Kd.R (Kd.int .i64) 3 w12 w.heap.size (fun _ => True) v242 y241 from by first | exact (Kd.R_elder' Q23 (Kd.R_base ho13) hb) | exact Kd.R_mono (Kd.R_elder' Q23 (Kd.R_base ho13) hb) (fun _ h_ => by first | trivial | exact h_ | exact h_.1))
       have z_HI0_e11 := fun (h0_ : b 11 = true) => (show IsS87 w0 w12 g s0_0 t245 from by first | exact (IsS87.below (by repeat (first | (with_reducible first | exact (Q_HI0_e11 h0_) | apply IsS87.alloc | apply IsS87.drewN | apply IsS87.drew | apply IsS87.set_1 | refine IsS87.far ?_ NB0_229.out _) | exact (Q_HI0_e11 h0_))) hb))
       clear BK229
       clear HK
       clear HB
       have HO234 := n0_
       have BK229 := n2_
       have HK := n3_
       have HB := n4_
       clear n0_ n2_ n3_ n4_
       clear hb ho13
       obtain ⟨Ao14, co14, eo14⟩ := Kd.R_slice HO234.out
       subst eo14
       obtain ⟨ado14, fo14, _⟩ := Kd.at_int (Kd.R_reads' HO234.out).2.2 0 Q1 (by rw [Ny232.out]; simp)
       cases fo14
       refine hK.out _ _ ⟨.slice (some ado14) y232.length co14, ado14, v242, adz_v242, m5_, m12_, (by rw [ha.out]; exact putSel_upk 1 hb_ rfl rfl rfl), fun _ => Q30, z_HI0, Q60, Q51, z_HI0_e1, fun _ => (by (with_reducible repeat (first | apply Kd.R_alloc | apply Kd.R_drewN | apply Kd.R_drew)); exact HO234.out), fun _ => ⟨_, rfl⟩, z_HI0_e4, z_HI0_e8, z_HO243, Q_HA_HO243, z_HI0_e11, fun h0_ => absurd ((hoff 15 Q2).symm.trans h0_) Q1, fun h0_ => absurd ((hoff 5 Q2).symm.trans h0_) Q1, Q_X12_⟩
      refine steps_cons ?_ ?_
      ·rintro b a w' ⟨v233, adz_v233, v242, adz_v242, m5_, m12_, ha, Q_BK229, Q_HI0, Q_HK, Q_HB, Q_HI0_e1, Q_HO234, Q_HA_HO234, Q_HI0_e4, Q_HI0_e8, Q_HO243, Q_HA_HO243, Q_HI0_e11, Q_BK229_e15, Q_X5_, Q_X12_⟩ hb_ hon hoff
       refine ⟨_, rfl, fun K hK => ?_⟩
       have e6 : a.tmps[6]? = some (.pointer (some ⟨g, 0, none⟩)) := by rw [ha]; exact (putSel_off rfl).trans rfl
       replace ha := Aside0.mk ha
       have BK229 := Aside0.mk (Q_BK229 (hoff 15 Q2))
       have HK := Aside0.mk Q_HK
       have HB := Aside0.mk Q_HB
       have HI0 := Aside0.mk (Q_HI0_e1 (hon 1 Q2) hb_)
       refine goes_ Try.func68 Q2 rfl #[.pointer (some ⟨g, 0, none⟩), .int .i64 9] (by rfl) rfl rfl (by first | (simp only [List.map_toArray, List.map_cons, List.map_nil, Act.eval, Array.getD_eq_getD_getElem?, Option.getD_some, e6]; done) | (simp only [List.map_toArray, List.map_cons, List.map_nil, Act.eval, Array.getD_eq_getD_getElem?, Option.getD_some, e6]; rfl)) ?_
       with_reducible refine (spec_l6Rd_pick.calls k g s0_0 t231 9 t235 t236 w0 _ ?side1 ?side2 A3.out).mono ?_
       (case side1 => exact Q64)
       (case side2 => exact Q71)
       rintro e w14 ⟨rfl, hi, hb, hk⟩
       refine ⟨_, rfl, ?_⟩
       have n0_ := Aside0.mk (KeepBut.blk hk (g' := gb229) (o := .cells #[.int .i64 0, .int .i64 0, .int .i64 0, .int .i64 0, .int .i64 0] 38 (0, 0)) Q30 NB229_0.out Q0)
       have n1_ := Aside0.mk (KeepBut.trans Q60 hk (.inl rfl))
       have n2_ := Aside0.mk (hb)
       have n3_ := Aside0.mk (hi)
       have z_HO234 := fun (h0_ : b 2 = true) => (show Kd.R (Kd.int .i64) 3 w14 w.heap.size (fun _ => True) v233 y232 from by first | exact (Kd.R_mono (Kd.R_keep (IsS87.apart (show IsS87 w0 _ g s0_0 t231 from by repeat (first | (with_reducible first | exact HI0.out | apply IsS87.alloc | apply IsS87.drewN | apply IsS87.drew | apply IsS87.set_1 | refine IsS87.far ?_ NB0_229.out _) | exact HI0.out)) Q22 Q1) hk (fun _ h => h.2)) (fun _ h => h.1)) | exact Kd.R_mono (Kd.R_mono (Kd.R_keep (IsS87.apart (show IsS87 w0 _ g s0_0 t231 from by repeat (first | (with_reducible first | exact HI0.out | apply IsS87.alloc | apply IsS87.drewN | apply IsS87.drew | apply IsS87.set_1 | refine IsS87.far ?_ NB0_229.out _) | exact HI0.out)) Q22 Q1) hk (fun _ h => h.2)) (fun _ h => h.1)) (fun _ h_ => by first | trivial | exact h_ | exact h_.1))
       have z_HO243 := fun (h0_ : b 9 = true) => (show Kd.R (Kd.int .i64) 3 w14 w.heap.size (fun _ => True) v242 y241 from by first | exact (Kd.R_mono (Kd.R_keep (IsS87.apart (show IsS87 w0 _ g s0_0 t231 from by repeat (first | (with_reducible first | exact HI0.out | apply IsS87.alloc | apply IsS87.drewN | apply IsS87.drew | apply IsS87.set_1 | refine IsS87.far ?_ NB0_229.out _) | exact HI0.out)) Q23 Q1) hk (fun _ h => h.2)) (fun _ h => h.1)) | exact Kd.R_mono (Kd.R_mono (Kd.R_keep (IsS87.apart (show IsS87 w0 _ g s0_0 t231 from by repeat (first | (with_reducible first | exact HI0.out | apply IsS87.alloc | apply IsS87.drewN | apply IsS87.drew | apply IsS87.set_1 | refine IsS87.far ?_ NB0_229.out _) | exact HI0.out)) Q23 Q1) hk (fun _ h => h.2)) (fun _ h => h.1)) (fun _ h_ => by first | trivial | exact h_ | exact h_.1))
       clear BK229
       clear HK
       clear HB
       clear HI0
       have BK229 := n0_
       have HK := n1_
       have HB := n2_
       have HI0 := n3_
       clear n0_ n1_ n2_ n3_
       (try clear hb)
       (try clear hb2)
       (try clear hk)
       (try clear hi)
       refine hK.out _ _ ⟨v233, adz_v233, v242, adz_v242, m5_, m12_, (by rw [ha.out]; exact putSel_upk 2 hb_ rfl rfl rfl), fun _ => Q30, fun h0_ => absurd ((hon 1 Q2).symm.trans h0_) Q1, Q60, Q71, fun _ h1_ => absurd ((up_self b 4).symm.trans h1_) Q1, z_HO234, Q_HA_HO234, fun _ _ => Q64, fun h0_ _ => absurd ((hoff 8 Q2).symm.trans h0_) Q1, z_HO243, Q_HA_HO243, fun h0_ => absurd ((hoff 11 Q2).symm.trans h0_) Q1, fun h0_ => absurd ((hoff 15 Q2).symm.trans h0_) Q1, fun h0_ => absurd ((hoff 5 Q2).symm.trans h0_) Q1, fun h0_ => absurd ((hoff 12 Q2).symm.trans h0_) Q1⟩
      refine steps_cons ?_ ?_
      ·rintro b a w' ⟨v233, adz_v233, v242, adz_v242, m5_, m12_, ha, Q_BK229, Q_HI0, Q_HK, Q_HB, Q_HI0_e1, Q_HO234, Q_HA_HO234, Q_HI0_e4, Q_HI0_e8, Q_HO243, Q_HA_HO243, Q_HI0_e11, Q_BK229_e15, Q_X5_, Q_X12_⟩ hb_ hon hoff
       refine ⟨_, rfl, fun K hK => ?_⟩
       have e5 : a.tmps[5]? = some (v233) := by rw [ha]; exact putSel_on (e := (2, 5, v233)) 1 rfl rfl (hon 2 Q2) rfl
       have e7 : a.tmps[7]? = some (.int .i64 t235) := by rw [ha]; exact putSel_on (e := (4, 7, .int .i64 t235)) 2 rfl rfl (hon 4 Q2) rfl
       replace ha := Aside0.mk ha
       have BK229 := Aside0.mk (Q_BK229 (hoff 15 Q2))
       have HK := Aside0.mk Q_HK
       have HB := Aside0.mk Q_HB
       have HO234 := Aside0.mk (Q_HO234 (hon 2 Q2))
       have HA_HO234 := Aside0.mk (Q_HA_HO234 (hon 2 Q2))
       obtain ⟨c_, hv_⟩ := HA_HO234.out
       rw [hv_] at e5
       refine value_ (w1 := w') (v := .pointer (some (adz_v233.add (t235).toNat))) (by rfl) rfl ?_ ?_
       ·go_simp
        (try simp only [i64_w])
        try rfl
       refine hK.out _ _ ⟨v233, adz_v233, v242, adz_v242, (.pointer (some (adz_v233.add (t235).toNat))), m12_, (by rw [ha.out]; exact putSel_upk 3 hb_ rfl rfl rfl), Q_BK229, fun h0_ => absurd ((hon 1 Q2).symm.trans h0_) Q1, Q_HK, Q_HB, fun _ h1_ => absurd ((hon 4 Q2).symm.trans h1_) Q1, Q_HO234, Q_HA_HO234, Q_HI0_e4, Q_HI0_e8, Q_HO243, Q_HA_HO243, Q_HI0_e11, fun h0_ => absurd ((hoff 15 Q2).symm.trans h0_) Q1, fun _ => rfl, Q_X12_⟩
      refine steps_cons ?_ ?_
      ·rintro b a w' ⟨v233, adz_v233, v242, adz_v242, m5_, m12_, ha, Q_BK229, Q_HI0, Q_HK, Q_HB, Q_HI0_e1, Q_HO234, Q_HA_HO234, Q_HI0_e4, Q_HI0_e8, Q_HO243, Q_HA_HO243, Q_HI0_e11, Q_BK229_e15, Q_X5_, Q_X12_⟩ hb_ hon hoff
       refine ⟨_, rfl, fun K hK => ?_⟩
       have e8 : a.tmps[8]? = some (m5_) := by rw [ha]; exact putSel_on (e := (5, 8, m5_)) 3 rfl rfl (hon 5 Q2) rfl
       rw [Q_X5_ (hon 5 Q2)] at e8
       replace ha := Aside0.mk ha
       have BK229 := Aside0.mk (Q_BK229 (hoff 15 Q2))
       have HK := Aside0.mk Q_HK
       have HB := Aside0.mk Q_HB
       have HO234 := Aside0.mk (Q_HO234 (hon 2 Q2))
       have HA_HO234 := Aside0.mk (Q_HA_HO234 (hon 2 Q2))
       obtain ⟨c_, hv_⟩ := HA_HO234.out
       have hF_ := HO234.out
       rw [hv_] at hF_
       obtain ⟨ad_, ea_, hx_⟩ := Kd.at_int (Kd.R_reads' hF_).2.2 t235 (of_eq_true pi237) (of_eq_true qi237)
       cases ea_
       refine value_ (w1 := w') (v := .int .i64 (rd y232 t235)) (by rfl) rfl ?_ ?_
       ·go_simp
        (try simp only [i64_w])
        try rfl
       refine hK.out _ _ ⟨v233, adz_v233, v242, adz_v242, m5_, m12_, (by rw [ha.out]; exact putSel_upk 4 hb_ rfl rfl rfl), Q_BK229, fun h0_ => absurd ((hon 1 Q2).symm.trans h0_) Q1, Q_HK, Q_HB, fun _ h1_ => absurd ((hon 4 Q2).symm.trans h1_) Q1, Q_HO234, Q_HA_HO234, Q_HI0_e4, Q_HI0_e8, Q_HO243, Q_HA_HO243, Q_HI0_e11, fun h0_ => absurd ((hoff 15 Q2).symm.trans h0_) Q1, Q_X5_, Q_X12_⟩
      refine steps_cons ?_ ?_
      ·rintro b a w' ⟨v233, adz_v233, v242, adz_v242, m5_, m12_, ha, Q_BK229, Q_HI0, Q_HK, Q_HB, Q_HI0_e1, Q_HO234, Q_HA_HO234, Q_HI0_e4, Q_HI0_e8, Q_HO243, Q_HA_HO243, Q_HI0_e11, Q_BK229_e15, Q_X5_, Q_X12_⟩ hb_ hon hoff
       refine ⟨_, rfl, fun K hK => ?_⟩
       have e10 : a.tmps[10]? = some (.pointer (some ⟨g, 0, none⟩)) := by rw [ha]; exact (putSel_off rfl).trans rfl
       replace ha := Aside0.mk ha
       have BK229 := Aside0.mk (Q_BK229 (hoff 15 Q2))
       have HK := Aside0.mk Q_HK
       have HB := Aside0.mk Q_HB
       have HI0 := Aside0.mk (Q_HI0_e4 (hon 4 Q2) hb_)
       refine goes_ Try.func92 Q2 rfl #[.pointer (some ⟨g, 0, none⟩)] (by rfl) rfl rfl (by first | (simp only [List.map_toArray, List.map_cons, List.map_nil, Act.eval, Array.getD_eq_getD_getElem?, Option.getD_some, e10]; done) | (simp only [List.map_toArray, List.map_cons, List.map_nil, Act.eval, Array.getD_eq_getD_getElem?, Option.getD_some, e10]; rfl)) ?_
       with_reducible refine (spec_l71Time.calls k g s0_0 t236 t238 t239 t240 w0 _ ?side1 ?side2 A6.out).mono ?_
       (case side1 => exact Q64)
       (case side2 => exact Q71)
       rintro e w15 ⟨rfl, hi, hb, hk⟩
       refine ⟨_, rfl, ?_⟩
       have n0_ := Aside0.mk (KeepBut.blk hk (g' := gb229) (o := .cells #[.int .i64 0, .int .i64 0, .int .i64 0, .int .i64 0, .int .i64 0] 38 (0, 0)) Q30 NB229_0.out Q0)
       have n1_ := Aside0.mk (KeepBut.trans Q60 hk (.inl rfl))
       have n2_ := Aside0.mk (hb)
       have n3_ := Aside0.mk (hi)
       have z_HO234 := fun (h0_ : b 2 = true) => (show Kd.R (Kd.int .i64) 3 w15 w.heap.size (fun _ => True) v233 y232 from by first | exact (Kd.R_mono (Kd.R_keep (IsS87.apart (show IsS87 w0 _ g s0_0 t236 from by repeat (first | (with_reducible first | exact HI0.out | apply IsS87.alloc | apply IsS87.drewN | apply IsS87.drew | apply IsS87.set_1 | refine IsS87.far ?_ NB0_229.out _) | exact HI0.out)) Q22 Q1) hk (fun _ h => h.2)) (fun _ h => h.1)) | exact Kd.R_mono (Kd.R_mono (Kd.R_keep (IsS87.apart (show IsS87 w0 _ g s0_0 t236 from by repeat (first | (with_reducible first | exact HI0.out | apply IsS87.alloc | apply IsS87.drewN | apply IsS87.drew | apply IsS87.set_1 | refine IsS87.far ?_ NB0_229.out _) | exact HI0.out)) Q22 Q1) hk (fun _ h => h.2)) (fun _ h => h.1)) (fun _ h_ => by first | trivial | exact h_ | exact h_.1))
       have z_HO243 := fun (h0_ : b 9 = true) => (show Kd.R (Kd.int .i64) 3 w15 w.heap.size (fun _ => True) v242 y241 from by first | exact (Kd.R_mono (Kd.R_keep (IsS87.apart (show IsS87 w0 _ g s0_0 t236 from by repeat (first | (with_reducible first | exact HI0.out | apply IsS87.alloc | apply IsS87.drewN | apply IsS87.drew | apply IsS87.set_1 | refine IsS87.far ?_ NB0_229.out _) | exact HI0.out)) Q23 Q1) hk (fun _ h => h.2)) (fun _ h => h.1)) | exact Kd.R_mono (Kd.R_mono (Kd.R_keep (IsS87.apart (show IsS87 w0 _ g s0_0 t236 from by repeat (first | (with_reducible first | exact HI0.out | apply IsS87.alloc | apply IsS87.drewN | apply IsS87.drew | apply IsS87.set_1 | refine IsS87.far ?_ NB0_229.out _) | exact HI0.out)) Q23 Q1) hk (fun _ h => h.2)) (fun _ h => h.1)) (fun _ h_ => by first | trivial | exact h_ | exact h_.1))
       clear BK229
       clear HK
       clear HB
       clear HI0
       have BK229 := n0_
       have HK := n1_
       have HB := n2_
       have HI0 := n3_
       clear n0_ n1_ n2_ n3_
       (try clear hb)
       (try clear hb2)
       (try clear hk)
       (try clear hi)
       refine hK.out _ _ ⟨v233, adz_v233, v242, adz_v242, m5_, m12_, (by rw [ha.out]; exact putSel_upk 5 hb_ rfl rfl rfl), fun _ => Q30, fun h0_ => absurd ((hon 1 Q2).symm.trans h0_) Q1, Q60, Q71, fun _ h1_ => absurd ((hon 4 Q2).symm.trans h1_) Q1, z_HO234, Q_HA_HO234, fun _ h1_ => absurd ((up_self b 8).symm.trans h1_) Q1, fun _ _ => Q64, z_HO243, Q_HA_HO243, fun h0_ => absurd ((hoff 11 Q2).symm.trans h0_) Q1, fun h0_ => absurd ((hoff 15 Q2).symm.trans h0_) Q1, Q_X5_, fun h0_ => absurd ((hoff 12 Q2).symm.trans h0_) Q1⟩
      refine steps_cons ?_ ?_
      ·rintro b a w' ⟨v233, adz_v233, v242, adz_v242, m5_, m12_, ha, Q_BK229, Q_HI0, Q_HK, Q_HB, Q_HI0_e1, Q_HO234, Q_HA_HO234, Q_HI0_e4, Q_HI0_e8, Q_HO243, Q_HA_HO243, Q_HI0_e11, Q_BK229_e15, Q_X5_, Q_X12_⟩ hb_ hon hoff
       refine ⟨_, rfl, fun K hK => ?_⟩
       replace ha := Aside0.mk ha
       have BK229 := Aside0.mk (Q_BK229 (hoff 15 Q2))
       have HK := Aside0.mk Q_HK
       have HB := Aside0.mk Q_HB
       refine Kd.R_lit_step (Kd.int .i64) _ 3 ?hg (N := 12) ?hd (xs := ([1, 1, 1, 2, (-1), (-1), 3, 0] : List Int)) (inner := [.int .i64 1, .int .i64 1, .int .i64 1, .int .i64 2, .int .i64 (-1), .int .i64 (-1), .int .i64 3, .int .i64 0]) (ok := fun _ => True) (okp := fun _ => True) ?hr ?hp (fun _ hk => hk) trivial (Below.refl _ _) (Nat.le_refl _) Q0 ?_; (case hd => rfl); (case hg => rfl); (case hr => first | (go_simp; done) | (go_simp; rfl)); (case hp => exact (Reps.one (show Kd.M (Kd.int .i64) _ _ _ 1 [.int .i64 1] from rfl) (Reps.one (show Kd.M (Kd.int .i64) _ _ _ 1 [.int .i64 1] from rfl) (Reps.one (show Kd.M (Kd.int .i64) _ _ _ 1 [.int .i64 1] from rfl) (Reps.one (show Kd.M (Kd.int .i64) _ _ _ 2 [.int .i64 2] from rfl) (Reps.one (show Kd.M (Kd.int .i64) _ _ _ (-1) [.int .i64 (-1)] from rfl) (Reps.one (show Kd.M (Kd.int .i64) _ _ _ (-1) [.int .i64 (-1)] from rfl) (Reps.one (show Kd.M (Kd.int .i64) _ _ _ 3 [.int .i64 3] from rfl) (Reps.one (show Kd.M (Kd.int .i64) _ _ _ 0 [.int .i64 0] from rfl) (Reps.none _ _))))))))))
       intro v242 w12 ho13 hb hg_ hnew_
       clear hg_ hnew_
       (first | rw [← Ny241.out] at ho13 | (simp only [Int.reduceToNat] at ho13; rw [← Ny241.out] at ho13))
       have n0_ := Aside0.mk (Kd.R_lower ho13 (keep_size (w := w) (g := g) (row := none) Q60))
       have n2_ := Aside0.mk (blk_below (g := gb229) (o := .cells #[.int .i64 0, .int .i64 0, .int .i64 0, .int .i64 0, .int .i64 0] 38 (0, 0)) Q30 hb)
       have n3_ := Aside0.mk (KeepBut.trans Q60 (KeepBut.of_below hb g none) (.inl rfl))
       have n4_ := Aside0.mk (below_step Q51 hb)
       have z_HI0 := fun (h0_ : b 1 = false) => (show IsS87 w0 w12 g s0_0 s0_1 from by first | exact (IsS87.below (by repeat (first | (with_reducible first | exact (Q_HI0 h0_) | apply IsS87.alloc | apply IsS87.drewN | apply IsS87.drew | apply IsS87.set_1 | refine IsS87.far ?_ NB0_229.out _) | exact (Q_HI0 h0_))) hb))
       have z_HI0_e1 := fun (h0_ : b 1 = true) (h1_ : b 4 = false) => (show IsS87 w0 w12 g s0_0 t231 from by first | exact (IsS87.below (by repeat (first | (with_reducible first | exact (Q_HI0_e1 h0_ h1_) | apply IsS87.alloc | apply IsS87.drewN | apply IsS87.drew | apply IsS87.set_1 | refine IsS87.far ?_ NB0_229.out _) | exact (Q_HI0_e1 h0_ h1_))) hb))
       have z_HO234 := fun (h0_ : b 2 = true) => (show Kd.R (Kd.int .i64) 3 w12 w.heap.size (fun _ => True) v233 y232 from by first | exact (Kd.R_elder' Q22 (Kd.R_base ho13) hb) | exact Kd.R_mono (Kd.R_elder' Q22 (Kd.R_base ho13) hb) (fun _ h_ => by first | trivial | exact h_ | exact h_.1))
       have z_HI0_e4 := fun (h0_ : b 4 = true) (h1_ : b 8 = false) => (show IsS87 w0 w12 g s0_0 t236 from by first | exact (IsS87.below (by repeat (first | (with_reducible first | exact (Q_HI0_e4 h0_ h1_) | apply IsS87.alloc | apply IsS87.drewN | apply IsS87.drew | apply IsS87.set_1 | refine IsS87.far ?_ NB0_229.out _) | exact (Q_HI0_e4 h0_ h1_))) hb))
       have z_HI0_e8 := fun (h0_ : b 8 = true) (h1_ : b 11 = false) => (show IsS87 w0 w12 g s0_0 t240 from by first | exact (IsS87.below (by repeat (first | (with_reducible first | exact (Q_HI0_e8 h0_ h1_) | apply IsS87.alloc | apply IsS87.drewN | apply IsS87.drew | apply IsS87.set_1 | refine IsS87.far ?_ NB0_229.out _) | exact (Q_HI0_e8 h0_ h1_))) hb))
       have z_HI0_e11 := fun (h0_ : b 11 = true) => (show IsS87 w0 w12 g s0_0 t245 from by first | exact (IsS87.below (by repeat (first | (with_reducible first | exact (Q_HI0_e11 h0_) | apply IsS87.alloc | apply IsS87.drewN | apply IsS87.drew | apply IsS87.set_1 | refine IsS87.far ?_ NB0_229.out _) | exact (Q_HI0_e11 h0_))) hb))
       clear BK229
       clear HK
       clear HB
       have HO243 := n0_
       have BK229 := n2_
       have HK := n3_
       have HB := n4_
       clear n0_ n2_ n3_ n4_
       clear hb ho13
       obtain ⟨Ao14, co14, eo14⟩ := Kd.R_slice HO243.out
       subst eo14
       obtain ⟨ado14, fo14, _⟩ := Kd.at_int (Kd.R_reads' HO243.out).2.2 0 Q1 (by rw [Ny241.out]; simp)
       cases fo14
       refine hK.out _ _ ⟨v233, adz_v233, .slice (some ado14) y241.length co14, ado14, m5_, m12_, (by rw [ha.out]; exact putSel_upk 6 hb_ rfl rfl rfl), fun _ => Q30, z_HI0, Q60, Q51, z_HI0_e1, z_HO234, Q_HA_HO234, z_HI0_e4, z_HI0_e8, fun _ => (by (with_reducible repeat (first | apply Kd.R_alloc | apply Kd.R_drewN | apply Kd.R_drew)); exact HO243.out), fun _ => ⟨_, rfl⟩, z_HI0_e11, fun h0_ => absurd ((hoff 15 Q2).symm.trans h0_) Q1, Q_X5_, fun h0_ => absurd ((hoff 12 Q2).symm.trans h0_) Q1⟩
      refine steps_cons ?_ ?_
      ·rintro b a w' ⟨v233, adz_v233, v242, adz_v242, m5_, m12_, ha, Q_BK229, Q_HI0, Q_HK, Q_HB, Q_HI0_e1, Q_HO234, Q_HA_HO234, Q_HI0_e4, Q_HI0_e8, Q_HO243, Q_HA_HO243, Q_HI0_e11, Q_BK229_e15, Q_X5_, Q_X12_⟩ hb_ hon hoff
       refine ⟨_, rfl, fun K hK => ?_⟩
       have e13 : a.tmps[13]? = some (.pointer (some ⟨g, 0, none⟩)) := by rw [ha]; exact (putSel_off rfl).trans rfl
       replace ha := Aside0.mk ha
       have BK229 := Aside0.mk (Q_BK229 (hoff 15 Q2))
       have HK := Aside0.mk Q_HK
       have HB := Aside0.mk Q_HB
       have HI0 := Aside0.mk (Q_HI0_e8 (hon 8 Q2) hb_)
       refine goes_ Try.func68 Q2 rfl #[.pointer (some ⟨g, 0, none⟩), .int .i64 8] (by rfl) rfl rfl (by first | (simp only [List.map_toArray, List.map_cons, List.map_nil, Act.eval, Array.getD_eq_getD_getElem?, Option.getD_some, e13]; done) | (simp only [List.map_toArray, List.map_cons, List.map_nil, Act.eval, Array.getD_eq_getD_getElem?, Option.getD_some, e13]; rfl)) ?_
       with_reducible refine (spec_l6Rd_pick.calls k g s0_0 t240 8 t244 t245 w0 _ ?side1 ?side2 A7.out).mono ?_
       (case side1 => exact Q64)
       (case side2 => exact Q71)
       rintro e w16 ⟨rfl, hi, hb, hk⟩
       refine ⟨_, rfl, ?_⟩
       have n0_ := Aside0.mk (KeepBut.blk hk (g' := gb229) (o := .cells #[.int .i64 0, .int .i64 0, .int .i64 0, .int .i64 0, .int .i64 0] 38 (0, 0)) Q30 NB229_0.out Q0)
       have n1_ := Aside0.mk (KeepBut.trans Q60 hk (.inl rfl))
       have n2_ := Aside0.mk (hb)
       have n3_ := Aside0.mk (hi)
       have z_HO234 := fun (h0_ : b 2 = true) => (show Kd.R (Kd.int .i64) 3 w16 w.heap.size (fun _ => True) v233 y232 from by first | exact (Kd.R_mono (Kd.R_keep (IsS87.apart (show IsS87 w0 _ g s0_0 t240 from by repeat (first | (with_reducible first | exact HI0.out | apply IsS87.alloc | apply IsS87.drewN | apply IsS87.drew | apply IsS87.set_1 | refine IsS87.far ?_ NB0_229.out _) | exact HI0.out)) Q22 Q1) hk (fun _ h => h.2)) (fun _ h => h.1)) | exact Kd.R_mono (Kd.R_mono (Kd.R_keep (IsS87.apart (show IsS87 w0 _ g s0_0 t240 from by repeat (first | (with_reducible first | exact HI0.out | apply IsS87.alloc | apply IsS87.drewN | apply IsS87.drew | apply IsS87.set_1 | refine IsS87.far ?_ NB0_229.out _) | exact HI0.out)) Q22 Q1) hk (fun _ h => h.2)) (fun _ h => h.1)) (fun _ h_ => by first | trivial | exact h_ | exact h_.1))
       have z_HO243 := fun (h0_ : b 9 = true) => (show Kd.R (Kd.int .i64) 3 w16 w.heap.size (fun _ => True) v242 y241 from by first | exact (Kd.R_mono (Kd.R_keep (IsS87.apart (show IsS87 w0 _ g s0_0 t240 from by repeat (first | (with_reducible first | exact HI0.out | apply IsS87.alloc | apply IsS87.drewN | apply IsS87.drew | apply IsS87.set_1 | refine IsS87.far ?_ NB0_229.out _) | exact HI0.out)) Q23 Q1) hk (fun _ h => h.2)) (fun _ h => h.1)) | exact Kd.R_mono (Kd.R_mono (Kd.R_keep (IsS87.apart (show IsS87 w0 _ g s0_0 t240 from by repeat (first | (with_reducible first | exact HI0.out | apply IsS87.alloc | apply IsS87.drewN | apply IsS87.drew | apply IsS87.set_1 | refine IsS87.far ?_ NB0_229.out _) | exact HI0.out)) Q23 Q1) hk (fun _ h => h.2)) (fun _ h => h.1)) (fun _ h_ => by first | trivial | exact h_ | exact h_.1))
       clear BK229
       clear HK
       clear HB
       clear HI0
       have BK229 := n0_
       have HK := n1_
       have HB := n2_
       have HI0 := n3_
       clear n0_ n1_ n2_ n3_
       (try clear hb)
       (try clear hb2)
       (try clear hk)
       (try clear hi)
       refine hK.out _ _ ⟨v233, adz_v233, v242, adz_v242, m5_, m12_, (by rw [ha.out]; exact putSel_upk 7 hb_ rfl rfl rfl), fun _ => Q30, fun h0_ => absurd ((hon 1 Q2).symm.trans h0_) Q1, Q60, Q71, fun _ h1_ => absurd ((hon 4 Q2).symm.trans h1_) Q1, z_HO234, Q_HA_HO234, fun _ h1_ => absurd ((hon 8 Q2).symm.trans h1_) Q1, fun _ h1_ => absurd ((up_self b 11).symm.trans h1_) Q1, z_HO243, Q_HA_HO243, fun _ => Q64, fun h0_ => absurd ((hoff 15 Q2).symm.trans h0_) Q1, Q_X5_, fun h0_ => absurd ((hoff 12 Q2).symm.trans h0_) Q1⟩
      refine steps_cons ?_ ?_
      ·rintro b a w' ⟨v233, adz_v233, v242, adz_v242, m5_, m12_, ha, Q_BK229, Q_HI0, Q_HK, Q_HB, Q_HI0_e1, Q_HO234, Q_HA_HO234, Q_HI0_e4, Q_HI0_e8, Q_HO243, Q_HA_HO243, Q_HI0_e11, Q_BK229_e15, Q_X5_, Q_X12_⟩ hb_ hon hoff
       refine ⟨_, rfl, fun K hK => ?_⟩
       have e12 : a.tmps[12]? = some (v242) := by rw [ha]; exact putSel_on (e := (9, 12, v242)) 6 rfl rfl (hon 9 Q2) rfl
       have e14 : a.tmps[14]? = some (.int .i64 t244) := by rw [ha]; exact putSel_on (e := (11, 14, .int .i64 t244)) 7 rfl rfl (hon 11 Q2) rfl
       replace ha := Aside0.mk ha
       have BK229 := Aside0.mk (Q_BK229 (hoff 15 Q2))
       have HK := Aside0.mk Q_HK
       have HB := Aside0.mk Q_HB
       have HO243 := Aside0.mk (Q_HO243 (hon 9 Q2))
       have HA_HO243 := Aside0.mk (Q_HA_HO243 (hon 9 Q2))
       have HI0 := Aside0.mk (Q_HI0_e11 (hon 11 Q2))
       obtain ⟨c_, hv_⟩ := HA_HO243.out
       rw [hv_] at e12
       refine value_ (w1 := w') (v := .pointer (some (adz_v242.add (t244).toNat))) (by rfl) rfl ?_ ?_
       ·go_simp
        (try simp only [i64_w])
        try rfl
       refine hK.out _ _ ⟨v233, adz_v233, v242, adz_v242, m5_, (.pointer (some (adz_v242.add (t244).toNat))), (by rw [ha.out]; exact putSel_upk 8 hb_ rfl rfl rfl), Q_BK229, fun h0_ => absurd ((hon 1 Q2).symm.trans h0_) Q1, Q_HK, Q_HB, fun _ h1_ => absurd ((hon 4 Q2).symm.trans h1_) Q1, Q_HO234, Q_HA_HO234, fun _ h1_ => absurd ((hon 8 Q2).symm.trans h1_) Q1, fun _ h1_ => absurd ((hon 11 Q2).symm.trans h1_) Q1, Q_HO243, Q_HA_HO243, Q_HI0_e11, fun h0_ => absurd ((hoff 15 Q2).symm.trans h0_) Q1, Q_X5_, fun _ => rfl⟩
      refine steps_cons ?_ ?_
      ·rintro b a w' ⟨v233, adz_v233, v242, adz_v242, m5_, m12_, ha, Q_BK229, Q_HI0, Q_HK, Q_HB, Q_HI0_e1, Q_HO234, Q_HA_HO234, Q_HI0_e4, Q_HI0_e8, Q_HO243, Q_HA_HO243, Q_HI0_e11, Q_BK229_e15, Q_X5_, Q_X12_⟩ hb_ hon hoff
       refine ⟨_, rfl, fun K hK => ?_⟩
       have e15 : a.tmps[15]? = some (m12_) := by rw [ha]; exact putSel_on (e := (12, 15, m12_)) 8 rfl rfl (hon 12 Q2) rfl
       rw [Q_X12_ (hon 12 Q2)] at e15
       replace ha := Aside0.mk ha
       have BK229 := Aside0.mk (Q_BK229 (hoff 15 Q2))
       have HK := Aside0.mk Q_HK
       have HB := Aside0.mk Q_HB
       have HO243 := Aside0.mk (Q_HO243 (hon 9 Q2))
       have HA_HO243 := Aside0.mk (Q_HA_HO243 (hon 9 Q2))
       have HI0 := Aside0.mk (Q_HI0_e11 (hon 11 Q2))
       obtain ⟨c_, hv_⟩ := HA_HO243.out
       have hF_ := HO243.out
       rw [hv_] at hF_
       obtain ⟨ad_, ea_, hx_⟩ := Kd.at_int (Kd.R_reads' hF_).2.2 t244 (of_eq_true pi246) (of_eq_true qi246)
       cases ea_
       refine value_ (w1 := w') (v := .int .i64 (rd y241 t244)) (by rfl) rfl ?_ ?_
       ·go_simp
        (try simp only [i64_w])
        try rfl
       refine hK.out _ _ ⟨v233, adz_v233, v242, adz_v242, m5_, m12_, (by rw [ha.out]; exact putSel_upk 9 hb_ rfl rfl rfl), Q_BK229, fun h0_ => absurd ((hon 1 Q2).symm.trans h0_) Q1, Q_HK, Q_HB, fun _ h1_ => absurd ((hon 4 Q2).symm.trans h1_) Q1, Q_HO234, Q_HA_HO234, fun _ h1_ => absurd ((hon 8 Q2).symm.trans h1_) Q1, fun _ h1_ => absurd ((hon 11 Q2).symm.trans h1_) Q1, Q_HO243, Q_HA_HO243, Q_HI0_e11, fun h0_ => absurd ((hoff 15 Q2).symm.trans h0_) Q1, Q_X5_, Q_X12_⟩
      refine steps_cons ?_ ?_
      ·rintro b a w' ⟨v233, adz_v233, v242, adz_v242, m5_, m12_, ha, Q_BK229, Q_HI0, Q_HK, Q_HB, Q_HI0_e1, Q_HO234, Q_HA_HO234, Q_HI0_e4, Q_HI0_e8, Q_HO243, Q_HA_HO243, Q_HI0_e11, Q_BK229_e15, Q_X5_, Q_X12_⟩ hb_ hon hoff
       refine ⟨_, rfl, fun K hK => ?_⟩
       have e4 : a.tmps[4]? = some (.int .i64 t230) := by rw [ha]; exact putSel_on (e := (1, 4, .int .i64 t230)) 0 rfl rfl (hon 1 Q2) rfl
       have e9 : a.tmps[9]? = some (.int .i64 (rd y232 t235)) := by rw [ha]; exact putSel_on (e := (6, 9, .int .i64 (rd y232 t235))) 4 rfl rfl (hon 6 Q2) rfl
       have e11 : a.tmps[11]? = some (.agg #[.int .i64 t238, .int .i64 t239]) := by rw [ha]; exact putSel_on (e := (8, 11, .agg #[.int .i64 t238, .int .i64 t239])) 5 rfl rfl (hon 8 Q2) rfl
       have e16 : a.tmps[16]? = some (.int .i64 (rd y241 t244)) := by rw [ha]; exact putSel_on (e := (13, 16, .int .i64 (rd y241 t244))) 9 rfl rfl (hon 13 Q2) rfl
       replace ha := Aside0.mk ha
       have BK229 := Aside0.mk (Q_BK229 (hoff 15 Q2))
       have HK := Aside0.mk Q_HK
       have HB := Aside0.mk Q_HB
       have HO234 := Aside0.mk (Q_HO234 (hon 2 Q2))
       have HA_HO234 := Aside0.mk (Q_HA_HO234 (hon 2 Q2))
       have HO243 := Aside0.mk (Q_HO243 (hon 9 Q2))
       have HA_HO243 := Aside0.mk (Q_HA_HO243 (hon 9 Q2))
       have HI0 := Aside0.mk (Q_HI0_e11 (hon 11 Q2))
       refine value_ (w1 := w') (v := .agg #[.int .i64 t230, .int .i64 (rd y232 t235), .int .i64 t238, .int .i64 t239, .int .i64 (rd y241 t244)]) (by rfl) rfl ?_ ?_
       ·go_simp
        (try simp only [i64_w])
        try rfl
       refine hK.out _ _ ⟨v233, adz_v233, v242, adz_v242, m5_, m12_, (by rw [ha.out]; exact putSel_upk 10 hb_ rfl rfl rfl), Q_BK229, fun h0_ => absurd ((hon 1 Q2).symm.trans h0_) Q1, Q_HK, Q_HB, fun _ h1_ => absurd ((hon 4 Q2).symm.trans h1_) Q1, Q_HO234, Q_HA_HO234, fun _ h1_ => absurd ((hon 8 Q2).symm.trans h1_) Q1, fun _ h1_ => absurd ((hon 11 Q2).symm.trans h1_) Q1, Q_HO243, Q_HA_HO243, Q_HI0_e11, fun h0_ => absurd ((hoff 15 Q2).symm.trans h0_) Q1, Q_X5_, Q_X12_⟩
      refine steps_cons ?_ ?_
      ·rintro b a w' ⟨v233, adz_v233, v242, adz_v242, m5_, m12_, ha, Q_BK229, Q_HI0, Q_HK, Q_HB, Q_HI0_e1, Q_HO234, Q_HA_HO234, Q_HI0_e4, Q_HI0_e8, Q_HO243, Q_HA_HO243, Q_HI0_e11, Q_BK229_e15, Q_X5_, Q_X12_⟩ hb_ hon hoff
       refine ⟨_, rfl, fun K hK => ?_⟩
       have e2 : a.tmps[2]? = some (.pointer (some ⟨gb229, 0, none⟩)) := by rw [ha]; exact (putSel_off rfl).trans rfl
       have e17 : a.tmps[17]? = some (.agg #[.int .i64 t230, .int .i64 (rd y232 t235), .int .i64 t238, .int .i64 t239, .int .i64 (rd y241 t244)]) := by rw [ha]; exact putSel_on (e := (14, 17, .agg #[.int .i64 t230, .int .i64 (rd y232 t235), .int .i64 t238, .int .i64 t239, .int .i64 (rd y241 t244)])) 10 rfl rfl (hon 14 Q2) rfl
       replace ha := Aside0.mk ha
       have BK229 := Aside0.mk (Q_BK229 hb_)
       have HK := Aside0.mk Q_HK
       have HB := Aside0.mk Q_HB
       have HO234 := Aside0.mk (Q_HO234 (hon 2 Q2))
       have HA_HO234 := Aside0.mk (Q_HA_HO234 (hon 2 Q2))
       have HO243 := Aside0.mk (Q_HO243 (hon 9 Q2))
       have HA_HO243 := Aside0.mk (Q_HA_HO243 (hon 9 Q2))
       have HI0 := Aside0.mk (Q_HI0_e11 (hon 11 Q2))
       obtain ⟨co23, eo23⟩ := HA_HO234.out
       clear HA_HO234
       subst eo23
       obtain ⟨co24, eo24⟩ := HA_HO243.out
       clear HA_HO243
       subst eo24
       have hs25 : w'.cell? ⟨gb229, 0, none⟩ = some (.int .i64 0) := (blk_cell BK229.out 0).trans rfl
       have hfs25 := blk_frozen BK229.out 0
       have hs26 : w'.cell? ⟨gb229, 1, none⟩ = some (.int .i64 0) := (blk_cell BK229.out 1).trans rfl
       have hfs26 := blk_frozen BK229.out 1
       have hs27 : w'.cell? ⟨gb229, 2, none⟩ = some (.int .i64 0) := (blk_cell BK229.out 2).trans rfl
       have hfs27 := blk_frozen BK229.out 2
       have hs28 : w'.cell? ⟨gb229, 3, none⟩ = some (.int .i64 0) := (blk_cell BK229.out 3).trans rfl
       have hfs28 := blk_frozen BK229.out 3
       have hs29 : w'.cell? ⟨gb229, 4, none⟩ = some (.int .i64 0) := (blk_cell BK229.out 4).trans rfl
       have hfs29 := blk_frozen BK229.out 4
       refine skip_ (w1 := ?_) (by rfl) rfl ?_ ?_
       rotate_left
       ·go_simp
        rfl
       refine hK.out _ _ ⟨.slice (some adz_v233) y232.length co23, adz_v233, .slice (some adz_v242) y241.length co24, adz_v242, m5_, m12_, (by rw [ha.out]; exact putSel_none (v := undef) rfl), fun h0_ => absurd ((up_self b 15).symm.trans h0_) Q1, fun h0_ => absurd ((hon 1 Q2).symm.trans h0_) Q1, Q60, Q71, fun _ h1_ => absurd ((hon 4 Q2).symm.trans h1_) Q1, fun _ => (by (with_reducible repeat (first | apply Kd.R_alloc | apply Kd.R_drewN | apply Kd.R_drew)); exact Kd.R_mono (Kd.R_far (p := ⟨gb229, 4, none⟩) (Kd.R_far (p := ⟨gb229, 3, none⟩) (Kd.R_far (p := ⟨gb229, 2, none⟩) (Kd.R_far (p := ⟨gb229, 1, none⟩) (Kd.R_far (p := ⟨gb229, 0, none⟩) (Kd.R_types HO234.out BK229.out Q1) (fun _ hk => hk.2) (.int .i64 t230)) (fun _ hk => hk.2) (.int .i64 (rd y232 t235))) (fun _ hk => hk.2) (.int .i64 t238)) (fun _ hk => hk.2) (.int .i64 t239)) (fun _ hk => hk.2) (.int .i64 (rd y241 t244))) (fun _ hk => hk.1)), fun _ => ⟨_, rfl⟩, fun _ h1_ => absurd ((hon 8 Q2).symm.trans h1_) Q1, fun _ h1_ => absurd ((hon 11 Q2).symm.trans h1_) Q1, fun _ => (by (with_reducible repeat (first | apply Kd.R_alloc | apply Kd.R_drewN | apply Kd.R_drew)); exact Kd.R_mono (Kd.R_far (p := ⟨gb229, 4, none⟩) (Kd.R_far (p := ⟨gb229, 3, none⟩) (Kd.R_far (p := ⟨gb229, 2, none⟩) (Kd.R_far (p := ⟨gb229, 1, none⟩) (Kd.R_far (p := ⟨gb229, 0, none⟩) (Kd.R_types HO243.out BK229.out Q1) (fun _ hk => hk.2) (.int .i64 t230)) (fun _ hk => hk.2) (.int .i64 (rd y232 t235))) (fun _ hk => hk.2) (.int .i64 t238)) (fun _ hk => hk.2) (.int .i64 t239)) (fun _ hk => hk.2) (.int .i64 (rd y241 t244))) (fun _ hk => hk.1)), fun _ => ⟨_, rfl⟩, fun _ => Q64, fun _ => (by (with_reducible repeat (first | refine blk_drewN ?_ _ | refine blk_drew ?_ | refine blk_alloc ?_ _)); refine blk_put (cs := #[.int .i64 t230, .int .i64 (rd y232 t235), .int .i64 t238, .int .i64 t239, .int .i64 0]) ?_ 4 _ rfl; (with_reducible repeat (first | refine blk_drewN ?_ _ | refine blk_drew ?_ | refine blk_alloc ?_ _)); refine blk_put (cs := #[.int .i64 t230, .int .i64 (rd y232 t235), .int .i64 t238, .int .i64 0, .int .i64 0]) ?_ 3 _ rfl; (with_reducible repeat (first | refine blk_drewN ?_ _ | refine blk_drew ?_ | refine blk_alloc ?_ _)); refine blk_put (cs := #[.int .i64 t230, .int .i64 (rd y232 t235), .int .i64 0, .int .i64 0, .int .i64 0]) ?_ 2 _ rfl; (with_reducible repeat (first | refine blk_drewN ?_ _ | refine blk_drew ?_ | refine blk_alloc ?_ _)); refine blk_put (cs := #[.int .i64 t230, .int .i64 0, .int .i64 0, .int .i64 0, .int .i64 0]) ?_ 1 _ rfl; (with_reducible repeat (first | refine blk_drewN ?_ _ | refine blk_drew ?_ | refine blk_alloc ?_ _)); refine blk_put (cs := #[.int .i64 0, .int .i64 0, .int .i64 0, .int .i64 0, .int .i64 0]) ?_ 0 _ rfl; (with_reducible repeat (first | refine blk_drewN ?_ _ | refine blk_drew ?_ | refine blk_alloc ?_ _)); exact BK229.out), Q_X5_, Q_X12_⟩
      exact steps_nil
     rintro b a w27 hall ⟨v233, adz_v233, v242, adz_v242, m5_, m12_, ha, Q_BK229, Q_HI0, Q_HK, Q_HB, Q_HI0_e1, Q_HO234, Q_HA_HO234, Q_HI0_e4, Q_HI0_e8, Q_HO243, Q_HA_HO243, Q_HI0_e11, Q_BK229_e15, Q_X5_, Q_X12_⟩
     clear BK229 HB HI0 HK
     have hb1_ := hall 1 Q2
     have hb2_ := hall 2 Q2
     have hb4_ := hall 4 Q2
     have hb5_ := hall 5 Q2
     have hb6_ := hall 6 Q2
     have hb8_ := hall 8 Q2
     have hb9_ := hall 9 Q2
     have hb11_ := hall 11 Q2
     have hb12_ := hall 12 Q2
     have hb13_ := hall 13 Q2
     have hb14_ := hall 14 Q2
     have hb15_ := hall 15 Q2
     subst ha
     obtain rfl := Q_X5_ hb5_
     obtain rfl := Q_X12_ hb12_
     simp only [putSel, hb1_, hb2_, hb4_, hb5_, hb6_, hb8_, hb9_, hb11_, hb12_, hb13_, hb14_, hb15_, if_true, Act.put, List.setIfInBounds_toArray, List.set_cons_zero, List.set_cons_succ]
     clear Q_BK229
     clear Q_HI0
     have HK := Aside0.mk Q_HK
     clear Q_HK
     have HB := Aside0.mk Q_HB
     clear Q_HB
     clear Q_HI0_e1
     have HO234 := Aside0.mk (Q_HO234 hb2_)
     clear Q_HO234
     have HA_HO234 := Aside0.mk (Q_HA_HO234 hb2_)
     clear Q_HA_HO234
     clear Q_HI0_e4
     clear Q_HI0_e8
     have HO243 := Aside0.mk (Q_HO243 hb9_)
     clear Q_HO243
     have HA_HO243 := Aside0.mk (Q_HA_HO243 hb9_)
     clear Q_HA_HO243
     have HI0 := Aside0.mk (Q_HI0_e11 hb11_)
     clear Q_HI0_e11
     have BK229 := Aside0.mk (Q_BK229_e15 hb15_)
     clear Q_BK229_e15
     clear hall hb1_ hb2_ hb4_ hb5_ hb6_ hb8_ hb9_ hb11_ hb12_ hb13_ hb14_ hb15_
     obtain ⟨co28, eo28⟩ := HA_HO234.out
     clear HA_HO234
     subst eo28
     obtain ⟨co29, eo29⟩ := HA_HO243.out
     clear HA_HO243
     subst eo29
     try go_wp2
     refine bodyPost_ret (results_cell_row rfl _ _ gb229 38 #[.int .i64 t230, .int .i64 (rd y232 t235), .int .i64 t238, .int .i64 t239, .int .i64 (rd y241 t244)] (0, 0) _ rfl Q30 Try.underlying38 rfl Q2) rfl ?_
     exact ⟨Q10, Q64, Q71, Q60⟩
    ·rw [if_neg c9] at H
     exact absurd H Q0
   ·rw [if_neg c8] at H
    exact absurd H Q0
  ·rw [if_neg c5] at H
   exact absurd H Q0
 ·rw [if_neg c4] at H
  exact absurd H Q0
mutual
def spec_l71Rows.l0 : Nat → List (S38) → Int → List Int → Int → Option ((List (S38)) × Int)
 | 0, _, _, _, _ => none
 | k + 1, x5, x6, x1000, x1001 => if x6 > 0 then ((spec_l71Row.f k x1000 x1001).bind fun bt252 => (if (x5.length : Int) > 0 then ((spec_l6Rd_pick.f k x1000 bt252.2.2.2.2.2 3).bind fun bt259 => (spec_l71Rows.j1 k x5 x6 (bt259.1 == 0) x1000 bt259.2 bt252.1 bt252.2.1 bt252.2.2.1 bt252.2.2.2.1 bt252.2.2.2.2.1)) else (spec_l71Rows.j1 k x5 x6 false x1000 bt252.2.2.2.2.2 bt252.1 bt252.2.1 bt252.2.2.1 bt252.2.2.2.1 bt252.2.2.2.2.1))) else (some (x5, x1001))
def spec_l71Rows.j1 : Nat → List (S38) → Int → Bool → List Int → Int → Int → Int → Int → Int → Int → Option ((List (S38)) × Int)
 | 0, _, _, _, _, _, _, _, _, _, _ => none
 | k + 1, x5, x6, x27, x1000, x1001, x259000, x259001, x259002, x259003, x259004 => if x27 = true then ((spec_l6Rd_pick.f k x1000 x1001 (x5.length : Int)).bind fun bt261 => (if 0 ≤ bt261.1 then (if bt261.1 < (x5.length : Int) then ((spec_l6Rd_pick.f k x1000 bt261.2 2).bind fun bt265 => (if bt265.1 = 0 then (if x5.length < 3518437208883 then (spec_l71Rows.l0 k (x5 ++ [(⟨(rd_T38 x5 bt261.1).f0, (rd_T38 x5 bt261.1).f1, (⟨x259002, x259003⟩ : S36), wrap64 (-((rd_T38 x5 bt261.1).f3))⟩ : S38)]) (wrap64 (x6 - 1)) x1000 bt265.2) else (none)) else (if x5.length < 3518437208883 then (spec_l71Rows.l0 k (x5 ++ [(⟨(rd_T38 x5 bt261.1).f0, (rd_T38 x5 bt261.1).f1, (⟨x259002, x259003⟩ : S36), x259004⟩ : S38)]) (wrap64 (x6 - 1)) x1000 bt265.2) else (none)))) else (none)) else (none))) else (if x5.length < 3518437208883 then (spec_l71Rows.l0 k (x5 ++ [(⟨x259000, x259001, (⟨x259002, x259003⟩ : S36), x259004⟩ : S38)]) (wrap64 (x6 - 1)) x1000 x1001) else (none))
end
def spec_l71Rows.f (k : Nat) (s0_0 : List Int) (s0_1 : Int) (a1 : Int) : Option ((List (S38)) × Int) := (spec_l6Rd_pick.f k s0_0 s0_1 (wrap64 (a1 + 1))).bind fun bt250 => (spec_l71Rows.l0 k (([] : List (S38))) bt250.1 s0_0 bt250.2)
theorem spec_l71Rows.mono_l : ∀ k, (∀ y0 y1 y2 y3, LeO (spec_l71Rows.l0 k y0 y1 y2 y3) (spec_l71Rows.l0 (k + 1) y0 y1 y2 y3)) ∧ (∀ y0 y1 y2 y3 y4 y5 y6 y7 y8 y9, LeO (spec_l71Rows.j1 k y0 y1 y2 y3 y4 y5 y6 y7 y8 y9) (spec_l71Rows.j1 (k + 1) y0 y1 y2 y3 y4 y5 y6 y7 y8 y9))
 | 0 => ⟨fun _ _ _ _ r h => by simp [spec_l71Rows.l0] at h, fun _ _ _ _ _ _ _ _ _ _ r h => by simp [spec_l71Rows.j1] at h⟩
 | k + 1 => by
  obtain ⟨ih0, ih1⟩ := spec_l71Rows.mono_l k
  refine ⟨?_, ?_⟩
  ·intro y0 y1 y2 y3
   unfold spec_l71Rows.l0
   repeat' first
   | (with_reducible exact ih0 _ _ _ _)
   | (with_reducible exact ih1 _ _ _ _ _ _ _ _ _ _)
   | (with_reducible exact spec_l6Rd_pick.mono _ _ _ _)
   | (with_reducible exact spec_l71Row.mono _ _ _)
   | (with_reducible exact LeO.refl _)
   | (with_reducible exact LeO.none _)
   | (with_reducible refine LeO.ite ?_ ?_)
   | (with_reducible refine LeO.bind ?_ (fun _ => ?_))
   | exact ih0 _ _ _ _
   | exact ih1 _ _ _ _ _ _ _ _ _ _
   | exact spec_l6Rd_pick.mono _ _ _ _
   | exact spec_l71Row.mono _ _ _
   | exact LeO.none _
   | refine LeO.ite ?_ ?_
   | refine LeO.bind ?_ (fun _ => ?_)
  ·intro y0 y1 y2 y3 y4 y5 y6 y7 y8 y9
   unfold spec_l71Rows.j1
   repeat' first
   | (with_reducible exact ih0 _ _ _ _)
   | (with_reducible exact ih1 _ _ _ _ _ _ _ _ _ _)
   | (with_reducible exact spec_l6Rd_pick.mono _ _ _ _)
   | (with_reducible exact spec_l71Row.mono _ _ _)
   | (with_reducible exact LeO.refl _)
   | (with_reducible exact LeO.none _)
   | (with_reducible refine LeO.ite ?_ ?_)
   | (with_reducible refine LeO.bind ?_ (fun _ => ?_))
   | exact ih0 _ _ _ _
   | exact ih1 _ _ _ _ _ _ _ _ _ _
   | exact spec_l6Rd_pick.mono _ _ _ _
   | exact spec_l71Row.mono _ _ _
   | exact LeO.none _
   | refine LeO.ite ?_ ?_
   | refine LeO.bind ?_ (fun _ => ?_)
theorem spec_l71Rows.mono : ∀ a0 a1 a2 k, LeO (spec_l71Rows.f k a0 a1 a2) (spec_l71Rows.f (k + 1) a0 a1 a2) := by
 intro a0 a1 a2 k
 obtain ⟨ih0, ih1⟩ := spec_l71Rows.mono_l k
 unfold spec_l71Rows.f
 repeat' first
   | (with_reducible exact ih0 _ _ _ _)
   | (with_reducible exact ih1 _ _ _ _ _ _ _ _ _ _)
   | (with_reducible exact spec_l6Rd_pick.mono _ _ _ _)
   | (with_reducible exact spec_l71Row.mono _ _ _)
   | (with_reducible exact LeO.refl _)
   | (with_reducible exact LeO.none _)
   | (with_reducible refine LeO.ite ?_ ?_)
   | (with_reducible refine LeO.bind ?_ (fun _ => ?_))
   | exact ih0 _ _ _ _
   | exact ih1 _ _ _ _ _ _ _ _ _ _
   | exact spec_l6Rd_pick.mono _ _ _ _
   | exact spec_l71Row.mono _ _ _
   | exact LeO.none _
   | refine LeO.ite ?_ ?_
   | refine LeO.bind ?_ (fun _ => ?_)
end Go.Proofs.Ytjlkffmdmifahaa.PFnBatchTwice
