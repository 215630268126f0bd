/- Functions that the law comes to: each as a plain Lean function, with the contract of the Go function. -/
import Derived.Test.YtjlkffmdmifahaaVFnExactBatchMovew
import Derived.Test.YtjlkffmdmifahaaVFnExactBatchMovep0
import Derived.Test.YtjlkffmdmifahaaVFnExactBatchMovep1
namespace Go.Proofs.Ytjlkffmdmifahaa.PFnExactBatchMove
open Go.RowKit Go.Proofs.YtjlkffmdmifahaaW.PrintWords Go.Proofs.YtjlkffmdmifahaaW.PrintLast Go.Proofs.YtjlkffmdmifahaaW.PrintMore
attribute [local go_sem] max2_int min2_int max_two min_two max_three min_three max_four min_four
set_option linter.unusedVariables false
set_option linter.unusedSimpArgs false
set_option maxHeartbeats 8000000 in
set_option maxRecDepth 100000 in
theorem impl_moved.calls (k : Nat) (A0 : Option Addr) (c0 : Nat) (l0 : List (S36)) (a1_0 : Int) (a1_1 : Int) (r1 : Int) (r2 : Int) (w : World) (hr0 : Kd.C k36 w A0 l0.length l0) (hc0 : l0.length ≤ c0) (h : impl_moved.f k l0 a1_0 a1_1 = some (r1, r2)) :
  Calls Try.prog 85 #[.slice A0 l0.length c0, .agg #[.int .i64 a1_0, .int .i64 a1_1]] w fun e w' => e = .returned (.agg #[.int .i64 r1, .int .i64 r2]) ∧ Below w.heap.size w w' := by
 have hu36 := Try.underlying36
 have HR0 := Aside0.mk hr0
 have HC0 := Aside0.mk hc0
 clear hr0 hc0
 have HB := Aside0.mk (Below.refl w.heap.size w)
 have H : (if (l0.length : Int) = 0 then (some (a1_0, a1_1)) else (if 0 < (l0.length : Int) then ((impl_TimeJoin.f ((rd_T36 l0 0).f0) ((rd_T36 l0 0).f1) a1_0 a1_1).bind fun bt139 => (impl_moved.l0 k l0 (l0.length : Int) 0 a1_0 a1_1 bt139.1 bt139.2)) else (none))) = some (r1, r2) := h
 clear h
 by_cases c3 : (l0.length : Int) = 0
 ·rw [if_pos c3] at H
  have c3b0 : ((l0.length : Int) == 0) = true := beq_iff_eq.mpr c3
  have c3b1 : ((l0.length : Int) != 0) = false := bne_eq_false_iff_eq.mpr c3
  clear c3
  simp only [Option.some.injEq, Prod.mk.injEq] at H
  obtain ⟨rfl, rfl⟩ := H
  go_enter Try.func85, Try.ntmps85
  go_wp2_with (first | ((with_reducible refine gate_dst (N := 3) rfl ?_); refine box_event ?hg (N := 3) ?hd (cs := #[.int .i64 a1_0, .int .i64 a1_1]) (t := 36) ?hr ?_; (case hd => rfl); (case hg => rfl); (case hr => first | (go_simp; done) | (go_simp; rfl)); intro gb136 hg w4 hbox hb; have n0_ := Aside0.mk (below_step Q64 hb); have n1_ := Aside0.mk (hbox); have n2_ := Aside0.mk ((Q105 : w.heap.size ≤ gb136)); have n3_ := n2_; clear HB; have HB := n0_; have BK136 := n1_; have GW136 := n2_; have GE136 := n3_; clear n0_ n1_ n2_ n3_; clear hb hbox hg) | ((with_reducible refine gate_dst (N := 4) rfl ?_); refine box_event ?hg (N := 4) ?hd (cs := #[.int .i64 0, .int .i64 0]) (t := 36) ?hr ?_; (case hd => rfl); (case hg => rfl); (case hr => first | (go_simp; done) | (go_simp; rfl)); intro gb137 hg w5 hbox hb; have n0_ := Aside0.mk (blk_below (g := gb136) (o := .cells #[.int .i64 a1_0, .int .i64 a1_1] 36 (0, 0)) Q40 hb); have n1_ := Aside0.mk (below_step Q74 hb); have n2_ := Aside0.mk (hbox); have n3_ := Aside0.mk ((by rw [hg]; exact (below_size Q74) : w.heap.size ≤ gb137)); have n4_ := n3_; have n5_ := Aside0.mk ((Q118 : gb136 ≠ gb137)); have n6_ := Aside0.mk ((Q119 : gb137 ≠ gb136)); clear BK136; clear HB; have BK136 := n0_; have HB := n1_; have BK137 := n2_; have GW137 := n3_; have GE137 := n4_; have NB136_137 := n5_; have NB137_136 := n6_; clear n0_ n1_ n2_ n3_ n4_ n5_ n6_; clear hb hbox hg; have hnb6 := NB136_137.out; have hnc6 := NB137_136.out; have hcz7_0 : w5.cell? ⟨gb136, 0, none⟩ = some (.int .i64 a1_0) := (blk_cell BK136.out 0).trans rfl; have hcz7_1 : w5.cell? ⟨gb136, 1, none⟩ = some (.int .i64 a1_1) := (blk_cell BK136.out 1).trans rfl; have hfz7_0 := blk_frozen BK136.out 0; have hfz7_1 := blk_frozen BK136.out 1; have hcz8_0 : w5.cell? ⟨gb137, 0, none⟩ = some (.int .i64 0) := (blk_cell BK137.out 0).trans rfl; have hcz8_1 : w5.cell? ⟨gb137, 1, none⟩ = some (.int .i64 0) := (blk_cell BK137.out 1).trans rfl; have hfz8_0 := blk_frozen BK137.out 0; have hfz8_1 := blk_frozen BK137.out 1))
  refine bodyPost_ret (results_cell_row rfl _ _ gb137 36 #[.int .i64 a1_0, .int .i64 a1_1] (0, 0) _ rfl (by (with_reducible repeat (first | refine blk_drewN ?_ _ | refine blk_drew ?_ | refine blk_alloc ?_ _)); refine blk_put (cs := #[.int .i64 a1_0, .int .i64 0]) ?_ 1 _ rfl; (with_reducible repeat (first | refine blk_drewN ?_ _ | refine blk_drew ?_ | refine blk_alloc ?_ _)); refine blk_put (cs := #[.int .i64 0, .int .i64 0]) ?_ 0 _ rfl; (with_reducible repeat (first | refine blk_drewN ?_ _ | refine blk_drew ?_ | refine blk_alloc ?_ _)); exact BK137.out) Try.underlying36 rfl Q1) rfl ?_
  exact ⟨Q12, Q88⟩
 ·rw [if_neg c3] at H
  have c3b0 : ((l0.length : Int) == 0) = false := beq_eq_false_iff_ne.mpr c3
  have c3b1 : ((l0.length : Int) != 0) = true := bne_iff_ne.mpr c3
  have c3b2 : ¬ (l0 = []) := fun h_ => c3 (by rw [h_]; rfl)
  by_cases c9 : 0 < (l0.length : Int)
  ·rw [if_pos c9] at H
   have c9b0 : decide (0 < (l0.length : Int)) = true := decide_eq_true c9
   have c9b1 : decide (0 < l0.length) = true := decide_eq_true (by omega)
   clear c9
   replace H := Option.bind_eq_some_iff.mp H
   obtain ⟨⟨t139, t140⟩, A100, H⟩ := H
   replace H : (impl_moved.l0 k l0 (l0.length : Int) 0 a1_0 a1_1 t139 t140) = some (r1, r2) := H
   have A10 := Aside0.mk A100
   clear A100
   have H' := Aside0.mk H
   clear H
   go_enter Try.func85, Try.ntmps85
   try go_wp2_with (first | ((with_reducible refine gate_dst (N := 3) rfl ?_); refine box_event ?hg (N := 3) ?hd (cs := #[.int .i64 a1_0, .int .i64 a1_1]) (t := 36) ?hr ?_; (case hd => rfl); (case hg => rfl); (case hr => first | (go_simp; done) | (go_simp; rfl)); intro gb136 hg w11 hbox hb; have n0_ := Aside0.mk (below_step Q64 hb); have n1_ := Aside0.mk (hbox); have n2_ := Aside0.mk ((Q105 : w.heap.size ≤ gb136)); have n3_ := n2_; clear HB; have HB := n0_; have BK136 := n1_; have GW136 := n2_; have GE136 := n3_; clear n0_ n1_ n2_ n3_; clear hb hbox hg) | ((with_reducible refine gate_dst (N := 4) rfl ?_); refine box_event ?hg (N := 4) ?hd (cs := #[.int .i64 0, .int .i64 0]) (t := 36) ?hr ?_; (case hd => rfl); (case hg => rfl); (case hr => first | (go_simp; done) | (go_simp; rfl)); intro gb137 hg w12 hbox hb; have n0_ := Aside0.mk (blk_below (g := gb136) (o := .cells #[.int .i64 a1_0, .int .i64 a1_1] 36 (0, 0)) Q40 hb); have n1_ := Aside0.mk (below_step Q74 hb); have n2_ := Aside0.mk (hbox); have n3_ := Aside0.mk ((by rw [hg]; exact (below_size Q74) : w.heap.size ≤ gb137)); have n4_ := n3_; have n5_ := Aside0.mk ((Q118 : gb136 ≠ gb137)); have n6_ := Aside0.mk ((Q119 : gb137 ≠ gb136)); clear BK136; clear HB; have BK136 := n0_; have HB := n1_; have BK137 := n2_; have GW137 := n3_; have GE137 := n4_; have NB136_137 := n5_; have NB137_136 := n6_; clear n0_ n1_ n2_ n3_ n4_ n5_ n6_; clear hb hbox hg))
   have n0_ := Aside0.mk (blk_drew BK136.out)
   have n1_ := Aside0.mk (blk_drew BK137.out)
   have n2_ := Aside0.mk (below_drew1 HB.out)
   clear BK136
   clear BK137
   clear HB
   have BK136 := n0_
   have BK137 := n1_
   have HB := n2_
   clear n0_ n1_ n2_
   have p138 : 0 ≤ (0 : Int) := (by omega)
   have q138 : 0 < (l0.length : Int) := of_decide_eq_true Q5
   obtain ⟨ad138, e138, hx138_0, hx138_1⟩ := at_T36 HR0.out 0 p138 q138
   have hw138_1 := hx138_1
   (try rw [show ((0 : Int)).toNat = 0 from rfl] at hw138_1)
   (try rw [show 0 * 2 = 0 from rfl] at hw138_1)
   (try rw [Addr.add_zero'] at hw138_1)
   have hw138_0 := hx138_0
   (try rw [show ((0 : Int)).toNat = 0 from rfl] at hw138_0)
   (try rw [show 0 * 2 = 0 from rfl] at hw138_0)
   (try rw [Addr.add_zero'] at hw138_0)
   cases e138
   have qi138 : (0 < l0.length) = True := eq_true (by omega)
   (try rw [show ((0 : Int)).toNat = 0 from rfl] at hx138_0)
   (try rw [show 0 * 2 = 0 from rfl] at hx138_0)
   (try rw [Addr.add_zero'] at hx138_0)
   (try rw [show ((0 : Int)).toNat = 0 from rfl] at hx138_1)
   (try rw [show 0 * 2 = 0 from rfl] at hx138_1)
   (try rw [Addr.add_zero'] at hx138_1)
   replace hx138_0 := (HB.out.cell (World.block_lt_of_cell? w _ hx138_0)).trans hx138_0
   replace hx138_1 := (HB.out.cell (World.block_lt_of_cell? w _ hx138_1)).trans hx138_1
   replace p138 := eq_true p138
   replace q138 := eq_true q138
   refine start_ (n := 7) (S := fun w' => w'.cell? ⟨gb136, 0, none⟩ = some (.int .i64 a1_0) ∧ w'.cell? ⟨gb136, 1, none⟩ = some (.int .i64 a1_1) ∧ w'.cell? ad138 = some (.int .i64 ((rd_T36 l0 0).f0)) ∧ w'.cell? ⟨ad138.block, ad138.off + 1, none⟩ = some (.int .i64 ((rd_T36 l0 0).f1))) (ds := []) b7_0 Q1 rfl rfl ⟨(blk_cell BK136.out 0).trans rfl, (blk_cell BK136.out 1).trans rfl, ((HB.out.cell (World.block_lt_of_cell? w _ hw138_0)).trans hw138_0), ((HB.out.cell (World.block_lt_of_cell? w _ hw138_1)).trans hw138_1)⟩ (fun hHeld => ?_)
   generalize w12.drew = w13 at BK136 BK137 HB hx138_0 hx138_1 hHeld ⊢
   refine pU_ 0 12 b7_1 ?_
   refine pU_ 1 13 b7_2 ?_
   refine tU_ 2 14 b7_3 hHeld ?_
   refine tU_ 3 15 b7_4 hHeld ?_
   refine join_ (σ := Nat) 1 b7_6 (fun s_ => [(16, .agg #[.int .i64 t139, .int .i64 t140]), (5, .pointer (some ⟨s_, 0, none⟩))]) (fun s_ w' => (w'.cell? ⟨gb136, 0, none⟩ = some (.int .i64 a1_0) ∧ w'.cell? ⟨gb136, 1, none⟩ = some (.int .i64 a1_1) ∧ w'.cell? ad138 = some (.int .i64 ((rd_T36 l0 0).f0)) ∧ w'.cell? ⟨ad138.block, ad138.off + 1, none⟩ = some (.int .i64 ((rd_T36 l0 0).f1))) ∧ (w'.heap[gb136]? = some (.cells #[.int .i64 a1_0, .int .i64 a1_1] 36 (0, 0))) ∧ (w'.heap[gb137]? = some (.cells #[.int .i64 0, .int .i64 0] 36 (0, 0))) ∧ (w'.heap[s_]? = some (.cells #[.int .i64 0, .int .i64 0] 36 (0, 0))) ∧ (w.heap.size ≤ s_) ∧ (w.heap.size ≤ s_) ∧ (gb136 ≠ s_) ∧ (s_ ≠ gb136) ∧ (gb137 ≠ s_) ∧ (s_ ≠ gb137) ∧ (Below w.heap.size w w')) ?_ ?_
   rotate_left
   ·intro hCont
    refine two_ (i := 4) (j := 5) (Ni := some 16) (Nj := some 5) b7_5 c57 rfl rfl rfl rfl Q1 Q0 Q0 (fun K hK => ?_) (fun K hK => ?_)
    ·skip
     refine goes_ Try.func98 Q1 rfl #[.agg #[.int .i64 ((rd_T36 l0 0).f0), .int .i64 ((rd_T36 l0 0).f1)], .agg #[.int .i64 a1_0, .int .i64 a1_1]] (by rfl) rfl rfl Q65 ?_
     with_reducible refine (impl_TimeJoin.calls ((rd_T36 l0 0).f0) ((rd_T36 l0 0).f1) a1_0 a1_1 t139 t140 _ A10.out).mono ?_
     rintro e w14 ⟨rfl, hb⟩
     refine ⟨_, rfl, ?_⟩
     have n0_ := Aside0.mk (blk_below (g := gb136) (o := .cells #[.int .i64 a1_0, .int .i64 a1_1] 36 (0, 0)) Q40 hb)
     have n1_ := Aside0.mk (blk_below (g := gb137) (o := .cells #[.int .i64 0, .int .i64 0] 36 (0, 0)) Q41 hb)
     have n2_ := Aside0.mk (below_step Q88 hb)
     clear BK136
     clear BK137
     clear HB
     have BK136 := n0_
     have BK137 := n1_
     have HB := n2_
     clear n0_ n1_ n2_
     (try clear hb)
     (try clear hb2)
     (try clear hk)
     (try clear hi)
     refine hK.out _ _ ⟨(blk_cell BK136.out 0).trans rfl, (blk_cell BK136.out 1).trans rfl, ((HB.out.cell (World.block_lt_of_cell? w _ hw138_0)).trans hw138_0), ((HB.out.cell (World.block_lt_of_cell? w _ hw138_1)).trans hw138_1)⟩ (fun hHeld => ?_)
     clear hK K
     refine norm_ (a' := ?_) ?_ ?_
     rotate_left
     ·show Act.put _ (some 16) _ = _
      simp only [Act.put, List.setIfInBounds_toArray, List.set_cons_zero, List.set_cons_succ, i64_w, i32_w]
      rfl
     refine one_ (i := 5) (N := some 5) b7_6 rfl rfl Q1 Q0 (fun K hK => ?_)
     refine box_step ?hg (N := 5) ?hd (cs := #[.int .i64 0, .int .i64 0]) (t := 36) ?hr ?_; (case hd => rfl); (case hg => rfl); (case hr => first | (go_simp; done) | (go_simp; rfl))
     intro gb141 hg w15 hbox hb
     have n0_ := Aside0.mk (blk_below (g := gb136) (o := .cells #[.int .i64 a1_0, .int .i64 a1_1] 36 (0, 0)) Q40 hb)
     have n1_ := Aside0.mk (blk_below (g := gb137) (o := .cells #[.int .i64 0, .int .i64 0] 36 (0, 0)) Q41 hb)
     have n2_ := Aside0.mk (below_step Q88 hb)
     have n3_ := Aside0.mk (hbox)
     have n4_ := Aside0.mk ((by rw [hg]; exact (below_size Q88) : w.heap.size ≤ gb141))
     have n5_ := Aside0.mk ((by rw [hg]; exact (below_size Q88) : w.heap.size ≤ gb141))
     have n6_ := Aside0.mk ((Q118 : gb136 ≠ gb141))
     have n7_ := Aside0.mk ((Q119 : gb141 ≠ gb136))
     have n8_ := Aside0.mk ((Q106 : gb137 ≠ gb141))
     have n9_ := Aside0.mk ((Q107 : gb141 ≠ gb137))
     clear BK136
     clear BK137
     clear HB
     have BK136 := n0_
     have BK137 := n1_
     have HB := n2_
     have BK141 := n3_
     have GW141 := n4_
     have GE141 := n5_
     have NB136_141 := n6_
     have NB141_136 := n7_
     have NB137_141 := n8_
     have NB141_137 := n9_
     clear n0_ n1_ n2_ n3_ n4_ n5_ n6_ n7_ n8_ n9_
     clear hb hbox hg
     refine hK.out _ _ ⟨(blk_cell BK136.out 0).trans rfl, (blk_cell BK136.out 1).trans rfl, ((HB.out.cell (World.block_lt_of_cell? w _ hw138_0)).trans hw138_0), ((HB.out.cell (World.block_lt_of_cell? w _ hw138_1)).trans hw138_1)⟩ (fun hHeld => ?_)
     clear hK K
     refine norm_ (a' := ?_) ?_ ?_
     rotate_left
     ·show Act.put _ (some 5) _ = _
      simp only [Act.put, List.setIfInBounds_toArray, List.set_cons_zero, List.set_cons_succ, i64_w, i32_w]
      rfl
     exact norm_ Q13 (hCont (gb141) _ ⟨hHeld, Q40, Q41, Q42, GW141.out, GE141.out, NB136_141.out, NB141_136.out, NB137_141.out, NB141_137.out, Q97⟩)
    ·skip
     refine box_step ?hg (N := 5) ?hd (cs := #[.int .i64 0, .int .i64 0]) (t := 36) ?hr ?_; (case hd => rfl); (case hg => rfl); (case hr => first | (go_simp; done) | (go_simp; rfl))
     intro gb141 hg w14 hbox hb
     have n0_ := Aside0.mk (blk_below (g := gb136) (o := .cells #[.int .i64 a1_0, .int .i64 a1_1] 36 (0, 0)) Q40 hb)
     have n1_ := Aside0.mk (blk_below (g := gb137) (o := .cells #[.int .i64 0, .int .i64 0] 36 (0, 0)) Q41 hb)
     have n2_ := Aside0.mk (below_step Q88 hb)
     have n3_ := Aside0.mk (hbox)
     have n4_ := Aside0.mk ((by rw [hg]; exact (below_size Q88) : w.heap.size ≤ gb141))
     have n5_ := Aside0.mk ((by rw [hg]; exact (below_size Q88) : w.heap.size ≤ gb141))
     have n6_ := Aside0.mk ((Q118 : gb136 ≠ gb141))
     have n7_ := Aside0.mk ((Q119 : gb141 ≠ gb136))
     have n8_ := Aside0.mk ((Q106 : gb137 ≠ gb141))
     have n9_ := Aside0.mk ((Q107 : gb141 ≠ gb137))
     clear BK136
     clear BK137
     clear HB
     have BK136 := n0_
     have BK137 := n1_
     have HB := n2_
     have BK141 := n3_
     have GW141 := n4_
     have GE141 := n5_
     have NB136_141 := n6_
     have NB141_136 := n7_
     have NB137_141 := n8_
     have NB141_137 := n9_
     clear n0_ n1_ n2_ n3_ n4_ n5_ n6_ n7_ n8_ n9_
     clear hb hbox hg
     refine hK.out _ _ ⟨(blk_cell BK136.out 0).trans rfl, (blk_cell BK136.out 1).trans rfl, ((HB.out.cell (World.block_lt_of_cell? w _ hw138_0)).trans hw138_0), ((HB.out.cell (World.block_lt_of_cell? w _ hw138_1)).trans hw138_1)⟩ (fun hHeld => ?_)
     clear hK K
     refine norm_ (a' := ?_) ?_ ?_
     rotate_left
     ·show Act.put _ (some 5) _ = _
      simp only [Act.put, List.setIfInBounds_toArray, List.set_cons_zero, List.set_cons_succ, i64_w, i32_w]
      rfl
     refine one_ (i := 4) (N := some 16) b7_6 rfl rfl Q1 Q0 (fun K hK => ?_)
     refine goes_ Try.func98 Q1 rfl #[.agg #[.int .i64 ((rd_T36 l0 0).f0), .int .i64 ((rd_T36 l0 0).f1)], .agg #[.int .i64 a1_0, .int .i64 a1_1]] (by rfl) rfl rfl Q65 ?_
     with_reducible refine (impl_TimeJoin.calls ((rd_T36 l0 0).f0) ((rd_T36 l0 0).f1) a1_0 a1_1 t139 t140 _ A10.out).mono ?_
     rintro e w15 ⟨rfl, hb⟩
     refine ⟨_, rfl, ?_⟩
     have n0_ := Aside0.mk (blk_below (g := gb136) (o := .cells #[.int .i64 a1_0, .int .i64 a1_1] 36 (0, 0)) Q40 hb)
     have n1_ := Aside0.mk (blk_below (g := gb137) (o := .cells #[.int .i64 0, .int .i64 0] 36 (0, 0)) Q41 hb)
     have n2_ := Aside0.mk (blk_below (g := gb141) (o := .cells #[.int .i64 0, .int .i64 0] 36 (0, 0)) Q42 hb)
     have n3_ := Aside0.mk (below_step Q97 hb)
     clear BK136
     clear BK137
     clear BK141
     clear HB
     have BK136 := n0_
     have BK137 := n1_
     have BK141 := n2_
     have HB := n3_
     clear n0_ n1_ n2_ n3_
     (try clear hb)
     (try clear hb2)
     (try clear hk)
     (try clear hi)
     refine hK.out _ _ ⟨(blk_cell BK136.out 0).trans rfl, (blk_cell BK136.out 1).trans rfl, ((HB.out.cell (World.block_lt_of_cell? w _ hw138_0)).trans hw138_0), ((HB.out.cell (World.block_lt_of_cell? w _ hw138_1)).trans hw138_1)⟩ (fun hHeld => ?_)
     clear hK K
     refine norm_ (a' := ?_) ?_ ?_
     rotate_left
     ·show Act.put _ (some 16) _ = _
      simp only [Act.put, List.setIfInBounds_toArray, List.set_cons_zero, List.set_cons_succ, i64_w, i32_w]
      rfl
     exact norm_ Q13 (hCont (gb141) _ ⟨hHeld, Q40, Q41, Q42, GW141.out, GE141.out, NB136_141.out, NB141_136.out, NB137_141.out, NB141_137.out, Q97⟩)
   rintro gb141 w16 ⟨hS_, h0_, h1_, h2_, h3_, h4_, h5_, h6_, h7_, h8_, h9_⟩
   have n0_ : Aside0 (w16.heap[gb136]? = some (.cells #[.int .i64 a1_0, .int .i64 a1_1] 36 (0, 0))) := ⟨h0_⟩
   have n1_ : Aside0 (w16.heap[gb137]? = some (.cells #[.int .i64 0, .int .i64 0] 36 (0, 0))) := ⟨h1_⟩
   have n2_ : Aside0 (w16.heap[gb141]? = some (.cells #[.int .i64 0, .int .i64 0] 36 (0, 0))) := ⟨h2_⟩
   have n3_ : Aside0 (w.heap.size ≤ gb141) := ⟨h3_⟩
   have n4_ : Aside0 (w.heap.size ≤ gb141) := ⟨h4_⟩
   have n5_ : Aside0 (gb136 ≠ gb141) := ⟨h5_⟩
   have n6_ : Aside0 (gb141 ≠ gb136) := ⟨h6_⟩
   have n7_ : Aside0 (gb137 ≠ gb141) := ⟨h7_⟩
   have n8_ : Aside0 (gb141 ≠ gb137) := ⟨h8_⟩
   have n9_ : Aside0 (Below w.heap.size w w16) := ⟨h9_⟩
   clear BK136
   clear BK137
   clear HB
   clear h0_ h1_ h2_ h3_ h4_ h5_ h6_ h7_ h8_ h9_
   have BK136 := n0_
   have BK137 := n1_
   have BK141 := n2_
   have GW141 := n3_
   have GE141 := n4_
   have NB136_141 := n5_
   have NB141_136 := n6_
   have NB137_141 := n7_
   have NB141_137 := n8_
   have HB := n9_
   clear n0_ n1_ n2_ n3_ n4_ n5_ n6_ n7_ n8_ n9_
   have hHeld : w16.cell? ⟨gb136, 0, none⟩ = some (.int .i64 a1_0) ∧ w16.cell? ⟨gb136, 1, none⟩ = some (.int .i64 a1_1) ∧ w16.cell? ad138 = some (.int .i64 ((rd_T36 l0 0).f0)) ∧ w16.cell? ⟨ad138.block, ad138.off + 1, none⟩ = some (.int .i64 ((rd_T36 l0 0).f1)) := hS_
   refine norm_ (a' := ?_) ?_ ?_
   rotate_left
   ·simp only [putAll, Act.put, List.setIfInBounds_toArray, List.set_cons_zero, List.set_cons_succ]
    rfl
   refine one_ (i := 6) (N := none) b7_7 rfl rfl Q1 Q0 (fun K hK => ?_)
   have hs17 : w16.cell? ⟨gb141, 0, none⟩ = some (.int .i64 0) := (blk_cell BK141.out 0).trans rfl
   have hfs17 := blk_frozen BK141.out 0
   have hns17_0 := NB136_141.out
   have hns17_1 := NB137_141.out
   have hms17_0 := NB141_136.out
   have hms17_1 := NB141_137.out
   have hs18 : w16.cell? ⟨gb141, 1, none⟩ = some (.int .i64 0) := (blk_cell BK141.out 1).trans rfl
   have hfs18 := blk_frozen BK141.out 1
   have hns18_0 := NB136_141.out
   have hns18_1 := NB137_141.out
   have hms18_0 := NB141_136.out
   have hms18_1 := NB141_137.out
   refine skip_ (w1 := ?_) (by rfl) rfl ?_ ?_
   rotate_left
   ·go_simp
    rfl
   refine hK.out _ _ ⟨((cell_far (p := ⟨gb141, _, none⟩) NB136_141.out _).trans (((cell_far (p := ⟨gb141, _, none⟩) NB136_141.out _).trans (hHeld.1)))), ((cell_far (p := ⟨gb141, _, none⟩) NB136_141.out _).trans (((cell_far (p := ⟨gb141, _, none⟩) NB136_141.out _).trans (hHeld.2.1)))), ((cell_far (p := ⟨gb141, _, none⟩) (by first | exact Nat.ne_of_lt (Nat.lt_of_lt_of_le Q8 GW141.out) | (rw [add_block]; exact Nat.ne_of_lt (Nat.lt_of_lt_of_le Q8 GW141.out)) | (show (Addr.add _ _).block ≠ _; rw [add_block]; exact Nat.ne_of_lt (Nat.lt_of_lt_of_le Q8 GW141.out)) | (dsimp only; exact Nat.ne_of_lt (Nat.lt_of_lt_of_le Q8 GW141.out))) _).trans (((cell_far (p := ⟨gb141, _, none⟩) (by first | exact Nat.ne_of_lt (Nat.lt_of_lt_of_le Q8 GW141.out) | (rw [add_block]; exact Nat.ne_of_lt (Nat.lt_of_lt_of_le Q8 GW141.out)) | (show (Addr.add _ _).block ≠ _; rw [add_block]; exact Nat.ne_of_lt (Nat.lt_of_lt_of_le Q8 GW141.out)) | (dsimp only; exact Nat.ne_of_lt (Nat.lt_of_lt_of_le Q8 GW141.out))) _).trans (hHeld.2.2.1)))), ((cell_far (p := ⟨gb141, _, none⟩) (by first | exact Nat.ne_of_lt (Nat.lt_of_lt_of_le Q9 GW141.out) | (rw [add_block]; exact Nat.ne_of_lt (Nat.lt_of_lt_of_le Q9 GW141.out)) | (show (Addr.add _ _).block ≠ _; rw [add_block]; exact Nat.ne_of_lt (Nat.lt_of_lt_of_le Q9 GW141.out)) | (dsimp only; exact Nat.ne_of_lt (Nat.lt_of_lt_of_le Q9 GW141.out))) _).trans (((cell_far (p := ⟨gb141, _, none⟩) (by first | exact Nat.ne_of_lt (Nat.lt_of_lt_of_le Q9 GW141.out) | (rw [add_block]; exact Nat.ne_of_lt (Nat.lt_of_lt_of_le Q9 GW141.out)) | (show (Addr.add _ _).block ≠ _; rw [add_block]; exact Nat.ne_of_lt (Nat.lt_of_lt_of_le Q9 GW141.out)) | (dsimp only; exact Nat.ne_of_lt (Nat.lt_of_lt_of_le Q9 GW141.out))) _).trans (hHeld.2.2.2))))⟩ (fun hHeld => ?_)
   clear hK K
   refine done_ Q1 ?_
   try go_wp2
   go_loopg [19] k (fun kq v19 w' => ∃ (x19_1 : Int) (x142000_1 : Int) (x142001_1 : Int), v19 = .int .i64 x19_1 ∧ Aside0 (impl_moved.l0 kq l0 (l0.length : Int) x19_1 a1_0 a1_1 x142000_1 x142001_1 = some (r1, r2)) ∧ Aside0 (kq ≤ k) ∧ Aside0 (w'.heap[gb136]? = some (.cells #[.int .i64 a1_0, .int .i64 a1_1] 36 (0, 0))) ∧ Aside0 (w'.heap[gb137]? = some (.cells #[.int .i64 0, .int .i64 0] 36 (0, 0))) ∧ Aside0 (w'.heap[gb141]? = some (.cells #[.int .i64 x142000_1, .int .i64 x142001_1] 36 (0, 0))) ∧ Aside0 (Below w.heap.size w w'))
   case atStart => exact ⟨(0), (t139), (t140), Q4, H', ⟨Nat.le_refl _⟩, ⟨by (with_reducible repeat (first | refine blk_drewN ?_ _ | refine blk_drew ?_ | refine blk_alloc ?_ _)); refine blk_far ?_ NB136_141.out _; (with_reducible repeat (first | refine blk_drewN ?_ _ | refine blk_drew ?_ | refine blk_alloc ?_ _)); refine blk_far ?_ NB136_141.out _; (with_reducible repeat (first | refine blk_drewN ?_ _ | refine blk_drew ?_ | refine blk_alloc ?_ _)); exact BK136.out⟩, ⟨by (with_reducible repeat (first | refine blk_drewN ?_ _ | refine blk_drew ?_ | refine blk_alloc ?_ _)); refine blk_far ?_ NB137_141.out _; (with_reducible repeat (first | refine blk_drewN ?_ _ | refine blk_drew ?_ | refine blk_alloc ?_ _)); refine blk_far ?_ NB137_141.out _; (with_reducible repeat (first | refine blk_drewN ?_ _ | refine blk_drew ?_ | refine blk_alloc ?_ _)); exact BK137.out⟩, ⟨by (with_reducible repeat (first | refine blk_drewN ?_ _ | refine blk_drew ?_ | refine blk_alloc ?_ _)); refine blk_put (cs := #[.int .i64 t139, .int .i64 0]) ?_ 1 _ rfl; (with_reducible repeat (first | refine blk_drewN ?_ _ | refine blk_drew ?_ | refine blk_alloc ?_ _)); refine blk_put (cs := #[.int .i64 0, .int .i64 0]) ?_ 0 _ rfl; (with_reducible repeat (first | refine blk_drewN ?_ _ | refine blk_drew ?_ | refine blk_alloc ?_ _)); exact BK141.out⟩, ⟨Q97⟩⟩
   case round =>
    clear H'
    try clear p1
    try clear q1
    try clear hx1
    try clear qi1
    try clear p2
    try clear c3
    try clear c3b0
    try clear c3b1
    try clear c3b2
    try clear c6
    try clear c8
    try clear c9
    try clear c9b0
    try clear c9b1
    try clear p13
    try clear q13
    try clear hx13
    try clear qi13
    try clear hcz7_0
    try clear hcz7_1
    try clear hcz8_0
    try clear hcz8_1
    try clear hfz7_0
    try clear hfz7_1
    try clear hfz8_0
    try clear hfz8_1
    try clear hx138_0
    try clear hx138_1
    try clear p138
    try clear q138
    obtain ⟨x19_1, x142000_1, x142001_1, rfl, HA, HK1, BK136, BK137, BK141, HB⟩ := hrel
    cases gk with
    | zero => exact absurd HA.out (by simp [impl_moved.l0])
    | succ k1 =>
     have H := HA.out
     clear HA
     simp only [impl_moved.l0] at H
     by_cases c19 : x19_1 < (l0.length : Int)
     ·rw [if_pos c19] at H
      have c19b0 : decide (x19_1 < (l0.length : Int)) = true := decide_eq_true c19
      clear c19
      by_cases c20 : 0 ≤ x19_1
      ·rw [if_pos c20] at H
       have c20b0 : decide (0 ≤ x19_1) = true := decide_eq_true c20
       clear c20
       by_cases c21 : x19_1 < (l0.length : Int)
       ·rw [if_pos c21] at H
        have c21b0 : decide (x19_1 < (l0.length : Int)) = true := decide_eq_true c21
        clear c21
        replace H := Option.bind_eq_some_iff.mp H
        obtain ⟨⟨t144, t145⟩, A220, H⟩ := H
        replace H : ((impl_TimeMeet.f x142000_1 x142001_1 t144 t145).bind fun bt146 => (impl_moved.l0 k1 l0 (l0.length : Int) (wrap64 (x19_1 + 1)) a1_0 a1_1 bt146.1 bt146.2)) = some (r1, r2) := H
        have A22 := Aside0.mk A220
        clear A220
        replace H := Option.bind_eq_some_iff.mp H
        obtain ⟨⟨t146, t147⟩, A230, H⟩ := H
        replace H : (impl_moved.l0 k1 l0 (l0.length : Int) (wrap64 (x19_1 + 1)) a1_0 a1_1 t146 t147) = some (r1, r2) := H
        have A23 := Aside0.mk A230
        clear A230
        have H' := Aside0.mk H
        clear H
        have p142 : 0 ≤ (x19_1 : Int) := of_decide_eq_true Q5
        have q142 : x19_1 < (l0.length : Int) := of_decide_eq_true Q5
        obtain ⟨ad142, e142, hx142_0, hx142_1⟩ := at_T36 HR0.out x19_1 p142 q142
        obtain rfl : ad138 = ad142 := (by injection e142)
        replace hx142_0 := (HB.out.cell (World.block_lt_of_cell? w _ hx142_0)).trans hx142_0
        replace hx142_1 := (HB.out.cell (World.block_lt_of_cell? w _ hx142_1)).trans hx142_1
        replace p142 := eq_true p142
        replace q142 := eq_true q142
        try go_wp2_with (first | ((with_reducible refine gate_dst (N := 7) rfl ?_); refine box_event ?hg (N := 7) ?hd (cs := #[.int .i64 0, .int .i64 0]) (t := 36) ?hr ?_; (case hd => rfl); (case hg => rfl); (case hr => first | (go_simp; done) | (go_simp; rfl)); intro gb143 hg w24 hbox hb; have n0_ := Aside0.mk (blk_below (g := gb136) (o := .cells #[.int .i64 a1_0, .int .i64 a1_1] 36 (0, 0)) Q40 hb); have n1_ := Aside0.mk (blk_below (g := gb137) (o := .cells #[.int .i64 0, .int .i64 0] 36 (0, 0)) Q41 hb); have n2_ := Aside0.mk (blk_below (g := gb141) (o := .cells #[.int .i64 x142000_1, .int .i64 x142001_1] 36 (0, 0)) Q42 hb); have n3_ := Aside0.mk (below_step Q97 hb); have n4_ := Aside0.mk (hbox); have n5_ := Aside0.mk ((by rw [hg]; exact (below_size Q97) : w.heap.size ≤ gb143)); have n6_ := n5_; have n7_ := Aside0.mk ((Q118 : gb136 ≠ gb143)); have n8_ := Aside0.mk ((Q119 : gb143 ≠ gb136)); have n9_ := Aside0.mk ((Q106 : gb137 ≠ gb143)); have n10_ := Aside0.mk ((Q107 : gb143 ≠ gb137)); have n11_ := Aside0.mk ((by rw [hg]; exact Nat.ne_of_lt (blk_lt (g := gb141) (o := .cells #[.int .i64 x142000_1, .int .i64 x142001_1] 36 (0, 0)) Q42) : gb141 ≠ gb143)); have n12_ := Aside0.mk ((by rw [hg]; exact Nat.ne_of_gt (blk_lt (g := gb141) (o := .cells #[.int .i64 x142000_1, .int .i64 x142001_1] 36 (0, 0)) Q42) : gb143 ≠ gb141)); clear BK136; clear BK137; clear BK141; clear HB; have BK136 := n0_; have BK137 := n1_; have BK141 := n2_; have HB := n3_; have BK143 := n4_; have GW143 := n5_; have GE143 := n6_; have NB136_143 := n7_; have NB143_136 := n8_; have NB137_143 := n9_; have NB143_137 := n10_; have NB141_143 := n11_; have NB143_141 := n12_; clear n0_ n1_ n2_ n3_ n4_ n5_ n6_ n7_ n8_ n9_ n10_ n11_ n12_; clear hb hbox hg; have hnb25 := NB143_136.out; have hnc25 := NB136_143.out; have hnb26 := NB143_137.out; have hnc26 := NB137_143.out; have hnb27 := NB143_141.out; have hnc27 := NB141_143.out; have hcz28_0 : w24.cell? ⟨gb143, 0, none⟩ = some (.int .i64 0) := (blk_cell BK143.out 0).trans rfl; have hcz28_1 : w24.cell? ⟨gb143, 1, none⟩ = some (.int .i64 0) := (blk_cell BK143.out 1).trans rfl; have hfz28_0 := blk_frozen BK143.out 0; have hfz28_1 := blk_frozen BK143.out 1))
        have n0_ : Aside0 (((w24.setCell ⟨gb143, 0, none⟩ (.int .i64 ((rd_T36 l0 x19_1).f0))).setCell ⟨gb143, 1, none⟩ (.int .i64 ((rd_T36 l0 x19_1).f1))).heap[gb136]? = some (.cells #[.int .i64 a1_0, .int .i64 a1_1] 36 (0, 0))) := ⟨by (with_reducible repeat (first | refine blk_drewN ?_ _ | refine blk_drew ?_ | refine blk_alloc ?_ _)); refine blk_far ?_ NB136_143.out _; (with_reducible repeat (first | refine blk_drewN ?_ _ | refine blk_drew ?_ | refine blk_alloc ?_ _)); refine blk_far ?_ NB136_143.out _; (with_reducible repeat (first | refine blk_drewN ?_ _ | refine blk_drew ?_ | refine blk_alloc ?_ _)); exact BK136.out⟩
        have n1_ : Aside0 (((w24.setCell ⟨gb143, 0, none⟩ (.int .i64 ((rd_T36 l0 x19_1).f0))).setCell ⟨gb143, 1, none⟩ (.int .i64 ((rd_T36 l0 x19_1).f1))).heap[gb137]? = some (.cells #[.int .i64 0, .int .i64 0] 36 (0, 0))) := ⟨by (with_reducible repeat (first | refine blk_drewN ?_ _ | refine blk_drew ?_ | refine blk_alloc ?_ _)); refine blk_far ?_ NB137_143.out _; (with_reducible repeat (first | refine blk_drewN ?_ _ | refine blk_drew ?_ | refine blk_alloc ?_ _)); refine blk_far ?_ NB137_143.out _; (with_reducible repeat (first | refine blk_drewN ?_ _ | refine blk_drew ?_ | refine blk_alloc ?_ _)); exact BK137.out⟩
        have n2_ : Aside0 (((w24.setCell ⟨gb143, 0, none⟩ (.int .i64 ((rd_T36 l0 x19_1).f0))).setCell ⟨gb143, 1, none⟩ (.int .i64 ((rd_T36 l0 x19_1).f1))).heap[gb141]? = some (.cells #[.int .i64 x142000_1, .int .i64 x142001_1] 36 (0, 0))) := ⟨by (with_reducible repeat (first | refine blk_drewN ?_ _ | refine blk_drew ?_ | refine blk_alloc ?_ _)); refine blk_far ?_ NB141_143.out _; (with_reducible repeat (first | refine blk_drewN ?_ _ | refine blk_drew ?_ | refine blk_alloc ?_ _)); refine blk_far ?_ NB141_143.out _; (with_reducible repeat (first | refine blk_drewN ?_ _ | refine blk_drew ?_ | refine blk_alloc ?_ _)); exact BK141.out⟩
        have n3_ : Aside0 (((w24.setCell ⟨gb143, 0, none⟩ (.int .i64 ((rd_T36 l0 x19_1).f0))).setCell ⟨gb143, 1, none⟩ (.int .i64 ((rd_T36 l0 x19_1).f1))).heap[gb143]? = some (.cells #[.int .i64 ((rd_T36 l0 x19_1).f0), .int .i64 ((rd_T36 l0 x19_1).f1)] 36 (0, 0))) := ⟨by (with_reducible repeat (first | refine blk_drewN ?_ _ | refine blk_drew ?_ | refine blk_alloc ?_ _)); refine blk_put (cs := #[.int .i64 ((rd_T36 l0 x19_1).f0), .int .i64 0]) ?_ 1 _ rfl; (with_reducible repeat (first | refine blk_drewN ?_ _ | refine blk_drew ?_ | refine blk_alloc ?_ _)); refine blk_put (cs := #[.int .i64 0, .int .i64 0]) ?_ 0 _ rfl; (with_reducible repeat (first | refine blk_drewN ?_ _ | refine blk_drew ?_ | refine blk_alloc ?_ _)); exact BK143.out⟩
        have n4_ : Aside0 (Below w.heap.size w ((w24.setCell ⟨gb143, 0, none⟩ (.int .i64 ((rd_T36 l0 x19_1).f0))).setCell ⟨gb143, 1, none⟩ (.int .i64 ((rd_T36 l0 x19_1).f1)))) := ⟨Q101⟩
        (try clear BK136)
        (try clear BK137)
        (try clear BK141)
        (try clear BK143)
        (try clear HB)
        generalize ((w24.setCell ⟨gb143, 0, none⟩ (.int .i64 ((rd_T36 l0 x19_1).f0))).setCell ⟨gb143, 1, none⟩ (.int .i64 ((rd_T36 l0 x19_1).f1))) = w29 at n0_ n1_ n2_ n3_ n4_ ⊢
        have BK136 := n0_
        have BK137 := n1_
        have BK141 := n2_
        have BK143 := n3_
        have HB := n4_
        clear n0_ n1_ n2_ n3_ n4_
        have n0_ := Aside0.mk (blk_drew BK136.out)
        have n1_ := Aside0.mk (blk_drew BK137.out)
        have n2_ := Aside0.mk (blk_drew BK141.out)
        have n3_ := Aside0.mk (blk_drew BK143.out)
        have n4_ := Aside0.mk (below_drew1 HB.out)
        clear BK136
        clear BK137
        clear BK141
        clear BK143
        clear HB
        have BK136 := n0_
        have BK137 := n1_
        have BK141 := n2_
        have BK143 := n3_
        have HB := n4_
        clear n0_ n1_ n2_ n3_ n4_
        refine start_ (n := 6) (S := fun w' => w'.cell? ⟨gb141, 0, none⟩ = some (.int .i64 x142000_1) ∧ w'.cell? ⟨gb141, 1, none⟩ = some (.int .i64 x142001_1) ∧ w'.cell? ⟨gb143, 0, none⟩ = some (.int .i64 ((rd_T36 l0 x19_1).f0)) ∧ w'.cell? ⟨gb143, 1, none⟩ = some (.int .i64 ((rd_T36 l0 x19_1).f1)) ∧ w'.cell? ⟨gb136, 0, none⟩ = some (.int .i64 a1_0) ∧ w'.cell? ⟨gb136, 1, none⟩ = some (.int .i64 a1_1)) (ds := [5]) b6_0 Q1 rfl rfl ⟨(blk_cell BK141.out 0).trans rfl, (blk_cell BK141.out 1).trans rfl, (blk_cell BK143.out 0).trans rfl, (blk_cell BK143.out 1).trans rfl, (blk_cell BK136.out 0).trans rfl, (blk_cell BK136.out 1).trans rfl⟩ (fun hHeld => ?_)
        generalize w29.drew = w30 at BK136 BK137 BK141 BK143 HB hHeld ⊢
        refine tU_ 0 23 b6_1 hHeld ?_
        refine tU_ 1 24 b6_2 hHeld ?_
        refine tU_ 2 25 b6_3 hHeld ?_
        refine one_ (i := 3) (N := some 26) b6_4 rfl rfl Q1 Q0 (fun K hK => ?_)
        refine goes_ Try.func98 Q1 rfl #[.agg #[.int .i64 ((rd_T36 l0 x19_1).f0), .int .i64 ((rd_T36 l0 x19_1).f1)], .agg #[.int .i64 a1_0, .int .i64 a1_1]] (by rfl) rfl rfl Q65 ?_
        with_reducible refine (impl_TimeJoin.calls ((rd_T36 l0 x19_1).f0) ((rd_T36 l0 x19_1).f1) a1_0 a1_1 t144 t145 _ A22.out).mono ?_
        rintro e w31 ⟨rfl, hb⟩
        refine ⟨_, rfl, ?_⟩
        have n0_ := Aside0.mk (blk_below (g := gb136) (o := .cells #[.int .i64 a1_0, .int .i64 a1_1] 36 (0, 0)) Q40 hb)
        have n1_ := Aside0.mk (blk_below (g := gb137) (o := .cells #[.int .i64 0, .int .i64 0] 36 (0, 0)) Q41 hb)
        have n2_ := Aside0.mk (blk_below (g := gb141) (o := .cells #[.int .i64 x142000_1, .int .i64 x142001_1] 36 (0, 0)) Q42 hb)
        have n3_ := Aside0.mk (blk_below (g := gb143) (o := .cells #[.int .i64 ((rd_T36 l0 x19_1).f0), .int .i64 ((rd_T36 l0 x19_1).f1)] 36 (0, 0)) (by (with_reducible repeat (first | refine blk_drewN ?_ _ | refine blk_drew ?_ | refine blk_alloc ?_ _)); exact BK143.out) hb)
        have n4_ := Aside0.mk (below_step Q101 hb)
        clear BK136
        clear BK137
        clear BK141
        clear BK143
        clear HB
        have BK136 := n0_
        have BK137 := n1_
        have BK141 := n2_
        have BK143 := n3_
        have HB := n4_
        clear n0_ n1_ n2_ n3_ n4_
        (try clear hb)
        (try clear hb2)
        (try clear hk)
        (try clear hi)
        refine hK.out _ _ ⟨(blk_cell BK141.out 0).trans rfl, (blk_cell BK141.out 1).trans rfl, (blk_cell BK143.out 0).trans rfl, (blk_cell BK143.out 1).trans rfl, (blk_cell BK136.out 0).trans rfl, (blk_cell BK136.out 1).trans rfl⟩ (fun hHeld => ?_)
        clear hK K
        refine norm_ (a' := ?_) ?_ ?_
        rotate_left
        ·show Act.put _ (some 26) _ = _
         simp only [Act.put, List.setIfInBounds_toArray, List.set_cons_zero, List.set_cons_succ, i64_w, i32_w]
         rfl
        refine one_ (i := 4) (N := some 27) b6_5 rfl rfl Q1 Q0 (fun K hK => ?_)
        refine goes_ Try.func99 Q1 rfl #[.agg #[.int .i64 x142000_1, .int .i64 x142001_1], .agg #[.int .i64 t144, .int .i64 t145]] (by rfl) rfl rfl Q65 ?_
        with_reducible refine (impl_TimeMeet.calls x142000_1 x142001_1 t144 t145 t146 t147 _ A23.out).mono ?_
        rintro e w32 ⟨rfl, hb⟩
        refine ⟨_, rfl, ?_⟩
        have n0_ := Aside0.mk (blk_below (g := gb136) (o := .cells #[.int .i64 a1_0, .int .i64 a1_1] 36 (0, 0)) Q40 hb)
        have n1_ := Aside0.mk (blk_below (g := gb137) (o := .cells #[.int .i64 0, .int .i64 0] 36 (0, 0)) Q41 hb)
        have n2_ := Aside0.mk (blk_below (g := gb141) (o := .cells #[.int .i64 x142000_1, .int .i64 x142001_1] 36 (0, 0)) Q42 hb)
        have n3_ := Aside0.mk (blk_below (g := gb143) (o := .cells #[.int .i64 ((rd_T36 l0 x19_1).f0), .int .i64 ((rd_T36 l0 x19_1).f1)] 36 (0, 0)) (by (with_reducible repeat (first | refine blk_drewN ?_ _ | refine blk_drew ?_ | refine blk_alloc ?_ _)); exact BK143.out) hb)
        have n4_ := Aside0.mk (below_step Q101 hb)
        clear BK136
        clear BK137
        clear BK141
        clear BK143
        clear HB
        have BK136 := n0_
        have BK137 := n1_
        have BK141 := n2_
        have BK143 := n3_
        have HB := n4_
        clear n0_ n1_ n2_ n3_ n4_
        (try clear hb)
        (try clear hb2)
        (try clear hk)
        (try clear hi)
        refine hK.out _ _ ⟨(blk_cell BK141.out 0).trans rfl, (blk_cell BK141.out 1).trans rfl, (blk_cell BK143.out 0).trans rfl, (blk_cell BK143.out 1).trans rfl, (blk_cell BK136.out 0).trans rfl, (blk_cell BK136.out 1).trans rfl⟩ (fun hHeld => ?_)
        clear hK K
        refine norm_ (a' := ?_) ?_ ?_
        rotate_left
        ·show Act.put _ (some 27) _ = _
         simp only [Act.put, List.setIfInBounds_toArray, List.set_cons_zero, List.set_cons_succ, i64_w, i32_w]
         rfl
        refine last_ (i := 5) (N := none) b6_6 rfl rfl Q1 Q0 (fun K hK => ?_)
        have hs33 : w32.cell? ⟨gb141, 0, none⟩ = some (.int .i64 x142000_1) := (blk_cell BK141.out 0).trans rfl
        have hfs33 := blk_frozen BK141.out 0
        have hns33_0 := NB136_141.out
        have hns33_1 := NB137_141.out
        have hns33_3 := NB143_141.out
        have hms33_0 := NB141_136.out
        have hms33_1 := NB141_137.out
        have hms33_3 := NB141_143.out
        have hs34 : w32.cell? ⟨gb141, 1, none⟩ = some (.int .i64 x142001_1) := (blk_cell BK141.out 1).trans rfl
        have hfs34 := blk_frozen BK141.out 1
        have hns34_0 := NB136_141.out
        have hns34_1 := NB137_141.out
        have hns34_3 := NB143_141.out
        have hms34_0 := NB141_136.out
        have hms34_1 := NB141_137.out
        have hms34_3 := NB141_143.out
        refine skip_ (w1 := ?_) (by rfl) rfl ?_ ?_
        rotate_left
        ·go_simp
         rfl
        refine hK.out _ _ ?_
        clear hK K
        refine done_ Q1 ?_
        try go_wp2
        go_roundg k1
        case measure => have := HK1.out; omega
        case rel => exact ⟨(wrap64 (x19_1 + 1)), (t146), (t147), Q4, H', ⟨Q2⟩, ⟨by (with_reducible repeat (first | refine blk_drewN ?_ _ | refine blk_drew ?_ | refine blk_alloc ?_ _)); refine blk_far ?_ NB136_141.out _; (with_reducible repeat (first | refine blk_drewN ?_ _ | refine blk_drew ?_ | refine blk_alloc ?_ _)); refine blk_far ?_ NB136_141.out _; (with_reducible repeat (first | refine blk_drewN ?_ _ | refine blk_drew ?_ | refine blk_alloc ?_ _)); exact BK136.out⟩, ⟨by (with_reducible repeat (first | refine blk_drewN ?_ _ | refine blk_drew ?_ | refine blk_alloc ?_ _)); refine blk_far ?_ NB137_141.out _; (with_reducible repeat (first | refine blk_drewN ?_ _ | refine blk_drew ?_ | refine blk_alloc ?_ _)); refine blk_far ?_ NB137_141.out _; (with_reducible repeat (first | refine blk_drewN ?_ _ | refine blk_drew ?_ | refine blk_alloc ?_ _)); exact BK137.out⟩, ⟨by (with_reducible repeat (first | refine blk_drewN ?_ _ | refine blk_drew ?_ | refine blk_alloc ?_ _)); refine blk_put (cs := #[.int .i64 t146, .int .i64 x142001_1]) ?_ 1 _ rfl; (with_reducible repeat (first | refine blk_drewN ?_ _ | refine blk_drew ?_ | refine blk_alloc ?_ _)); refine blk_put (cs := #[.int .i64 x142000_1, .int .i64 x142001_1]) ?_ 0 _ rfl; (with_reducible repeat (first | refine blk_drewN ?_ _ | refine blk_drew ?_ | refine blk_alloc ?_ _)); exact BK141.out⟩, ⟨Q101⟩⟩
       ·rw [if_neg c21] at H
        exact absurd H (by simp)
      ·rw [if_neg c20] at H
       exact absurd H (by simp)
     ·rw [if_neg c19] at H
      have c19b0 : decide (x19_1 < (l0.length : Int)) = false := decide_eq_false c19
      clear c19
      simp only [Option.some.injEq, Prod.mk.injEq] at H
      obtain ⟨rfl, rfl⟩ := H
      have hnb35 := NB141_136.out
      have hnc35 := NB136_141.out
      have hnb36 := NB141_137.out
      have hnc36 := NB137_141.out
      have hcz37_0 : wr.cell? ⟨gb141, 0, none⟩ = some (.int .i64 x142000_1) := (blk_cell BK141.out 0).trans rfl
      have hcz37_1 : wr.cell? ⟨gb141, 1, none⟩ = some (.int .i64 x142001_1) := (blk_cell BK141.out 1).trans rfl
      have hfz37_0 := blk_frozen BK141.out 0
      have hfz37_1 := blk_frozen BK141.out 1
      have hnb38 := NB137_136.out
      have hnc38 := NB136_137.out
      have hcz39_0 : wr.cell? ⟨gb137, 0, none⟩ = some (.int .i64 0) := (blk_cell BK137.out 0).trans rfl
      have hcz39_1 : wr.cell? ⟨gb137, 1, none⟩ = some (.int .i64 0) := (blk_cell BK137.out 1).trans rfl
      have hfz39_0 := blk_frozen BK137.out 0
      have hfz39_1 := blk_frozen BK137.out 1
      go_wp2
      refine bodyPost_ret (results_cell_row rfl _ _ gb137 36 #[.int .i64 x142000_1, .int .i64 x142001_1] (0, 0) _ rfl (by (with_reducible repeat (first | refine blk_drewN ?_ _ | refine blk_drew ?_ | refine blk_alloc ?_ _)); refine blk_put (cs := #[.int .i64 x142000_1, .int .i64 0]) ?_ 1 _ rfl; (with_reducible repeat (first | refine blk_drewN ?_ _ | refine blk_drew ?_ | refine blk_alloc ?_ _)); refine blk_put (cs := #[.int .i64 0, .int .i64 0]) ?_ 0 _ rfl; (with_reducible repeat (first | refine blk_drewN ?_ _ | refine blk_drew ?_ | refine blk_alloc ?_ _)); exact BK137.out) Try.underlying36 rfl Q1) rfl ?_
      exact ⟨Q12, Q97⟩
  ·rw [if_neg c9] at H
   exact absurd H (by simp)
def impl_advanced.l0 : Nat → List (S36) → List (S38) → Int → Int → Option ((List (S38)))
 | 0, _, _, _, _ => none
 | k + 1, x1, x5, x11, x12 => if x12 < x11 then (if 0 ≤ x12 then (if x12 < (x5.length : Int) then ((impl_moved.f k x1 ((rd_T38 x5 x12).f2.f0) ((rd_T38 x5 x12).f2.f1)).bind fun bt155 => (impl_advanced.l0 k x1 (x5.set (x12 : Int).toNat (⟨(rd_T38 x5 x12).f0, (rd_T38 x5 x12).f1, (⟨bt155.1, bt155.2⟩ : S36), (rd_T38 x5 x12).f3⟩ : S38)) x11 (wrap64 (x12 + 1)))) else (none)) else (none)) else (some x5)
def impl_advanced.f (k : Nat) (l0 : List (S38)) (l1 : List (S36)) : Option ((List (S38))) := (some (([] : List (S38)) : List (S38))).bind fun y148 => (if y148.length + l0.length < 3518437208883 then ((some (y148 ++ l0 : List (S38))).bind fun y151 => (impl_advanced.l0 k l1 y151 (y151.length : Int) 0)) else (none))
theorem impl_advanced.mono_l : ∀ k, (∀ y0 y1 y2 y3, LeO (impl_advanced.l0 k y0 y1 y2 y3) (impl_advanced.l0 (k + 1) y0 y1 y2 y3))
 | 0 => fun _ _ _ _ r h => by simp [impl_advanced.l0] at h
 | k + 1 => by
  have ih0 := impl_advanced.mono_l k
  ·intro y0 y1 y2 y3
   unfold impl_advanced.l0
   repeat' first
   | (with_reducible exact ih0 _ _ _ _)
   | (with_reducible exact impl_moved.mono _ _ _ _)
   | (with_reducible exact LeO.refl _)
   | (with_reducible exact LeO.none _)
   | (with_reducible refine LeO.ite ?_ ?_)
   | (with_reducible refine LeO.bind ?_ (fun _ => ?_))
   | exact ih0 _ _ _ _
   | exact impl_moved.mono _ _ _ _
   | exact LeO.none _
   | refine LeO.ite ?_ ?_
   | refine LeO.bind ?_ (fun _ => ?_)
theorem impl_advanced.mono : ∀ a0 a1 k, LeO (impl_advanced.f k a0 a1) (impl_advanced.f (k + 1) a0 a1) := by
 intro a0 a1 k
 have ih0 := impl_advanced.mono_l k
 unfold impl_advanced.f
 repeat' first
   | (with_reducible exact ih0 _ _ _ _)
   | (with_reducible exact impl_moved.mono _ _ _ _)
   | (with_reducible exact LeO.refl _)
   | (with_reducible exact LeO.none _)
   | (with_reducible refine LeO.ite ?_ ?_)
   | (with_reducible refine LeO.bind ?_ (fun _ => ?_))
   | exact ih0 _ _ _ _
   | exact impl_moved.mono _ _ _ _
   | exact LeO.none _
   | refine LeO.ite ?_ ?_
   | refine LeO.bind ?_ (fun _ => ?_)
set_option maxHeartbeats 8000000 in
set_option maxRecDepth 100000 in
theorem impl_advanced.calls (k : Nat) (A0 : Option Addr) (c0 : Nat) (l0 : List (S38)) (A1 : Option Addr) (c1 : Nat) (l1 : List (S36)) (r : List (S38)) (w : World) (hr0 : Kd.C k38 w A0 l0.length l0) (hc0 : l0.length ≤ c0) (hr1 : Kd.C k36 w A1 l1.length l1) (hc1 : l1.length ≤ c1) (h : impl_advanced.f k l0 l1 = some r) :
  Calls Try.prog 55 #[.slice A0 l0.length c0, .slice A1 l1.length c1] w fun e w' => ∃ v0_ : Value, e = .returned (v0_) ∧ Kd.R k38 38 w' w.heap.size (fun _ => True) v0_ r ∧ Below w.heap.size w w' := by
 have hu36 := Try.underlying36
 have HR0 := Aside0.mk hr0
 have HC0 := Aside0.mk hc0
 clear hr0 hc0
 have HR1 := Aside0.mk hr1
 have HC1 := Aside0.mk hc1
 clear hr1 hc1
 have HB := Aside0.mk (Below.refl w.heap.size w)
 have H : ((some (([] : List (S38)) : List (S38))).bind fun y148 => (if y148.length + l0.length < 3518437208883 then ((some (y148 ++ l0 : List (S38))).bind fun y151 => (impl_advanced.l0 k l1 y151 (y151.length : Int) 0)) else (none))) = some r := h
 clear h
 obtain ⟨y148, hy148⟩ : ∃ y_ : List (S38), y_ = (([] : List (S38))) := ⟨_, rfl⟩
 replace H : (if y148.length + l0.length < 3518437208883 then ((some (y148 ++ l0 : List (S38))).bind fun y151 => (impl_advanced.l0 k l1 y151 (y151.length : Int) 0)) else (none)) = some r := by first | (rw [hy148]; with_reducible exact H) | (have H2_ := (Option.bind_some _ _).symm.trans H; rw [hy148]; with_reducible exact H2_) | (have H2_ := (Option.bind_some _ _).symm.trans H; with_reducible exact H2_) | with_reducible exact H | (rw [hy148]; exact H) | exact H
 have Ny148 := Aside0.mk hy148
 clear hy148
 by_cases c3 : y148.length + l0.length < 3518437208883
 ·rw [if_pos c3] at H
  have LMc3 := Aside0.mk c3
  clear c3
  obtain ⟨y151, hy151⟩ : ∃ y_ : List (S38), y_ = (y148 ++ l0) := ⟨_, rfl⟩
  replace H : (impl_advanced.l0 k l1 y151 (y151.length : Int) 0) = some r := by first | (rw [hy151]; with_reducible exact H) | (have H2_ := (Option.bind_some _ _).symm.trans H; rw [hy151]; with_reducible exact H2_) | (have H2_ := (Option.bind_some _ _).symm.trans H; with_reducible exact H2_) | with_reducible exact H | (rw [hy151]; exact H) | exact H
  have Ny151 := Aside0.mk hy151
  clear hy151
  have H' := Aside0.mk H
  clear H
  go_enter Try.func55, Try.ntmps55
  go_wp2_with (first | ((with_reducible refine gate_dst (N := 7) rfl ?_); refine Kd.R_lit k38 _ 38 ?hg (N := 7) ?hd (xs := ([] : List (S38))) (inner := []) (ok := fun _ => True) (okp := fun _ => True) ?hr ?hp (fun _ hk => hk) trivial (Below.refl _ _) (Nat.le_refl _) (by simp) ?_; (case hd => rfl); (case hg => rfl); (case hr => first | (go_simp; done) | (go_simp; rfl)); (case hp => exact (Reps.none _ _)); intro v149 w4 ho5 hb hg_ hnew_; clear hg_ hnew_; (first | rw [← Ny148.out] at ho5 | (simp only [Int.reduceToNat] at ho5; rw [← Ny148.out] at ho5)); have n0_ := Aside0.mk (Kd.R_lower ho5 (below_size Q64)); have n1_ := Aside0.mk (below_step Q64 hb); clear HB; have HO150 := n0_; have HB := n1_; clear n0_ n1_; clear hb ho5) | ((with_reducible refine gate_builtin (b := .append) (xs := #[.tmp 7, .tmp 8]) rfl ?_); at_builtin; refine Kd.R_append_rows k38 (w0 := w) w.heap.size rfl (.tmp 7) (.tmp 8) 23 38 (.agg #[(.int .i64 0), (.int .i64 0), (.int .i64 0), (.int .i64 0), (.int .i64 0)]) 40 rfl Try.underlying23 info38 rfl Q0 (by omega) v149 y148 l0 _ _ _ (fun _ => True) (fun _ => False) rfl rfl ?aO ?aR (fun _ _ h => h) (fun _ h => h.elim) ?aF ?aB ?aS ?aL ?_; (case aR => repeat (first | exact (Kd.C_below HR0.out HB.out) | (with_reducible refine Kd.C_alloc ?_ _) | (with_reducible refine Kd.C_drewN ?_ _) | (with_reducible refine Kd.C_drew ?_))); (case aB => exact Q64); (case aF => exact (fun _ _ => trivial)); (case aO => exact (by (with_reducible repeat (first | apply Kd.R_alloc | apply Kd.R_drewN | apply Kd.R_drew)); exact HO150.out)); (case aS => exact (below_size Q64)); (case aL => have := LMc3.out; omega); intro v152 w6 ho hb hg hat; rw [← Ny151.out] at ho; have n0_ := Aside0.mk (hb); have n1_ := Aside0.mk (ho); clear HB; clear HO150; have HB := n0_; have HO153 := n1_; clear n0_ n1_; clear ho hb hg hat; obtain ⟨Ao7, co7, eo7⟩ := Kd.R_slice HO153.out; subst eo7))
  go_loopg [12] k (fun kq v12 w' => ∃ (x5_1 : List (S38)) (x12_1 : Int), v12 = .int .i64 x12_1 ∧ Aside0 (impl_advanced.l0 kq l1 x5_1 (y151.length : Int) x12_1 = some r) ∧ Aside0 (kq ≤ k) ∧ Aside0 (Kd.R k38 38 w' w.heap.size (fun _ => True) (.slice Ao7 y151.length co7) x5_1) ∧ Aside0 (Below w.heap.size w w'))
  case atStart => exact ⟨(y151), (0), Q4, H', ⟨Nat.le_refl _⟩, ⟨by (with_reducible repeat (first | apply Kd.R_alloc | apply Kd.R_drewN | apply Kd.R_drew)); exact HO153.out⟩, ⟨Q64⟩⟩
  case round =>
   clear H'
   try clear c1
   try clear p2
   try clear c3
   try clear c5
   obtain ⟨x5_1, x12_1, rfl, HA, HK1, HO_5, HB⟩ := hrel
   have hl5_1 := (Kd.R_reads' HO_5.out).1
   rw [hl5_1] at HO_5
   (try simp only [hl5_1])
   cases gk with
   | zero => exact absurd HA.out (by simp [impl_advanced.l0])
   | succ k1 =>
    have H := HA.out
    clear HA
    simp only [impl_advanced.l0] at H
    by_cases c8 : x12_1 < (y151.length : Int)
    ·rw [if_pos c8] at H
     have c8b0 : decide (x12_1 < (y151.length : Int)) = true := decide_eq_true c8
     clear c8
     by_cases c9 : 0 ≤ x12_1
     ·rw [if_pos c9] at H
      have c9b0 : decide (0 ≤ x12_1) = true := decide_eq_true c9
      clear c9
      by_cases c10 : x12_1 < (x5_1.length : Int)
      ·rw [if_pos c10] at H
       have c10b0 : decide (x12_1 < (x5_1.length : Int)) = true := decide_eq_true c10
       clear c10
       replace H := Option.bind_eq_some_iff.mp H
       obtain ⟨⟨t155, t156⟩, A110, H⟩ := H
       replace H : (impl_advanced.l0 k1 l1 (x5_1.set (x12_1 : Int).toNat (⟨(rd_T38 x5_1 x12_1).f0, (rd_T38 x5_1 x12_1).f1, (⟨t155, t156⟩ : S36), (rd_T38 x5_1 x12_1).f3⟩ : S38)) (y151.length : Int) (wrap64 (x12_1 + 1))) = some r := H
       have A11 := Aside0.mk A110
       clear A110
       obtain ⟨y157, hy157⟩ : ∃ y_ : List (S38), y_ = (x5_1.set (x12_1 : Int).toNat (⟨(rd_T38 x5_1 x12_1).f0, (rd_T38 x5_1 x12_1).f1, (⟨t155, t156⟩ : S36), (rd_T38 x5_1 x12_1).f3⟩ : S38)) := ⟨_, rfl⟩
       replace H : (impl_advanced.l0 k1 l1 y157 (y151.length : Int) (wrap64 (x12_1 + 1))) = some r := by first | (rw [hy157]; with_reducible exact H) | (have H2_ := (Option.bind_some _ _).symm.trans H; rw [hy157]; with_reducible exact H2_) | (have H2_ := (Option.bind_some _ _).symm.trans H; with_reducible exact H2_) | with_reducible exact H | (rw [hy157]; exact H) | exact H
       have Ny157 := Aside0.mk hy157
       clear hy157
       have H' := Aside0.mk H
       clear H
       have p154 : 0 ≤ (x12_1 : Int) := of_decide_eq_true Q5
       have q154 : x12_1 < (x5_1.length : Int) := of_decide_eq_true Q5
       obtain ⟨ad154, e154, hx154_0, hx154_1, hx154_2, hx154_3, hx154_4⟩ := at_T38 (Kd.R_reads' HO_5.out).2.2 x12_1 p154 q154
       cases e154
       replace p154 := eq_true p154
       replace q154 := eq_true q154
       go_wp2_with (first | ((with_reducible refine gate_callee (f := 85) rfl ?_); refine goesL_ (some 23) rfl rfl Try.func85 Q1 rfl #[.slice A1 l1.length c1, .agg #[.int .i64 ((rd_T38 x5_1 x12_1).f2.f0), .int .i64 ((rd_T38 x5_1 x12_1).f2.f1)]] rfl Q65 ?_; (with_reducible refine (impl_moved.calls k1 _ _ l1 ((rd_T38 x5_1 x12_1).f2.f0) ((rd_T38 x5_1 x12_1).f2.f1) t155 t156 _ ?side1 ?side2 A11.out).mono ?_); (case side1 => repeat (first | exact (Kd.C_below HR1.out HB.out) | (with_reducible refine Kd.C_alloc ?_ _) | (with_reducible refine Kd.C_drewN ?_ _) | (with_reducible refine Kd.C_drew ?_))); (case side2 => exact HC1.out); rintro e w13 ⟨rfl, hb⟩; refine ⟨_, rfl, ?_⟩; have n0_ := Aside0.mk (Kd.R_below Q15 hb); have n1_ := Aside0.mk (below_step Q64 hb); clear HO_5; clear HB; have HO_5 := n0_; have HB := n1_; clear n0_ n1_; (try clear hb); (try clear hb2); (try clear hk); (try clear hi); have p12 : 0 ≤ (x12_1 : Int) := of_decide_eq_true Q5; have q12 : (x12_1 : Int) < ((x5_1.length : Int) : Int) := of_decide_eq_true Q5; obtain ⟨go12, co12, eo12, gb12, gl12, cl12, HG12⟩ := Kd.R_form HO_5.out (by omega); (first | cases eo12 | (injection eo12 with ea_ en_ ec_; (first | subst ea_ | (injection ea_ with ea_; subst ea_)); subst ec_; clear en_)); have GB12 := Aside0.mk gb12; have GG12 := Aside0.mk HG12; clear gb12 gl12 HG12; (first | simp only [add_plain] at hx154_0 | skip); (first | simp only [add_plain] at hx154_1 | skip); (first | simp only [add_plain] at hx154_2 | skip); (first | simp only [add_plain] at hx154_3 | skip); (first | simp only [add_plain] at hx154_4 | skip); obtain ⟨ce12, hcl12, hM12, hcc12, hfr12⟩ := Kd.R_elem HO_5.out z38 (x12_1 : Int) p12 q12; obtain rfl := k38_openM hM12; have hx12_0 : w13.cell? ⟨go12, (x12_1 : Int).toNat * 5, none⟩ = some (.int .i64 ((rd_T38 x5_1 x12_1).f0)) := hcc12 0 _ rfl; have hx12_1 : w13.cell? ⟨go12, (x12_1 : Int).toNat * 5 + 1, none⟩ = some (.int .i64 ((rd_T38 x5_1 x12_1).f1)) := hcc12 1 _ rfl; have hx12_2 : w13.cell? ⟨go12, (x12_1 : Int).toNat * 5 + 2, none⟩ = some (.int .i64 ((rd_T38 x5_1 x12_1).f2.f0)) := hcc12 2 _ rfl; have hx12_3 : w13.cell? ⟨go12, (x12_1 : Int).toNat * 5 + 3, none⟩ = some (.int .i64 ((rd_T38 x5_1 x12_1).f2.f1)) := hcc12 3 _ rfl; have hx12_4 : w13.cell? ⟨go12, (x12_1 : Int).toNat * 5 + 4, none⟩ = some (.int .i64 ((rd_T38 x5_1 x12_1).f3)) := hcc12 4 _ rfl; have hf12_0 : w13.frozen? ⟨go12, (x12_1 : Int).toNat * 5, none⟩ = false := hfr12 0; have hf12_1 : w13.frozen? ⟨go12, (x12_1 : Int).toNat * 5 + 1, none⟩ = false := hfr12 1; have hf12_2 : w13.frozen? ⟨go12, (x12_1 : Int).toNat * 5 + 2, none⟩ = false := hfr12 2; have hf12_3 : w13.frozen? ⟨go12, (x12_1 : Int).toNat * 5 + 3, none⟩ = false := hfr12 3; have hf12_4 : w13.frozen? ⟨go12, (x12_1 : Int).toNat * 5 + 4, none⟩ = false := hfr12 4; clear hcl12 hcc12 hfr12 hM12; replace p12 := eq_true p12; replace q12 := eq_true q12; have HX14 := Aside0.mk (show Kd.R k38 38 w13 w.heap.size (fun _ => True) (.slice (some ⟨go12, 0, none⟩) x5_1.length co7) x5_1 from Q15); obtain ⟨ce14, hcl14, hM14, hcc14, hfr14⟩ := Kd.R_elem HX14.out z38 (x12_1 : Int) (of_decide_eq_true Q5) (by have h_ : (x12_1 : Int) < ((x5_1.length : Int) : Int) := of_decide_eq_true Q5; first | exact h_ | (have e_ := (Kd.R_reads' HO_5.out).1; omega) | simpa using h_); obtain rfl := k38_openM hM14; have HP14 := Kd.R_seg HX14.out (x12_1 : Int) (of_decide_eq_true Q5) (by have h_ : (x12_1 : Int) < ((x5_1.length : Int) : Int) := of_decide_eq_true Q5; first | exact h_ | (have e_ := (Kd.R_reads' HO_5.out).1; omega) | simpa using h_) (seg := [.int .i64 t155, .int .i64 t156]) (j := 2) hcl14 hcc14 (show 4 ≤ 5 from by decide) (x' := (⟨(rd_T38 x5_1 x12_1).f0, (rd_T38 x5_1 x12_1).f1, (⟨t155, t156⟩ : S36), (rd_T38 x5_1 x12_1).f3⟩ : S38)) (k38_mkM _ _ _ (⟨(rd_T38 x5_1 x12_1).f0, (rd_T38 x5_1 x12_1).f1, (⟨t155, t156⟩ : S36), (rd_T38 x5_1 x12_1).f3⟩ : S38) ) (fun _ hk => hk); have hx14_2 := hcc14 2 _ rfl; (try simp only [show (k38).sz = 5 from rfl, Nat.mul_one, Nat.add_zero] at hx14_2); have hf14_2 := hfr14 2; (try simp only [show (k38).sz = 5 from rfl, Nat.mul_one, Nat.add_zero] at hf14_2); have hx14_3 := hcc14 3 _ rfl; (try simp only [show (k38).sz = 5 from rfl, Nat.mul_one, Nat.add_zero] at hx14_3); have hf14_3 := hfr14 3; (try simp only [show (k38).sz = 5 from rfl, Nat.mul_one, Nat.add_zero] at hf14_3); clear hcl14 hcc14 hfr14 hM14) | ((with_reducible refine gate_store (t := 36) (p := 25) rfl ?_); refine store_event (t := 36) (p := 25) (v := ?vo_w15) (w1 := ((w13.setCell ⟨go12, (x12_1 : Int).toNat * 5 + 2, none⟩ (.int .i64 t155)).setCell ⟨go12, (x12_1 : Int).toNat * 5 + 3, none⟩ (.int .i64 t156))) ?hg ?ho ?hn ?hr ?_; (case ho => rfl); (case hg => rfl); (case hn => rfl); (case hr => first | (go_simp; done) | (go_simp; rfl)); intro w15 hw; have hg : w13.grownBy w15 (some go12) := (by rw [hw]; exact HP14.2); have hp_ : Kd.R k38 38 w15 w.heap.size (fun _ => True) (.slice (some ⟨go12, 0, none⟩) x5_1.length co7) y157 := (by rw [hw, Ny157.out]; exact HP14.1); clear HP14; have n0_ := Aside0.mk (hp_); have n1_ := Aside0.mk ((by rw [hw]; exact below_set (below_set (HB.out) GB12.out) GB12.out : Below w.heap.size w w15)); clear HO_5; clear HB; have HO_5 := n0_; have HB := n1_; clear n0_ n1_; clear hg hw hp_))
       (try simp only [← hl5_1])
       go_roundg k1
       case measure => have := HK1.out; omega
       case rel => exact ⟨(y157), (wrap64 (x12_1 + 1)), Q4, H', ⟨Q2⟩, ⟨by (try simp only [hl5_1]); (with_reducible repeat (first | apply Kd.R_alloc | apply Kd.R_drewN | apply Kd.R_drew)); exact HO_5.out⟩, ⟨Q64⟩⟩
      ·rw [if_neg c10] at H
       exact absurd H (by simp)
     ·rw [if_neg c9] at H
      exact absurd H (by simp)
    ·rw [if_neg c8] at H
     have c8b0 : decide (x12_1 < (y151.length : Int)) = false := decide_eq_false c8
     (try (have c8h0 := c8b0; simp only [hl5_1] at c8h0))
     clear c8
     obtain rfl := Option.some.inj H
     go_wp2
     go_ret
     exact ⟨_, Q12, Q15, Q64⟩
 ·rw [if_neg c3] at H
  exact absurd H (by simp)
noncomputable def impl_BatchMove.j0 : Nat → List (S38) → List (S36) → Bool → Option ((List (S38)))
 | 0, _, _, _ => none
 | k + 1, x0, x1, x14 => if x14 = true then (some ([] : List (S38))) else ((impl_advanced.f k x0 x1).bind fun t160 => ((impl_batch.f k t160).bind fun bt163 => (some bt163.1)))
noncomputable def impl_BatchMove.f (k : Nat) (l0 : List (S38)) (l1 : List (S36)) : Option ((List (S38))) := (impl_RowsOk.f k l0).bind fun t158 => (if t158 = true then ((impl_FrontOk.f k l1).bind fun t159 => (impl_BatchMove.j0 k l0 l1 (!t159))) else (impl_BatchMove.j0 k l0 l1 true))
theorem impl_BatchMove.mono_l : ∀ k, (∀ y0 y1 y2, LeO (impl_BatchMove.j0 k y0 y1 y2) (impl_BatchMove.j0 (k + 1) y0 y1 y2))
 | 0 => fun _ _ _ r h => by simp [impl_BatchMove.j0] at h
 | k + 1 => by
  have ih0 := impl_BatchMove.mono_l k
  ·intro y0 y1 y2
   unfold impl_BatchMove.j0
   repeat' first
   | (with_reducible exact ih0 _ _ _)
   | (with_reducible exact impl_FrontOk.mono _ _)
   | (with_reducible exact impl_RowsOk.mono _ _)
   | (with_reducible exact impl_advanced.mono _ _ _)
   | (with_reducible exact impl_batch.mono _ _)
   | (with_reducible exact LeO.refl _)
   | (with_reducible exact LeO.none _)
   | (with_reducible refine LeO.ite ?_ ?_)
   | (with_reducible refine LeO.bind ?_ (fun _ => ?_))
   | exact ih0 _ _ _
   | exact impl_FrontOk.mono _ _
   | exact impl_RowsOk.mono _ _
   | exact impl_advanced.mono _ _ _
   | exact impl_batch.mono _ _
   | exact LeO.none _
   | refine LeO.ite ?_ ?_
   | refine LeO.bind ?_ (fun _ => ?_)
theorem impl_BatchMove.mono : ∀ a0 a1 k, LeO (impl_BatchMove.f k a0 a1) (impl_BatchMove.f (k + 1) a0 a1) := by
 intro a0 a1 k
 have ih0 := impl_BatchMove.mono_l k
 unfold impl_BatchMove.f
 repeat' first
   | (with_reducible exact ih0 _ _ _)
   | (with_reducible exact impl_FrontOk.mono _ _)
   | (with_reducible exact impl_RowsOk.mono _ _)
   | (with_reducible exact impl_advanced.mono _ _ _)
   | (with_reducible exact impl_batch.mono _ _)
   | (with_reducible exact LeO.refl _)
   | (with_reducible exact LeO.none _)
   | (with_reducible refine LeO.ite ?_ ?_)
   | (with_reducible refine LeO.bind ?_ (fun _ => ?_))
   | exact ih0 _ _ _
   | exact impl_FrontOk.mono _ _
   | exact impl_RowsOk.mono _ _
   | exact impl_advanced.mono _ _ _
   | exact impl_batch.mono _ _
   | exact LeO.none _
   | refine LeO.ite ?_ ?_
   | refine LeO.bind ?_ (fun _ => ?_)
set_option maxHeartbeats 8000000 in
set_option maxRecDepth 100000 in
theorem impl_BatchMove.calls (k : Nat) (A0 : Option Addr) (c0 : Nat) (l0 : List (S38)) (A1 : Option Addr) (c1 : Nat) (l1 : List (S36)) (r : List (S38)) (w : World) (hr0 : Kd.C k38 w A0 l0.length l0) (hc0 : l0.length ≤ c0) (hr1 : Kd.C k36 w A1 l1.length l1) (hc1 : l1.length ≤ c1) (h : impl_BatchMove.f k l0 l1 = some r) :
  Calls Try.prog 17 #[.slice A0 l0.length c0, .slice A1 l1.length c1] w fun e w' => ∃ v0_ : Value, e = .returned (v0_) ∧ Kd.R k38 38 w' w.heap.size (fun _ => True) v0_ r ∧ Below w.heap.size w w' := by
 have HR0 := Aside0.mk hr0
 have HC0 := Aside0.mk hc0
 clear hr0 hc0
 have HR1 := Aside0.mk hr1
 have HC1 := Aside0.mk hc1
 clear hr1 hc1
 have HB := Aside0.mk (Below.refl w.heap.size w)
 have H : ((impl_RowsOk.f k l0).bind fun t158 => (if t158 = true then ((impl_FrontOk.f k l1).bind fun t159 => (impl_BatchMove.j0 k l0 l1 (!t159))) else (impl_BatchMove.j0 k l0 l1 true))) = some r := h
 clear h
 have HC3 := Aside0.mk H
 clear H
 go_enter Try.func17, Try.ntmps17
 go_upto_region 1 with (fail)
 go_cut [14] (fun v14 wc => ∃ (kq : Nat) (x14_2 : Bool), v14 = .bool x14_2 ∧ Aside0 (impl_BatchMove.j0 kq l0 l1 x14_2 = some r) ∧ Aside0 (kq ≤ k) ∧ Aside0 (Below w.heap.size w wc))
 case first =>
  have H := HC3.out
  clear HC3
  replace H := Option.bind_eq_some_iff.mp H
  obtain ⟨t158, A40, H⟩ := H
  replace H : (if t158 = true then ((impl_FrontOk.f k l1).bind fun t159 => (impl_BatchMove.j0 k l0 l1 (!t159))) else (impl_BatchMove.j0 k l0 l1 true)) = some r := H
  have A4 := Aside0.mk A40
  clear A40
  by_cases c5 : t158 = true
  ·subst c5
   have H1 : ((impl_FrontOk.f k l1).bind fun t159 => (impl_BatchMove.j0 k l0 l1 (!t159))) = some r := by rw [if_pos rfl] at H; exact H
   clear H
   have H := H1
   clear H1
   replace H := Option.bind_eq_some_iff.mp H
   obtain ⟨t159, A60, H⟩ := H
   replace H : (impl_BatchMove.j0 k l0 l1 (!t159)) = some r := H
   have A6 := Aside0.mk A60
   clear A60
   have H' := Aside0.mk H
   clear H
   go_wp2_with (first | ((with_reducible refine gate_callee (f := 39) rfl ?_); refine goesL_ (some 8) rfl rfl Try.func39 Q1 rfl #[.slice A0 l0.length c0] rfl Q65 ?_; (with_reducible refine (impl_RowsOk.calls k _ _ l0 true _ ?side1 ?side2 A4.out).mono ?_); (case side1 => repeat (first | exact (Kd.C_below HR0.out HB.out) | (with_reducible refine Kd.C_alloc ?_ _) | (with_reducible refine Kd.C_drewN ?_ _) | (with_reducible refine Kd.C_drew ?_))); (case side2 => exact HC0.out); rintro e w7 ⟨rfl, hb⟩; refine ⟨_, rfl, ?_⟩; have n0_ := Aside0.mk (below_step Q64 hb); clear HB; have HB := n0_; clear n0_; (try clear hb); (try clear hb2); (try clear hk); (try clear hi)) | (go_at_call 53; (with_reducible refine (impl_FrontOk.calls k _ _ l1 t159 _ ?side1 ?side2 A6.out).mono ?_); (case side1 => repeat (first | exact (Kd.C_below HR1.out HB.out) | (with_reducible refine Kd.C_alloc ?_ _) | (with_reducible refine Kd.C_drewN ?_ _) | (with_reducible refine Kd.C_drew ?_))); (case side2 => exact HC1.out); rintro e w8 ⟨rfl, hb⟩; have n0_ := Aside0.mk (below_step Q64 hb); clear HB; have HB := n0_; clear n0_; (try clear hb); (try clear hb2); (try clear hk); (try clear hi)))
   go_meet
   case rel => exact ⟨_, (!t159), Q4, H', ⟨Q3⟩, ⟨Q64⟩⟩
  ·replace c5 := Bool.eq_false_iff.mpr c5
   subst c5
   have H1 : (impl_BatchMove.j0 k l0 l1 true) = some r := by rw [if_neg (show ¬ (false = true) by decide)] at H; exact H
   clear H
   have H := H1
   clear H1
   have H' := Aside0.mk H
   clear H
   go_wp2_with (first | ((with_reducible refine gate_callee (f := 39) rfl ?_); refine goesL_ (some 8) rfl rfl Try.func39 Q1 rfl #[.slice A0 l0.length c0] rfl Q65 ?_; (with_reducible refine (impl_RowsOk.calls k _ _ l0 false _ ?side1 ?side2 A4.out).mono ?_); (case side1 => repeat (first | exact (Kd.C_below HR0.out HB.out) | (with_reducible refine Kd.C_alloc ?_ _) | (with_reducible refine Kd.C_drewN ?_ _) | (with_reducible refine Kd.C_drew ?_))); (case side2 => exact HC0.out); rintro e w9 ⟨rfl, hb⟩; refine ⟨_, rfl, ?_⟩; have n0_ := Aside0.mk (below_step Q64 hb); clear HB; have HB := n0_; clear n0_; (try clear hb); (try clear hb2); (try clear hk); (try clear hi)))
   go_meet
   case rel => exact ⟨_, (true), Q4, H', ⟨Q3⟩, ⟨Q64⟩⟩
 case rest =>
  clear HC3
  try clear c1
  try clear p2
  try clear c3
  try clear c5
  obtain ⟨kq, x14_2, rfl, HA, HJ2, HB⟩ := hcut
  cases kq with
  | zero => exact absurd HA.out (by simp [impl_BatchMove.j0])
  | succ kj2 =>
   have H := HA.out
   clear HA
   simp only [impl_BatchMove.j0] at H
   by_cases c10 : x14_2 = true
   ·subst c10
    have H1 : (some ([] : List (S38))) = some r := by rw [if_pos rfl] at H; exact H
    clear H
    have H := H1
    clear H1
    obtain rfl := Option.some.inj H
    go_wp2
    go_ret
    exact ⟨_, Q12, by first | exact Kd.R_nil _ _ _ _ _ | exact Kd.N_nil _ _ _ _ _ | exact Kd.V_nil _ _ _ _ _ | exact Kd.Q_nil _ _ _ _ _ | exact Kd.S_nil _ _ _ _ _, Q64⟩
   ·replace c10 := Bool.eq_false_iff.mpr c10
    subst c10
    have H1 : ((impl_advanced.f kj2 l0 l1).bind fun t160 => ((impl_batch.f kj2 t160).bind fun bt163 => (some bt163.1))) = some r := by rw [if_neg (show ¬ (false = true) by decide)] at H; exact H
    clear H
    have H := H1
    clear H1
    replace H := Option.bind_eq_some_iff.mp H
    obtain ⟨t160, A110, H⟩ := H
    replace H : ((impl_batch.f kj2 t160).bind fun bt163 => (some bt163.1)) = some r := H
    have A11 := Aside0.mk A110
    clear A110
    replace H := Option.bind_eq_some_iff.mp H
    obtain ⟨⟨t163, t164⟩, A120, H⟩ := H
    replace H : (some t163) = some r := H
    have A12 := Aside0.mk A120
    clear A120
    obtain rfl := Option.some.inj H
    go_wp2_with (first | ((with_reducible refine gate_callee (f := 55) rfl ?_); refine goesL_ (some 18) rfl rfl Try.func55 Q1 rfl #[.slice A0 l0.length c0, .slice A1 l1.length c1] rfl Q65 ?_; (with_reducible refine (impl_advanced.calls kj2 _ _ l0 _ _ l1 t160 _ ?side1 ?side2 ?side3 ?side4 A11.out).mono ?_); (case side1 => repeat (first | exact (Kd.C_below HR0.out HB.out) | (with_reducible refine Kd.C_alloc ?_ _) | (with_reducible refine Kd.C_drewN ?_ _) | (with_reducible refine Kd.C_drew ?_))); (case side2 => exact HC0.out); (case side3 => repeat (first | exact (Kd.C_below HR1.out HB.out) | (with_reducible refine Kd.C_alloc ?_ _) | (with_reducible refine Kd.C_drewN ?_ _) | (with_reducible refine Kd.C_drew ?_))); (case side4 => exact HC1.out); rintro e w13 ⟨v161, rfl, ho0, hb⟩; refine ⟨_, rfl, ?_⟩; have n0_ := Aside0.mk (Kd.R_lower ho0 (below_size Q64)); have n1_ := Aside0.mk (below_step Q64 hb); clear HB; have HO162 := n0_; have HB := n1_; clear n0_ n1_; (try clear hb); (try clear hb2); (try clear hk); (try clear hi); (try clear ho0); obtain ⟨Ao14, co14, eo14⟩ := Kd.R_slice HO162.out; subst eo14) | ((with_reducible refine gate_callee (f := 54) rfl ?_); refine goesL_ (some 19) rfl rfl Try.func54 Q1 rfl #[.slice Ao14 t160.length co14] rfl Q65 ?_; (with_reducible refine (impl_batch.calls kj2 _ _ t160 t163 t164 _ ?side1 ?side2 A12.out).mono ?_); (case side1 => repeat (first | exact (Kd.R_reads' HO162.out).2.2 | (with_reducible refine Kd.C_alloc ?_ _) | (with_reducible refine Kd.C_drewN ?_ _) | (with_reducible refine Kd.C_drew ?_))); (case side2 => exact (Kd.R_reads' HO162.out).2.1); rintro e w15 ⟨v165, rfl, ho0, hb⟩; refine ⟨_, rfl, ?_⟩; have n0_ := Aside0.mk (Kd.R_elder' (by (with_reducible repeat (first | apply Kd.R_alloc | apply Kd.R_drewN | apply Kd.R_drew)); exact HO162.out) (Kd.R_base ho0) hb); have n1_ := Aside0.mk (Kd.R_lower (Kd.R_new' ho0 (Kd.R_lt (by (with_reducible repeat (first | apply Kd.R_alloc | apply Kd.R_drewN | apply Kd.R_drew)); exact HO162.out))) (below_size Q64)); have n2_ := Aside0.mk (below_step Q64 hb); clear HO162; clear HB; have HO162 := n0_; have HO166 := n1_; have HB := n2_; clear n0_ n1_ n2_; (try clear hb); (try clear hb2); (try clear hk); (try clear hi); (try clear ho0)))
    go_ret
    exact ⟨_, Q12, by (with_reducible repeat (first | apply Kd.R_alloc | apply Kd.R_drewN | apply Kd.R_drew)); exact Kd.R_mono HO166.out (fun _ hk => trivial), Q64⟩
def spec_l6In.f (a0 : Int) (a1 : Int) (a2 : Int) : Option (Bool) := if a0 ≥ a1 then (some (decide (a0 ≤ a2))) else (some false)
set_option maxHeartbeats 8000000 in
set_option maxRecDepth 100000 in
theorem spec_l6In.calls (a0 : Int) (a1 : Int) (a2 : Int) (r : Bool) (w : World) (h : spec_l6In.f a0 a1 a2 = some r) :
  Calls Try.prog 89 #[.int .i64 a0, .int .i64 a1, .int .i64 a2] w fun e w' => e = .returned (.bool r) ∧ Drawn0 w w' := by
 have H : (if a0 ≥ a1 then (some (decide (a0 ≤ a2))) else (some false)) = some r := h
 clear h
 by_cases c4 : a0 ≥ a1
 ·rw [if_pos c4] at H
  have c4b0 : decide (a1 ≤ a0) = true := decide_eq_true c4
  clear c4
  obtain rfl := Option.some.inj H
  go_enter Try.func89, Try.ntmps89
  go_wp2
  go_ret
  exact ⟨Q4, Q7⟩
 ·rw [if_neg c4] at H
  have c4b0 : decide (a1 ≤ a0) = false := decide_eq_false c4
  clear c4
  obtain rfl := Option.some.inj H
  go_enter Try.func89, Try.ntmps89
  go_wp2
  go_ret
  exact ⟨Q4, Q7⟩
def spec_TimeOk.f (a0_0 : Int) (a0_1 : Int) : Option (Bool) := (spec_l6In.f a0_0 0 7).bind fun t168 => (if t168 = true then ((spec_l6In.f a0_1 0 7).bind fun t169 => (some t169)) else (some false))
set_option maxHeartbeats 8000000 in
set_option maxRecDepth 100000 in
theorem spec_TimeOk.calls (a0_0 : Int) (a0_1 : Int) (r : Bool) (w : World) (h : spec_TimeOk.f a0_0 a0_1 = some r) :
  Calls Try.prog 60 #[.agg #[.int .i64 a0_0, .int .i64 a0_1]] w fun e w' => e = .returned (.bool r) ∧ Below w.heap.size w w' := by
 have hu36 := Try.underlying36
 have HB := Aside0.mk (Below.refl w.heap.size w)
 have H : ((spec_l6In.f a0_0 0 7).bind fun t168 => (if t168 = true then ((spec_l6In.f a0_1 0 7).bind fun t169 => (some t169)) else (some false))) = some r := h
 clear h
 replace H := Option.bind_eq_some_iff.mp H
 obtain ⟨t168, A20, H⟩ := H
 replace H : (if t168 = true then ((spec_l6In.f a0_1 0 7).bind fun t169 => (some t169)) else (some false)) = some r := H
 have A2 := Aside0.mk A20
 clear A20
 by_cases c3 : t168 = true
 ·subst c3
  have H1 : ((spec_l6In.f a0_1 0 7).bind fun t169 => (some t169)) = some r := by rw [if_pos rfl] at H; exact H
  clear H
  have H := H1
  clear H1
  replace H := Option.bind_eq_some_iff.mp H
  obtain ⟨t169, A40, H⟩ := H
  replace H : (some t169) = some r := H
  have A4 := Aside0.mk A40
  clear A40
  obtain rfl := Option.some.inj H
  go_enter Try.func60, Try.ntmps60
  go_wp2_with (first | ((with_reducible refine gate_dst (N := 1) rfl ?_); refine box_event ?hg (N := 1) ?hd (cs := #[.int .i64 a0_0, .int .i64 a0_1]) (t := 36) ?hr ?_; (case hd => rfl); (case hg => rfl); (case hr => first | (go_simp; done) | (go_simp; rfl)); intro gb167 hg w5 hbox hb; have n0_ := Aside0.mk (below_step Q64 hb); have n1_ := Aside0.mk (hbox); have n2_ := Aside0.mk ((Q105 : w.heap.size ≤ gb167)); have n3_ := n2_; clear HB; have HB := n0_; have BK167 := n1_; have GW167 := n2_; have GE167 := n3_; clear n0_ n1_ n2_ n3_; clear hb hbox hg; have hcz6_0 : w5.cell? ⟨gb167, 0, none⟩ = some (.int .i64 a0_0) := (blk_cell BK167.out 0).trans rfl; have hcz6_1 : w5.cell? ⟨gb167, 1, none⟩ = some (.int .i64 a0_1) := (blk_cell BK167.out 1).trans rfl; have hfz6_0 := blk_frozen BK167.out 0; have hfz6_1 := blk_frozen BK167.out 1) | ((with_reducible refine gate_callee (f := 89) rfl ?_); refine goesL_ (some 5) rfl rfl Try.func89 Q1 rfl #[.int .i64 a0_0, .int .i64 0, .int .i64 7] rfl Q65 ?_; (with_reducible refine (spec_l6In.calls a0_0 0 7 true _ A2.out).mono ?_); rintro e w' ⟨rfl, ⟨nd, rfl⟩⟩; refine ⟨_, rfl, ?_⟩) | (go_at_call 89; (with_reducible refine (spec_l6In.calls a0_1 0 7 t169 _ A4.out).mono ?_); rintro e w' ⟨rfl, ⟨nd, rfl⟩⟩))
  go_ret
  exact ⟨Q12, by repeat (first | (with_reducible first | exact HB.out | apply below_alloc | apply pw_below_drewN | apply below_drew1 | refine below_set ?_ GE167.out) | exact HB.out)⟩
 ·replace c3 := Bool.eq_false_iff.mpr c3
  subst c3
  have H1 : (some false) = some r := by rw [if_neg (show ¬ (false = true) by decide)] at H; exact H
  clear H
  have H := H1
  clear H1
  obtain rfl := Option.some.inj H
  go_enter Try.func60, Try.ntmps60
  go_wp2_with (first | ((with_reducible refine gate_dst (N := 1) rfl ?_); refine box_event ?hg (N := 1) ?hd (cs := #[.int .i64 a0_0, .int .i64 a0_1]) (t := 36) ?hr ?_; (case hd => rfl); (case hg => rfl); (case hr => first | (go_simp; done) | (go_simp; rfl)); intro gb167 hg w7 hbox hb; have n0_ := Aside0.mk (below_step Q64 hb); have n1_ := Aside0.mk (hbox); have n2_ := Aside0.mk ((Q105 : w.heap.size ≤ gb167)); have n3_ := n2_; clear HB; have HB := n0_; have BK167 := n1_; have GW167 := n2_; have GE167 := n3_; clear n0_ n1_ n2_ n3_; clear hb hbox hg; have hcz8_0 : w7.cell? ⟨gb167, 0, none⟩ = some (.int .i64 a0_0) := (blk_cell BK167.out 0).trans rfl; have hcz8_1 : w7.cell? ⟨gb167, 1, none⟩ = some (.int .i64 a0_1) := (blk_cell BK167.out 1).trans rfl; have hfz8_0 := blk_frozen BK167.out 0; have hfz8_1 := blk_frozen BK167.out 1) | ((with_reducible refine gate_callee (f := 89) rfl ?_); refine goesL_ (some 5) rfl rfl Try.func89 Q1 rfl #[.int .i64 a0_0, .int .i64 0, .int .i64 7] rfl Q65 ?_; (with_reducible refine (spec_l6In.calls a0_0 0 7 false _ A2.out).mono ?_); rintro e w' ⟨rfl, ⟨nd, rfl⟩⟩; refine ⟨_, rfl, ?_⟩))
  go_ret
  exact ⟨Q12, by repeat (first | (with_reducible first | exact HB.out | apply below_alloc | apply pw_below_drewN | apply below_drew1 | refine below_set ?_ GE167.out) | exact HB.out)⟩
def spec_l2Row.f (a0_0 : Int) (a0_1 : Int) (a0_2 : Int) (a0_3 : Int) (a0_4 : Int) : Option (Bool) := (spec_l6In.f a0_0 0 3).bind fun t171 => (if t171 = true then ((spec_l6In.f a0_1 0 99).bind fun t172 => (if t172 = true then ((spec_TimeOk.f a0_2 a0_3).bind fun t173 => (if t173 = true then ((spec_l6In.f a0_4 (-99999) 99999).bind fun t174 => (some t174)) else (some false))) else (some false))) else (some false))
set_option maxHeartbeats 8000000 in
set_option maxRecDepth 100000 in
theorem spec_l2Row.calls (a0_0 : Int) (a0_1 : Int) (a0_2 : Int) (a0_3 : Int) (a0_4 : Int) (r : Bool) (w : World) (h : spec_l2Row.f a0_0 a0_1 a0_2 a0_3 a0_4 = some r) :
  Calls Try.prog 59 #[.agg #[.int .i64 a0_0, .int .i64 a0_1, .int .i64 a0_2, .int .i64 a0_3, .int .i64 a0_4]] w fun e w' => e = .returned (.bool r) ∧ Below w.heap.size w w' := by
 have hu38 := Try.underlying38
 have hu36 := Try.underlying36
 have HB := Aside0.mk (Below.refl w.heap.size w)
 have H : ((spec_l6In.f a0_0 0 3).bind fun t171 => (if t171 = true then ((spec_l6In.f a0_1 0 99).bind fun t172 => (if t172 = true then ((spec_TimeOk.f a0_2 a0_3).bind fun t173 => (if t173 = true then ((spec_l6In.f a0_4 (-99999) 99999).bind fun t174 => (some t174)) else (some false))) else (some false))) else (some false))) = some r := h
 clear h
 replace H := Option.bind_eq_some_iff.mp H
 obtain ⟨t171, A20, H⟩ := H
 replace H : (if t171 = true then ((spec_l6In.f a0_1 0 99).bind fun t172 => (if t172 = true then ((spec_TimeOk.f a0_2 a0_3).bind fun t173 => (if t173 = true then ((spec_l6In.f a0_4 (-99999) 99999).bind fun t174 => (some t174)) else (some false))) else (some false))) else (some false)) = some r := H
 have A2 := Aside0.mk A20
 clear A20
 by_cases c3 : t171 = true
 ·subst c3
  have H1 : ((spec_l6In.f a0_1 0 99).bind fun t172 => (if t172 = true then ((spec_TimeOk.f a0_2 a0_3).bind fun t173 => (if t173 = true then ((spec_l6In.f a0_4 (-99999) 99999).bind fun t174 => (some t174)) else (some false))) else (some false))) = some r := by rw [if_pos rfl] at H; exact H
  clear H
  have H := H1
  clear H1
  replace H := Option.bind_eq_some_iff.mp H
  obtain ⟨t172, A40, H⟩ := H
  replace H : (if t172 = true then ((spec_TimeOk.f a0_2 a0_3).bind fun t173 => (if t173 = true then ((spec_l6In.f a0_4 (-99999) 99999).bind fun t174 => (some t174)) else (some false))) else (some false)) = some r := H
  have A4 := Aside0.mk A40
  clear A40
  by_cases c5 : t172 = true
  ·subst c5
   have H1 : ((spec_TimeOk.f a0_2 a0_3).bind fun t173 => (if t173 = true then ((spec_l6In.f a0_4 (-99999) 99999).bind fun t174 => (some t174)) else (some false))) = some r := by rw [if_pos rfl] at H; exact H
   clear H
   have H := H1
   clear H1
   replace H := Option.bind_eq_some_iff.mp H
   obtain ⟨t173, A60, H⟩ := H
   replace H : (if t173 = true then ((spec_l6In.f a0_4 (-99999) 99999).bind fun t174 => (some t174)) else (some false)) = some r := H
   have A6 := Aside0.mk A60
   clear A60
   by_cases c7 : t173 = true
   ·subst c7
    have H1 : ((spec_l6In.f a0_4 (-99999) 99999).bind fun t174 => (some t174)) = some r := by rw [if_pos rfl] at H; exact H
    clear H
    have H := H1
    clear H1
    replace H := Option.bind_eq_some_iff.mp H
    obtain ⟨t174, A80, H⟩ := H
    replace H : (some t174) = some r := H
    have A8 := Aside0.mk A80
    clear A80
    obtain rfl := Option.some.inj H
    go_enter Try.func59, Try.ntmps59
    go_wp2_with (first | ((with_reducible refine gate_dst (N := 1) rfl ?_); refine box_event ?hg (N := 1) ?hd (cs := #[.int .i64 a0_0, .int .i64 a0_1, .int .i64 a0_2, .int .i64 a0_3, .int .i64 a0_4]) (t := 38) ?hr ?_; (case hd => rfl); (case hg => rfl); (case hr => first | (go_simp; done) | (go_simp; rfl)); intro gb170 hg w9 hbox hb; have n0_ := Aside0.mk (below_step Q64 hb); have n1_ := Aside0.mk (hbox); have n2_ := Aside0.mk ((Q105 : w.heap.size ≤ gb170)); have n3_ := n2_; clear HB; have HB := n0_; have BK170 := n1_; have GW170 := n2_; have GE170 := n3_; clear n0_ n1_ n2_ n3_; clear hb hbox hg; have hcz10_0 : w9.cell? ⟨gb170, 0, none⟩ = some (.int .i64 a0_0) := (blk_cell BK170.out 0).trans rfl; have hcz10_1 : w9.cell? ⟨gb170, 1, none⟩ = some (.int .i64 a0_1) := (blk_cell BK170.out 1).trans rfl; have hcz10_2 : w9.cell? ⟨gb170, 2, none⟩ = some (.int .i64 a0_2) := (blk_cell BK170.out 2).trans rfl; have hcz10_3 : w9.cell? ⟨gb170, 3, none⟩ = some (.int .i64 a0_3) := (blk_cell BK170.out 3).trans rfl; have hcz10_4 : w9.cell? ⟨gb170, 4, none⟩ = some (.int .i64 a0_4) := (blk_cell BK170.out 4).trans rfl; have hfz10_0 := blk_frozen BK170.out 0; have hfz10_1 := blk_frozen BK170.out 1; have hfz10_2 := blk_frozen BK170.out 2; have hfz10_3 := blk_frozen BK170.out 3; have hfz10_4 := blk_frozen BK170.out 4) | ((with_reducible refine gate_callee (f := 89) rfl ?_); refine goesL_ (some 5) rfl rfl Try.func89 Q1 rfl #[.int .i64 a0_0, .int .i64 0, .int .i64 3] rfl Q65 ?_; (with_reducible refine (spec_l6In.calls a0_0 0 3 true _ A2.out).mono ?_); rintro e w' ⟨rfl, ⟨nd, rfl⟩⟩; refine ⟨_, rfl, ?_⟩) | (go_at_call 89; (with_reducible refine (spec_l6In.calls a0_1 0 99 true _ A4.out).mono ?_); rintro e w' ⟨rfl, ⟨nd, rfl⟩⟩) | (go_at_call 60; (with_reducible refine (spec_TimeOk.calls a0_2 a0_3 true _ A6.out).mono ?_); rintro e w11 ⟨rfl, hb⟩; have n0_ := Aside0.mk (blk_below (g := gb170) (o := .cells #[.int .i64 a0_0, .int .i64 a0_1, .int .i64 a0_2, .int .i64 a0_3, .int .i64 a0_4] 38 (0, 0)) (by (with_reducible repeat (first | refine blk_drewN ?_ _ | refine blk_drew ?_ | refine blk_alloc ?_ _)); exact BK170.out) hb); have n1_ := Aside0.mk (below_step Q75 hb); clear BK170; clear HB; have BK170 := n0_; have HB := n1_; clear n0_ n1_; (try clear hb); (try clear hb2); (try clear hk); (try clear hi); have hcz12_0 : w11.cell? ⟨gb170, 0, none⟩ = some (.int .i64 a0_0) := (blk_cell BK170.out 0).trans rfl; have hcz12_1 : w11.cell? ⟨gb170, 1, none⟩ = some (.int .i64 a0_1) := (blk_cell BK170.out 1).trans rfl; have hcz12_2 : w11.cell? ⟨gb170, 2, none⟩ = some (.int .i64 a0_2) := (blk_cell BK170.out 2).trans rfl; have hcz12_3 : w11.cell? ⟨gb170, 3, none⟩ = some (.int .i64 a0_3) := (blk_cell BK170.out 3).trans rfl; have hcz12_4 : w11.cell? ⟨gb170, 4, none⟩ = some (.int .i64 a0_4) := (blk_cell BK170.out 4).trans rfl; have hfz12_0 := blk_frozen BK170.out 0; have hfz12_1 := blk_frozen BK170.out 1; have hfz12_2 := blk_frozen BK170.out 2; have hfz12_3 := blk_frozen BK170.out 3; have hfz12_4 := blk_frozen BK170.out 4) | (go_at_call 89; (with_reducible refine (spec_l6In.calls a0_4 (-99999) 99999 t174 _ A8.out).mono ?_); rintro e w' ⟨rfl, ⟨nd, rfl⟩⟩))
    go_ret
    exact ⟨Q12, Q75⟩
   ·replace c7 := Bool.eq_false_iff.mpr c7
    subst c7
    have H1 : (some false) = some r := by rw [if_neg (show ¬ (false = true) by decide)] at H; exact H
    clear H
    have H := H1
    clear H1
    obtain rfl := Option.some.inj H
    go_enter Try.func59, Try.ntmps59
    go_wp2_with (first | ((with_reducible refine gate_dst (N := 1) rfl ?_); refine box_event ?hg (N := 1) ?hd (cs := #[.int .i64 a0_0, .int .i64 a0_1, .int .i64 a0_2, .int .i64 a0_3, .int .i64 a0_4]) (t := 38) ?hr ?_; (case hd => rfl); (case hg => rfl); (case hr => first | (go_simp; done) | (go_simp; rfl)); intro gb170 hg w13 hbox hb; have n0_ := Aside0.mk (below_step Q64 hb); have n1_ := Aside0.mk (hbox); have n2_ := Aside0.mk ((Q105 : w.heap.size ≤ gb170)); have n3_ := n2_; clear HB; have HB := n0_; have BK170 := n1_; have GW170 := n2_; have GE170 := n3_; clear n0_ n1_ n2_ n3_; clear hb hbox hg; have hcz14_0 : w13.cell? ⟨gb170, 0, none⟩ = some (.int .i64 a0_0) := (blk_cell BK170.out 0).trans rfl; have hcz14_1 : w13.cell? ⟨gb170, 1, none⟩ = some (.int .i64 a0_1) := (blk_cell BK170.out 1).trans rfl; have hcz14_2 : w13.cell? ⟨gb170, 2, none⟩ = some (.int .i64 a0_2) := (blk_cell BK170.out 2).trans rfl; have hcz14_3 : w13.cell? ⟨gb170, 3, none⟩ = some (.int .i64 a0_3) := (blk_cell BK170.out 3).trans rfl; have hcz14_4 : w13.cell? ⟨gb170, 4, none⟩ = some (.int .i64 a0_4) := (blk_cell BK170.out 4).trans rfl; have hfz14_0 := blk_frozen BK170.out 0; have hfz14_1 := blk_frozen BK170.out 1; have hfz14_2 := blk_frozen BK170.out 2; have hfz14_3 := blk_frozen BK170.out 3; have hfz14_4 := blk_frozen BK170.out 4) | ((with_reducible refine gate_callee (f := 89) rfl ?_); refine goesL_ (some 5) rfl rfl Try.func89 Q1 rfl #[.int .i64 a0_0, .int .i64 0, .int .i64 3] rfl Q65 ?_; (with_reducible refine (spec_l6In.calls a0_0 0 3 true _ A2.out).mono ?_); rintro e w' ⟨rfl, ⟨nd, rfl⟩⟩; refine ⟨_, rfl, ?_⟩) | (go_at_call 89; (with_reducible refine (spec_l6In.calls a0_1 0 99 true _ A4.out).mono ?_); rintro e w' ⟨rfl, ⟨nd, rfl⟩⟩) | (go_at_call 60; (with_reducible refine (spec_TimeOk.calls a0_2 a0_3 false _ A6.out).mono ?_); rintro e w15 ⟨rfl, hb⟩; have n0_ := Aside0.mk (blk_below (g := gb170) (o := .cells #[.int .i64 a0_0, .int .i64 a0_1, .int .i64 a0_2, .int .i64 a0_3, .int .i64 a0_4] 38 (0, 0)) (by (with_reducible repeat (first | refine blk_drewN ?_ _ | refine blk_drew ?_ | refine blk_alloc ?_ _)); exact BK170.out) hb); have n1_ := Aside0.mk (below_step Q75 hb); clear BK170; clear HB; have BK170 := n0_; have HB := n1_; clear n0_ n1_; (try clear hb); (try clear hb2); (try clear hk); (try clear hi)))
    go_ret
    exact ⟨Q12, Q75⟩
  ·replace c5 := Bool.eq_false_iff.mpr c5
   subst c5
   have H1 : (some false) = some r := by rw [if_neg (show ¬ (false = true) by decide)] at H; exact H
   clear H
   have H := H1
   clear H1
   obtain rfl := Option.some.inj H
   go_enter Try.func59, Try.ntmps59
   go_wp2_with (first | ((with_reducible refine gate_dst (N := 1) rfl ?_); refine box_event ?hg (N := 1) ?hd (cs := #[.int .i64 a0_0, .int .i64 a0_1, .int .i64 a0_2, .int .i64 a0_3, .int .i64 a0_4]) (t := 38) ?hr ?_; (case hd => rfl); (case hg => rfl); (case hr => first | (go_simp; done) | (go_simp; rfl)); intro gb170 hg w16 hbox hb; have n0_ := Aside0.mk (below_step Q64 hb); have n1_ := Aside0.mk (hbox); have n2_ := Aside0.mk ((Q105 : w.heap.size ≤ gb170)); have n3_ := n2_; clear HB; have HB := n0_; have BK170 := n1_; have GW170 := n2_; have GE170 := n3_; clear n0_ n1_ n2_ n3_; clear hb hbox hg; have hcz17_0 : w16.cell? ⟨gb170, 0, none⟩ = some (.int .i64 a0_0) := (blk_cell BK170.out 0).trans rfl; have hcz17_1 : w16.cell? ⟨gb170, 1, none⟩ = some (.int .i64 a0_1) := (blk_cell BK170.out 1).trans rfl; have hcz17_2 : w16.cell? ⟨gb170, 2, none⟩ = some (.int .i64 a0_2) := (blk_cell BK170.out 2).trans rfl; have hcz17_3 : w16.cell? ⟨gb170, 3, none⟩ = some (.int .i64 a0_3) := (blk_cell BK170.out 3).trans rfl; have hcz17_4 : w16.cell? ⟨gb170, 4, none⟩ = some (.int .i64 a0_4) := (blk_cell BK170.out 4).trans rfl; have hfz17_0 := blk_frozen BK170.out 0; have hfz17_1 := blk_frozen BK170.out 1; have hfz17_2 := blk_frozen BK170.out 2; have hfz17_3 := blk_frozen BK170.out 3; have hfz17_4 := blk_frozen BK170.out 4) | ((with_reducible refine gate_callee (f := 89) rfl ?_); refine goesL_ (some 5) rfl rfl Try.func89 Q1 rfl #[.int .i64 a0_0, .int .i64 0, .int .i64 3] rfl Q65 ?_; (with_reducible refine (spec_l6In.calls a0_0 0 3 true _ A2.out).mono ?_); rintro e w' ⟨rfl, ⟨nd, rfl⟩⟩; refine ⟨_, rfl, ?_⟩) | (go_at_call 89; (with_reducible refine (spec_l6In.calls a0_1 0 99 false _ A4.out).mono ?_); rintro e w' ⟨rfl, ⟨nd, rfl⟩⟩))
   go_ret
   exact ⟨Q12, Q75⟩
 ·replace c3 := Bool.eq_false_iff.mpr c3
  subst c3
  have H1 : (some false) = some r := by rw [if_neg (show ¬ (false = true) by decide)] at H; exact H
  clear H
  have H := H1
  clear H1
  obtain rfl := Option.some.inj H
  go_enter Try.func59, Try.ntmps59
  go_wp2_with (first | ((with_reducible refine gate_dst (N := 1) rfl ?_); refine box_event ?hg (N := 1) ?hd (cs := #[.int .i64 a0_0, .int .i64 a0_1, .int .i64 a0_2, .int .i64 a0_3, .int .i64 a0_4]) (t := 38) ?hr ?_; (case hd => rfl); (case hg => rfl); (case hr => first | (go_simp; done) | (go_simp; rfl)); intro gb170 hg w18 hbox hb; have n0_ := Aside0.mk (below_step Q64 hb); have n1_ := Aside0.mk (hbox); have n2_ := Aside0.mk ((Q105 : w.heap.size ≤ gb170)); have n3_ := n2_; clear HB; have HB := n0_; have BK170 := n1_; have GW170 := n2_; have GE170 := n3_; clear n0_ n1_ n2_ n3_; clear hb hbox hg; have hcz19_0 : w18.cell? ⟨gb170, 0, none⟩ = some (.int .i64 a0_0) := (blk_cell BK170.out 0).trans rfl; have hcz19_1 : w18.cell? ⟨gb170, 1, none⟩ = some (.int .i64 a0_1) := (blk_cell BK170.out 1).trans rfl; have hcz19_2 : w18.cell? ⟨gb170, 2, none⟩ = some (.int .i64 a0_2) := (blk_cell BK170.out 2).trans rfl; have hcz19_3 : w18.cell? ⟨gb170, 3, none⟩ = some (.int .i64 a0_3) := (blk_cell BK170.out 3).trans rfl; have hcz19_4 : w18.cell? ⟨gb170, 4, none⟩ = some (.int .i64 a0_4) := (blk_cell BK170.out 4).trans rfl; have hfz19_0 := blk_frozen BK170.out 0; have hfz19_1 := blk_frozen BK170.out 1; have hfz19_2 := blk_frozen BK170.out 2; have hfz19_3 := blk_frozen BK170.out 3; have hfz19_4 := blk_frozen BK170.out 4) | ((with_reducible refine gate_callee (f := 89) rfl ?_); refine goesL_ (some 5) rfl rfl Try.func89 Q1 rfl #[.int .i64 a0_0, .int .i64 0, .int .i64 3] rfl Q65 ?_; (with_reducible refine (spec_l6In.calls a0_0 0 3 false _ A2.out).mono ?_); rintro e w' ⟨rfl, ⟨nd, rfl⟩⟩; refine ⟨_, rfl, ?_⟩))
  go_ret
  exact ⟨Q12, Q75⟩
def spec_RowsOk.l0 : Nat → List (S38) → Int → Option (Bool)
 | 0, _, _ => none
 | k + 1, x0, x3 => if x3 < (x0.length : Int) then (if 0 ≤ x3 then ((spec_l2Row.f ((rd_T38 x0 x3).f0) ((rd_T38 x0 x3).f1) ((rd_T38 x0 x3).f2.f0) ((rd_T38 x0 x3).f2.f1) ((rd_T38 x0 x3).f3)).bind fun t176 => (if t176 = true then (spec_RowsOk.l0 k x0 (wrap64 (x3 + 1))) else (some false))) else (none)) else (some true)
def spec_RowsOk.f (k : Nat) (l0 : List (S38)) : Option (Bool) := if (l0.length : Int) > 400 then (some false) else (spec_RowsOk.l0 k l0 0)
theorem spec_RowsOk.mono_l : ∀ k, (∀ y0 y1, LeO (spec_RowsOk.l0 k y0 y1) (spec_RowsOk.l0 (k + 1) y0 y1))
 | 0 => fun _ _ r h => by simp [spec_RowsOk.l0] at h
 | k + 1 => by
  have ih0 := spec_RowsOk.mono_l k
  ·intro y0 y1
   unfold spec_RowsOk.l0
   repeat' first
   | (with_reducible exact ih0 _ _)
   | (with_reducible exact LeO.refl _)
   | (with_reducible exact LeO.none _)
   | (with_reducible refine LeO.ite ?_ ?_)
   | (with_reducible refine LeO.bind ?_ (fun _ => ?_))
   | exact ih0 _ _
   | exact LeO.none _
   | refine LeO.ite ?_ ?_
   | refine LeO.bind ?_ (fun _ => ?_)
theorem spec_RowsOk.mono : ∀ a0 k, LeO (spec_RowsOk.f k a0) (spec_RowsOk.f (k + 1) a0) := by
 intro a0 k
 have ih0 := spec_RowsOk.mono_l k
 unfold spec_RowsOk.f
 repeat' first
   | (with_reducible exact ih0 _ _)
   | (with_reducible exact LeO.refl _)
   | (with_reducible exact LeO.none _)
   | (with_reducible refine LeO.ite ?_ ?_)
   | (with_reducible refine LeO.bind ?_ (fun _ => ?_))
   | exact ih0 _ _
   | exact LeO.none _
   | refine LeO.ite ?_ ?_
   | refine LeO.bind ?_ (fun _ => ?_)
set_option maxHeartbeats 8000000 in
set_option maxRecDepth 100000 in
theorem spec_RowsOk.calls (k : Nat) (A0 : Option Addr) (c0 : Nat) (l0 : List (S38)) (r : Bool) (w : World) (hr0 : Kd.C k38 w A0 l0.length l0) (hc0 : l0.length ≤ c0) (h : spec_RowsOk.f k l0 = some r) :
  Calls Try.prog 20 #[.slice A0 l0.length c0] w fun e w' => e = .returned (.bool r) ∧ Below w.heap.size w w' := by
 have hu38 := Try.underlying38
 have HR0 := Aside0.mk hr0
 have HC0 := Aside0.mk hc0
 clear hr0 hc0
 have HB := Aside0.mk (Below.refl w.heap.size w)
 have H : (if (l0.length : Int) > 400 then (some false) else (spec_RowsOk.l0 k l0 0)) = some r := h
 clear h
 by_cases c2 : (l0.length : Int) > 400
 ·rw [if_pos c2] at H
  have c2b0 : decide (400 < (l0.length : Int)) = true := decide_eq_true c2
  have c2b1 : decide (400 < l0.length) = true := decide_eq_true (by omega)
  clear c2
  obtain rfl := Option.some.inj H
  go_enter Try.func20, Try.ntmps20
  go_wp2
  go_ret
  exact ⟨Q12, Q64⟩
 ·rw [if_neg c2] at H
  have c2b0 : decide (400 < (l0.length : Int)) = false := decide_eq_false c2
  have c2b1 : decide (400 < l0.length) = false := decide_eq_false (by omega)
  clear c2
  have H' := Aside0.mk H
  clear H
  go_enter Try.func20, Try.ntmps20
  go_wp2
  go_loopg [3] k (fun kq v3 w' => ∃ (x3_1 : Int), v3 = .int .i64 x3_1 ∧ Aside0 (spec_RowsOk.l0 kq l0 x3_1 = some r) ∧ Aside0 (kq ≤ k) ∧ Aside0 (Below w.heap.size w w'))
  case atStart => exact ⟨(0), Q4, H', ⟨Nat.le_refl _⟩, ⟨Q64⟩⟩
  case round =>
   clear H'
   try clear c2
   try clear c2b0
   try clear c2b1
   try clear p2
   obtain ⟨x3_1, rfl, HA, HK1, HB⟩ := hrel
   cases gk with
   | zero => exact absurd HA.out (by simp [spec_RowsOk.l0])
   | succ k1 =>
    have H := HA.out
    clear HA
    simp only [spec_RowsOk.l0] at H
    by_cases c3 : x3_1 < (l0.length : Int)
    ·rw [if_pos c3] at H
     have c3b0 : decide (x3_1 < (l0.length : Int)) = true := decide_eq_true c3
     clear c3
     by_cases c4 : 0 ≤ x3_1
     ·rw [if_pos c4] at H
      have c4b0 : decide (0 ≤ x3_1) = true := decide_eq_true c4
      clear c4
      replace H := Option.bind_eq_some_iff.mp H
      obtain ⟨t176, A50, H⟩ := H
      replace H : (if t176 = true then (spec_RowsOk.l0 k1 l0 (wrap64 (x3_1 + 1))) else (some false)) = some r := H
      have A5 := Aside0.mk A50
      clear A50
      by_cases c6 : t176 = true
      ·subst c6
       have H1 : (spec_RowsOk.l0 k1 l0 (wrap64 (x3_1 + 1))) = some r := by rw [if_pos rfl] at H; exact H
       clear H
       have H := H1
       clear H1
       have H' := Aside0.mk H
       clear H
       have p175 : 0 ≤ (x3_1 : Int) := of_decide_eq_true Q5
       have q175 : x3_1 < (l0.length : Int) := of_decide_eq_true Q5
       obtain ⟨ad175, e175, hx175_0, hx175_1, hx175_2, hx175_3, hx175_4⟩ := at_T38 HR0.out x3_1 p175 q175
       cases e175
       replace hx175_0 := (HB.out.cell (World.block_lt_of_cell? w _ hx175_0)).trans hx175_0
       replace hx175_1 := (HB.out.cell (World.block_lt_of_cell? w _ hx175_1)).trans hx175_1
       replace hx175_2 := (HB.out.cell (World.block_lt_of_cell? w _ hx175_2)).trans hx175_2
       replace hx175_3 := (HB.out.cell (World.block_lt_of_cell? w _ hx175_3)).trans hx175_3
       replace hx175_4 := (HB.out.cell (World.block_lt_of_cell? w _ hx175_4)).trans hx175_4
       replace p175 := eq_true p175
       replace q175 := eq_true q175
       go_wp2_with (first | ((with_reducible refine gate_callee (f := 59) rfl ?_); refine goesL_ (some 17) rfl rfl Try.func59 Q1 rfl #[.agg #[.int .i64 ((rd_T38 l0 x3_1).f0), .int .i64 ((rd_T38 l0 x3_1).f1), .int .i64 ((rd_T38 l0 x3_1).f2.f0), .int .i64 ((rd_T38 l0 x3_1).f2.f1), .int .i64 ((rd_T38 l0 x3_1).f3)]] rfl Q65 ?_; (with_reducible refine (spec_l2Row.calls ((rd_T38 l0 x3_1).f0) ((rd_T38 l0 x3_1).f1) ((rd_T38 l0 x3_1).f2.f0) ((rd_T38 l0 x3_1).f2.f1) ((rd_T38 l0 x3_1).f3) true _ A5.out).mono ?_); rintro e w7 ⟨rfl, hb⟩; refine ⟨_, rfl, ?_⟩; have n0_ := Aside0.mk (below_step Q64 hb); clear HB; have HB := n0_; clear n0_; (try clear hb); (try clear hb2); (try clear hk); (try clear hi)))
       go_roundg k1
       case measure => have := HK1.out; omega
       case rel => exact ⟨(wrap64 (x3_1 + 1)), Q4, H', ⟨Q2⟩, ⟨Q64⟩⟩
      ·replace c6 := Bool.eq_false_iff.mpr c6
       subst c6
       have H1 : (some false) = some r := by rw [if_neg (show ¬ (false = true) by decide)] at H; exact H
       clear H
       have H := H1
       clear H1
       obtain rfl := Option.some.inj H
       have p175 : 0 ≤ (x3_1 : Int) := of_decide_eq_true Q5
       have q175 : x3_1 < (l0.length : Int) := of_decide_eq_true Q5
       obtain ⟨ad175, e175, hx175_0, hx175_1, hx175_2, hx175_3, hx175_4⟩ := at_T38 HR0.out x3_1 p175 q175
       cases e175
       replace hx175_0 := (HB.out.cell (World.block_lt_of_cell? w _ hx175_0)).trans hx175_0
       replace hx175_1 := (HB.out.cell (World.block_lt_of_cell? w _ hx175_1)).trans hx175_1
       replace hx175_2 := (HB.out.cell (World.block_lt_of_cell? w _ hx175_2)).trans hx175_2
       replace hx175_3 := (HB.out.cell (World.block_lt_of_cell? w _ hx175_3)).trans hx175_3
       replace hx175_4 := (HB.out.cell (World.block_lt_of_cell? w _ hx175_4)).trans hx175_4
       replace p175 := eq_true p175
       replace q175 := eq_true q175
       go_wp2_with (first | ((with_reducible refine gate_callee (f := 59) rfl ?_); refine goesL_ (some 17) rfl rfl Try.func59 Q1 rfl #[.agg #[.int .i64 ((rd_T38 l0 x3_1).f0), .int .i64 ((rd_T38 l0 x3_1).f1), .int .i64 ((rd_T38 l0 x3_1).f2.f0), .int .i64 ((rd_T38 l0 x3_1).f2.f1), .int .i64 ((rd_T38 l0 x3_1).f3)]] rfl Q65 ?_; (with_reducible refine (spec_l2Row.calls ((rd_T38 l0 x3_1).f0) ((rd_T38 l0 x3_1).f1) ((rd_T38 l0 x3_1).f2.f0) ((rd_T38 l0 x3_1).f2.f1) ((rd_T38 l0 x3_1).f3) false _ A5.out).mono ?_); rintro e w8 ⟨rfl, hb⟩; refine ⟨_, rfl, ?_⟩; have n0_ := Aside0.mk (below_step Q64 hb); clear HB; have HB := n0_; clear n0_; (try clear hb); (try clear hb2); (try clear hk); (try clear hi)))
       go_ret
       exact ⟨Q12, Q64⟩
     ·rw [if_neg c4] at H
      exact absurd H (by simp)
    ·rw [if_neg c3] at H
     have c3b0 : decide (x3_1 < (l0.length : Int)) = false := decide_eq_false c3
     clear c3
     obtain rfl := Option.some.inj H
     go_wp2
     go_ret
     exact ⟨Q12, Q64⟩
def spec_FrontOk.l0 : Nat → List (S36) → Int → Option (Bool)
 | 0, _, _ => none
 | k + 1, x0, x3 => if x3 < (x0.length : Int) then (if 0 ≤ x3 then ((spec_TimeOk.f ((rd_T36 x0 x3).f0) ((rd_T36 x0 x3).f1)).bind fun t178 => (if t178 = true then (if x3 > 0 then (if 0 ≤ (wrap64 (x3 - 1)) then (if (wrap64 (x3 - 1)) < (x0.length : Int) then (if ((rd_T36 x0 (wrap64 (x3 - 1))).f0) ≥ ((rd_T36 x0 x3).f0) then (some false) else (if ((rd_T36 x0 (wrap64 (x3 - 1))).f1) ≤ ((rd_T36 x0 x3).f1) then (some false) else (spec_FrontOk.l0 k x0 (wrap64 (x3 + 1))))) else (none)) else (none)) else (spec_FrontOk.l0 k x0 (wrap64 (x3 + 1)))) else (some false))) else (none)) else (some true)
def spec_FrontOk.f (k : Nat) (l0 : List (S36)) : Option (Bool) := spec_FrontOk.l0 k l0 0
theorem spec_FrontOk.mono_l : ∀ k, (∀ y0 y1, LeO (spec_FrontOk.l0 k y0 y1) (spec_FrontOk.l0 (k + 1) y0 y1))
 | 0 => fun _ _ r h => by simp [spec_FrontOk.l0] at h
 | k + 1 => by
  have ih0 := spec_FrontOk.mono_l k
  ·intro y0 y1
   unfold spec_FrontOk.l0
   repeat' first
   | (with_reducible exact ih0 _ _)
   | (with_reducible exact LeO.refl _)
   | (with_reducible exact LeO.none _)
   | (with_reducible refine LeO.ite ?_ ?_)
   | (with_reducible refine LeO.bind ?_ (fun _ => ?_))
   | exact ih0 _ _
   | exact LeO.none _
   | refine LeO.ite ?_ ?_
   | refine LeO.bind ?_ (fun _ => ?_)
theorem spec_FrontOk.mono : ∀ a0 k, LeO (spec_FrontOk.f k a0) (spec_FrontOk.f (k + 1) a0) := by
 intro a0 k
 have ih0 := spec_FrontOk.mono_l k
 unfold spec_FrontOk.f
 repeat' first
   | (with_reducible exact ih0 _ _)
   | (with_reducible exact LeO.refl _)
   | (with_reducible exact LeO.none _)
   | (with_reducible refine LeO.ite ?_ ?_)
   | (with_reducible refine LeO.bind ?_ (fun _ => ?_))
   | exact ih0 _ _
   | exact LeO.none _
   | refine LeO.ite ?_ ?_
   | refine LeO.bind ?_ (fun _ => ?_)
def spec_FrontOk.T4 : Bool × List (List Nat × List Nat) := (true, [([], []), ([], []), ([0, 1], [0, 1]), ([2], [2]), ([3], [3]), ([4], [4]), ([5, 4], [5]), ([6], [6]), ([7, 6], [6, 7]), ([8, 6, 6], [6, 8]), ([9], [9]), ([9], [9]), ([11, 9], [9, 11]), ([10, 12, 9], [9, 10, 12]), ([13, 9], [9, 13]), ([14, 9], [9, 14]), ([9], [9]), ([9], [9]), ([16, 17, 9], [9, 16, 17]), ([18, 9], [9, 18]), ([19, 9], [9, 19]), ([15, 20, 9], [9, 15, 20]), ([21, 9, 9], [9, 21]), ([22], [22]), ([22], [22]), ([24, 22], [22, 24]), ([23, 25, 22], [22, 23, 25]), ([26, 22], [22, 26]), ([27, 22], [22, 27]), ([22], [22]), ([22], [22]), ([29, 30, 22], [22, 29, 30]), ([31, 22], [22, 31]), ([32, 22], [22, 32]), ([28, 33, 22], [22, 28, 33]), ([22, 34, 9], [9, 22, 34]), ([9, 35, 6], [6, 9, 35]), ([6, 36], [6, 36])])
def spec_FrontOk.B4 : List Nat := [0, 0, 3, 7, 15, 31, 63, 127, 255, 511, 1023, 1023, 3071, 8191, 16383, 32767, 1023, 1023, 197631, 459775, 984063, 2097151, 4194303, 8388607, 8388607, 25165823, 67108863, 134217727, 268435455, 8388607, 8388607, 1619001343, 3766484991, 8061452287, 17179869183, 34359738367, 68719476735, 137438953471]
theorem spec_FrontOk.tab4 : rtab .any (opsOf Try.f21 4) = spec_FrontOk.T4 := by kernel_rfl
theorem spec_FrontOk.bits4 : waitsOk spec_FrontOk.T4.2 spec_FrontOk.B4 = true := by kernel_rfl
set_option maxHeartbeats 8000000 in
set_option maxRecDepth 100000 in
theorem spec_FrontOk.calls (k : Nat) (A0 : Option Addr) (c0 : Nat) (l0 : List (S36)) (r : Bool) (w : World) (hr0 : Kd.C k36 w A0 l0.length l0) (hc0 : l0.length ≤ c0) (h : spec_FrontOk.f k l0 = some r) :
  Calls Try.prog 21 #[.slice A0 l0.length c0] w fun e w' => e = .returned (.bool r) ∧ Below w.heap.size w w' := by
 have hu36 := Try.underlying36
 have HR0 := Aside0.mk hr0
 have HC0 := Aside0.mk hc0
 clear hr0 hc0
 have HB := Aside0.mk (Below.refl w.heap.size w)
 have H : (spec_FrontOk.l0 k l0 0) = some r := h
 clear h
 have H' := Aside0.mk H
 clear H
 go_enter Try.func21, Try.ntmps21
 go_wp2
 go_loopg [3] k (fun kq v3 w' => ∃ (x3_1 : Int), v3 = .int .i64 x3_1 ∧ Aside0 (spec_FrontOk.l0 kq l0 x3_1 = some r) ∧ Aside0 (kq ≤ k) ∧ Aside0 (Below w.heap.size w w'))
 case atStart => exact ⟨(0), Q4, H', ⟨Nat.le_refl _⟩, ⟨Q64⟩⟩
 case round =>
  clear H'
  obtain ⟨x3_1, rfl, HA, HK1, HB⟩ := hrel
  cases gk with
  | zero => exact absurd HA.out (by simp [spec_FrontOk.l0])
  | succ k1 =>
   have H := HA.out
   clear HA
   simp only [spec_FrontOk.l0] at H
   by_cases c2 : x3_1 < (l0.length : Int)
   ·rw [if_pos c2] at H
    have c2b0 : decide (x3_1 < (l0.length : Int)) = true := decide_eq_true c2
    clear c2
    by_cases c3 : 0 ≤ x3_1
    ·rw [if_pos c3] at H
     have c3b0 : decide (0 ≤ x3_1) = true := decide_eq_true c3
     clear c3
     replace H := Option.bind_eq_some_iff.mp H
     obtain ⟨t178, A40, H⟩ := H
     replace H : (if t178 = true then (if x3_1 > 0 then (if 0 ≤ (wrap64 (x3_1 - 1)) then (if (wrap64 (x3_1 - 1)) < (l0.length : Int) then (if ((rd_T36 l0 (wrap64 (x3_1 - 1))).f0) ≥ ((rd_T36 l0 x3_1).f0) then (some false) else (if ((rd_T36 l0 (wrap64 (x3_1 - 1))).f1) ≤ ((rd_T36 l0 x3_1).f1) then (some false) else (spec_FrontOk.l0 k1 l0 (wrap64 (x3_1 + 1))))) else (none)) else (none)) else (spec_FrontOk.l0 k1 l0 (wrap64 (x3_1 + 1)))) else (some false)) = some r := H
     have A4 := Aside0.mk A40
     clear A40
     by_cases c5 : t178 = true
     ·subst c5
      have H1 : (if x3_1 > 0 then (if 0 ≤ (wrap64 (x3_1 - 1)) then (if (wrap64 (x3_1 - 1)) < (l0.length : Int) then (if ((rd_T36 l0 (wrap64 (x3_1 - 1))).f0) ≥ ((rd_T36 l0 x3_1).f0) then (some false) else (if ((rd_T36 l0 (wrap64 (x3_1 - 1))).f1) ≤ ((rd_T36 l0 x3_1).f1) then (some false) else (spec_FrontOk.l0 k1 l0 (wrap64 (x3_1 + 1))))) else (none)) else (none)) else (spec_FrontOk.l0 k1 l0 (wrap64 (x3_1 + 1)))) = some r := by rw [if_pos rfl] at H; exact H
      clear H
      have H := H1
      clear H1
      by_cases c6 : x3_1 > 0
      ·rw [if_pos c6] at H
       have c6b0 : decide (0 < x3_1) = true := decide_eq_true c6
       clear c6
       obtain ⟨ji7, hji7⟩ : ∃ j_ : Int, (wrap64 (x3_1 - 1)) = j_ := ⟨_, rfl⟩
       replace H : (if 0 ≤ (ji7) then (if (ji7) < (l0.length : Int) then (if ((rd_T36 l0 (ji7)).f0) ≥ ((rd_T36 l0 x3_1).f0) then (some false) else (if ((rd_T36 l0 (ji7)).f1) ≤ ((rd_T36 l0 x3_1).f1) then (some false) else (spec_FrontOk.l0 k1 l0 (wrap64 (x3_1 + 1))))) else (none)) else (none)) = some r := by first | (rw [hji7] at H; exact H) | (simp only [hji7] at H ⊢; exact H)
       (try rw [hji7] at A4)
       have hji7w : (IntKind.i64.wrap (x3_1 - 1)) = ji7 := (i64_w _).trans hji7
       by_cases c8 : 0 ≤ (ji7)
       ·rw [if_pos c8] at H
        have c8b0 : decide (0 ≤ (ji7)) = true := decide_eq_true c8
        clear c8
        by_cases c9 : (ji7) < (l0.length : Int)
        ·rw [if_pos c9] at H
         have c9b0 : decide ((ji7) < (l0.length : Int)) = true := decide_eq_true c9
         clear c9
         by_cases c10 : ((rd_T36 l0 (ji7)).f0) ≥ ((rd_T36 l0 x3_1).f0)
         ·rw [if_pos c10] at H
          have c10b0 : decide (((rd_T36 l0 x3_1).f0) ≤ ((rd_T36 l0 (ji7)).f0)) = true := decide_eq_true c10
          clear c10
          obtain rfl := Option.some.inj H
          try go_wp2
          have n0_ := Aside0.mk (below_drew1 HB.out)
          clear HB
          have HB := n0_
          clear n0_
          have p177 : 0 ≤ (x3_1 : Int) := of_decide_eq_true Q5
          have q177 : x3_1 < (l0.length : Int) := of_decide_eq_true Q5
          obtain ⟨ad177, e177, hx177_0, hx177_1⟩ := at_T36 HR0.out x3_1 p177 q177
          have hw177_1 := hx177_1
          have hw177_0 := hx177_0
          cases e177
          replace hx177_0 := (HB.out.cell (World.block_lt_of_cell? w _ hx177_0)).trans hx177_0
          replace hx177_1 := (HB.out.cell (World.block_lt_of_cell? w _ hx177_1)).trans hx177_1
          replace p177 := eq_true p177
          replace q177 := eq_true q177
          have p179 : 0 ≤ ((ji7) : Int) := of_decide_eq_true Q5
          have q179 : (ji7) < (l0.length : Int) := of_decide_eq_true Q5
          obtain ⟨ad179, e179, hx179_0, hx179_1⟩ := at_T36 HR0.out (ji7) p179 q179
          have hw179_1 := hx179_1
          have hw179_0 := hx179_0
          obtain rfl : ad177 = ad179 := (by injection e179)
          replace hx179_0 := (HB.out.cell (World.block_lt_of_cell? w _ hx179_0)).trans hx179_0
          replace hx179_1 := (HB.out.cell (World.block_lt_of_cell? w _ hx179_1)).trans hx179_1
          replace p179 := eq_true p179
          replace q179 := eq_true q179
          have p180 : 0 ≤ (x3_1 : Int) := of_decide_eq_true Q5
          have q180 : x3_1 < (l0.length : Int) := of_decide_eq_true Q5
          obtain ⟨ad180, e180, hx180_0, hx180_1⟩ := at_T36 HR0.out x3_1 p180 q180
          have hw180_1 := hx180_1
          have hw180_0 := hx180_0
          obtain rfl : ad177 = ad180 := (by injection e180)
          replace hx180_0 := (HB.out.cell (World.block_lt_of_cell? w _ hx180_0)).trans hx180_0
          replace hx180_1 := (HB.out.cell (World.block_lt_of_cell? w _ hx180_1)).trans hx180_1
          replace p180 := eq_true p180
          replace q180 := eq_true q180
          refine start_ (n := 38) (S := fun w' => w'.cell? (ad177.add ((x3_1).toNat * 2)) = some (.int .i64 ((rd_T36 l0 x3_1).f0)) ∧ w'.cell? ⟨(ad177.add ((x3_1).toNat * 2)).block, (ad177.add ((x3_1).toNat * 2)).off + 1, none⟩ = some (.int .i64 ((rd_T36 l0 x3_1).f1)) ∧ w'.cell? (ad177.add (((ji7)).toNat * 2)) = some (.int .i64 ((rd_T36 l0 (ji7)).f0)) ∧ w'.cell? ⟨(ad177.add (((ji7)).toNat * 2)).block, (ad177.add (((ji7)).toNat * 2)).off + 1, none⟩ = some (.int .i64 ((rd_T36 l0 (ji7)).f1)) ∧ w'.cell? (ad177.add ((x3_1).toNat * 2)) = some (.int .i64 ((rd_T36 l0 x3_1).f0)) ∧ w'.cell? ⟨(ad177.add ((x3_1).toNat * 2)).block, (ad177.add ((x3_1).toNat * 2)).off + 1, none⟩ = some (.int .i64 ((rd_T36 l0 x3_1).f1))) (ds := []) b38_0 Q1 rfl rfl ⟨((HB.out.cell (World.block_lt_of_cell? w _ hw177_0)).trans hw177_0), ((HB.out.cell (World.block_lt_of_cell? w _ hw177_1)).trans hw177_1), ((HB.out.cell (World.block_lt_of_cell? w _ hw179_0)).trans hw179_0), ((HB.out.cell (World.block_lt_of_cell? w _ hw179_1)).trans hw179_1), ((HB.out.cell (World.block_lt_of_cell? w _ hw180_0)).trans hw180_0), ((HB.out.cell (World.block_lt_of_cell? w _ hw180_1)).trans hw180_1)⟩ (fun hHeld => ?_); refine with_tabW spec_FrontOk.tab4 spec_FrontOk.bits4 (fun HT_ HW_ => ?_)
          generalize wr.drew = w11 at HB hx177_0 hx177_1 hx179_0 hx179_1 hx180_0 hx180_1 hHeld ⊢
          refine pU_ 0 10 b38_1 ?_
          refine pU_ 1 11 b38_2 ?_
          refine pU_ 2 12 b38_3 ?_
          refine tU_ 3 13 b38_4 hHeld ?_
          refine one_ (i := 4) (N := some 14) b38_5 rfl rfl (one_of HT_.out Q1) Q0 (fun K hK => ?_)
          refine goes_ Try.func60 Q1 rfl #[.agg #[.int .i64 ((rd_T36 l0 x3_1).f0), .int .i64 ((rd_T36 l0 x3_1).f1)]] (by rfl) rfl rfl Q65 ?_
          with_reducible refine (spec_TimeOk.calls ((rd_T36 l0 x3_1).f0) ((rd_T36 l0 x3_1).f1) true _ A4.out).mono ?_
          rintro e w12 ⟨rfl, hb⟩
          refine ⟨_, rfl, ?_⟩
          have n0_ := Aside0.mk (below_step Q64 hb)
          clear HB
          have HB := n0_
          clear n0_
          (try clear hb)
          (try clear hb2)
          (try clear hk)
          (try clear hi)
          refine hK.out _ _ ⟨((HB.out.cell (World.block_lt_of_cell? w _ hw177_0)).trans hw177_0), ((HB.out.cell (World.block_lt_of_cell? w _ hw177_1)).trans hw177_1), ((HB.out.cell (World.block_lt_of_cell? w _ hw179_0)).trans hw179_0), ((HB.out.cell (World.block_lt_of_cell? w _ hw179_1)).trans hw179_1), ((HB.out.cell (World.block_lt_of_cell? w _ hw180_0)).trans hw180_0), ((HB.out.cell (World.block_lt_of_cell? w _ hw180_1)).trans hw180_1)⟩ (fun hHeld => ?_)
          clear hK K
          refine norm_ (a' := ?_) ?_ ?_
          rotate_left
          ·show Act.put _ (some 14) _ = _
           simp only [Act.put, List.setIfInBounds_toArray, List.set_cons_zero, List.set_cons_succ, i64_w, i32_w]
           rfl
          refine pU_ 5 15 b38_6 ?_
          refine pU_ 6 16 b38_7 ?_
          refine pU_ 7 17 b38_8 ?_
          refine pU_ 8 18 b38_9 ?_
          refine pU_ 9 19 b38_10 ?_
          refine pU_ 10 20 b38_11 ?_
          refine pU_ 11 21 b38_12 ?_
          refine pU_ 12 22 b38_13 ?_
          refine pU_ 13 23 b38_14 ?_
          refine pU_ 14 24 b38_15 ?_
          refine pU_ 16 26 c82 ?_
          refine pU_ 17 27 c83 ?_
          refine pU_ 18 28 c84 ?_
          refine pU_ 19 29 c85 ?_
          refine tU_ 15 25 b38_20 hHeld ?_
          refine tU_ 20 30 b38_21 hHeld ?_
          refine pU_ 21 31 b38_22 ?_
          refine pU_ 22 32 b38_23 ?_
          refine pV_ 23 33 b38_24 ?_
          refine pV_ 24 34 b38_25 ?_
          refine pV_ 25 35 b38_26 ?_
          refine pV_ 26 36 b38_27 ?_
          refine pV_ 27 37 b38_28 ?_
          refine pV_ 28 38 b38_29 ?_
          refine pV_ 29 39 b38_30 ?_
          refine pV_ 30 40 b38_31 ?_
          refine pV_ 31 41 b38_32 ?_
          refine pV_ 32 42 b38_33 ?_
          refine pV_ 33 43 b38_34 ?_
          refine pV_ 34 44 b38_35 ?_
          refine pU_ 35 45 b38_36 ?_
          refine pU_ 36 46 b38_37 ?_
          refine pU_ 37 47 b38_38 ?_
          refine done_ (done_of HT_.out Q1) ?_
          try go_wp2
          go_ret
          exact ⟨by first | rfl | (simp [errW_none, errW_some] <;> rfl) | (simp only [← hji7]; first | rfl | (simp [errW_none, errW_some] <;> rfl)) | (simp [*, errW_none, errW_some] <;> rfl), Q64⟩
         ·rw [if_neg c10] at H
          have c10b0 : decide (((rd_T36 l0 x3_1).f0) ≤ ((rd_T36 l0 (ji7)).f0)) = false := decide_eq_false c10
          clear c10
          by_cases c13 : ((rd_T36 l0 (ji7)).f1) ≤ ((rd_T36 l0 x3_1).f1)
          ·rw [if_pos c13] at H
           have c13b0 : decide (((rd_T36 l0 (ji7)).f1) ≤ ((rd_T36 l0 x3_1).f1)) = true := decide_eq_true c13
           clear c13
           obtain rfl := Option.some.inj H
           try go_wp2
           have n0_ := Aside0.mk (below_drew1 HB.out)
           clear HB
           have HB := n0_
           clear n0_
           have p177 : 0 ≤ (x3_1 : Int) := of_decide_eq_true Q5
           have q177 : x3_1 < (l0.length : Int) := of_decide_eq_true Q5
           obtain ⟨ad177, e177, hx177_0, hx177_1⟩ := at_T36 HR0.out x3_1 p177 q177
           have hw177_1 := hx177_1
           have hw177_0 := hx177_0
           cases e177
           replace hx177_0 := (HB.out.cell (World.block_lt_of_cell? w _ hx177_0)).trans hx177_0
           replace hx177_1 := (HB.out.cell (World.block_lt_of_cell? w _ hx177_1)).trans hx177_1
           replace p177 := eq_true p177
           replace q177 := eq_true q177
           have p179 : 0 ≤ ((ji7) : Int) := of_decide_eq_true Q5
           have q179 : (ji7) < (l0.length : Int) := of_decide_eq_true Q5
           obtain ⟨ad179, e179, hx179_0, hx179_1⟩ := at_T36 HR0.out (ji7) p179 q179
           have hw179_1 := hx179_1
           have hw179_0 := hx179_0
           obtain rfl : ad177 = ad179 := (by injection e179)
           replace hx179_0 := (HB.out.cell (World.block_lt_of_cell? w _ hx179_0)).trans hx179_0
           replace hx179_1 := (HB.out.cell (World.block_lt_of_cell? w _ hx179_1)).trans hx179_1
           replace p179 := eq_true p179
           replace q179 := eq_true q179
           have p180 : 0 ≤ (x3_1 : Int) := of_decide_eq_true Q5
           have q180 : x3_1 < (l0.length : Int) := of_decide_eq_true Q5
           obtain ⟨ad180, e180, hx180_0, hx180_1⟩ := at_T36 HR0.out x3_1 p180 q180
           have hw180_1 := hx180_1
           have hw180_0 := hx180_0
           obtain rfl : ad177 = ad180 := (by injection e180)
           replace hx180_0 := (HB.out.cell (World.block_lt_of_cell? w _ hx180_0)).trans hx180_0
           replace hx180_1 := (HB.out.cell (World.block_lt_of_cell? w _ hx180_1)).trans hx180_1
           replace p180 := eq_true p180
           replace q180 := eq_true q180
           have p181 : 0 ≤ ((ji7) : Int) := of_decide_eq_true Q5
           have q181 : (ji7) < (l0.length : Int) := of_decide_eq_true Q5
           obtain ⟨ad181, e181, hx181_0, hx181_1⟩ := at_T36 HR0.out (ji7) p181 q181
           have hw181_1 := hx181_1
           have hw181_0 := hx181_0
           obtain rfl : ad177 = ad181 := (by injection e181)
           replace hx181_0 := (HB.out.cell (World.block_lt_of_cell? w _ hx181_0)).trans hx181_0
           replace hx181_1 := (HB.out.cell (World.block_lt_of_cell? w _ hx181_1)).trans hx181_1
           replace p181 := eq_true p181
           replace q181 := eq_true q181
           have p182 : 0 ≤ (x3_1 : Int) := of_decide_eq_true Q5
           have q182 : x3_1 < (l0.length : Int) := of_decide_eq_true Q5
           obtain ⟨ad182, e182, hx182_0, hx182_1⟩ := at_T36 HR0.out x3_1 p182 q182
           have hw182_1 := hx182_1
           have hw182_0 := hx182_0
           obtain rfl : ad177 = ad182 := (by injection e182)
           replace hx182_0 := (HB.out.cell (World.block_lt_of_cell? w _ hx182_0)).trans hx182_0
           replace hx182_1 := (HB.out.cell (World.block_lt_of_cell? w _ hx182_1)).trans hx182_1
           replace p182 := eq_true p182
           replace q182 := eq_true q182
           refine start_ (n := 38) (S := fun w' => w'.cell? (ad177.add ((x3_1).toNat * 2)) = some (.int .i64 ((rd_T36 l0 x3_1).f0)) ∧ w'.cell? ⟨(ad177.add ((x3_1).toNat * 2)).block, (ad177.add ((x3_1).toNat * 2)).off + 1, none⟩ = some (.int .i64 ((rd_T36 l0 x3_1).f1)) ∧ w'.cell? (ad177.add (((ji7)).toNat * 2)) = some (.int .i64 ((rd_T36 l0 (ji7)).f0)) ∧ w'.cell? ⟨(ad177.add (((ji7)).toNat * 2)).block, (ad177.add (((ji7)).toNat * 2)).off + 1, none⟩ = some (.int .i64 ((rd_T36 l0 (ji7)).f1)) ∧ w'.cell? (ad177.add ((x3_1).toNat * 2)) = some (.int .i64 ((rd_T36 l0 x3_1).f0)) ∧ w'.cell? ⟨(ad177.add ((x3_1).toNat * 2)).block, (ad177.add ((x3_1).toNat * 2)).off + 1, none⟩ = some (.int .i64 ((rd_T36 l0 x3_1).f1)) ∧ w'.cell? (ad177.add (((ji7)).toNat * 2)) = some (.int .i64 ((rd_T36 l0 (ji7)).f0)) ∧ w'.cell? ⟨(ad177.add (((ji7)).toNat * 2)).block, (ad177.add (((ji7)).toNat * 2)).off + 1, none⟩ = some (.int .i64 ((rd_T36 l0 (ji7)).f1)) ∧ w'.cell? (ad177.add ((x3_1).toNat * 2)) = some (.int .i64 ((rd_T36 l0 x3_1).f0)) ∧ w'.cell? ⟨(ad177.add ((x3_1).toNat * 2)).block, (ad177.add ((x3_1).toNat * 2)).off + 1, none⟩ = some (.int .i64 ((rd_T36 l0 x3_1).f1))) (ds := []) b38_0 Q1 rfl rfl ⟨((HB.out.cell (World.block_lt_of_cell? w _ hw177_0)).trans hw177_0), ((HB.out.cell (World.block_lt_of_cell? w _ hw177_1)).trans hw177_1), ((HB.out.cell (World.block_lt_of_cell? w _ hw179_0)).trans hw179_0), ((HB.out.cell (World.block_lt_of_cell? w _ hw179_1)).trans hw179_1), ((HB.out.cell (World.block_lt_of_cell? w _ hw180_0)).trans hw180_0), ((HB.out.cell (World.block_lt_of_cell? w _ hw180_1)).trans hw180_1), ((HB.out.cell (World.block_lt_of_cell? w _ hw181_0)).trans hw181_0), ((HB.out.cell (World.block_lt_of_cell? w _ hw181_1)).trans hw181_1), ((HB.out.cell (World.block_lt_of_cell? w _ hw182_0)).trans hw182_0), ((HB.out.cell (World.block_lt_of_cell? w _ hw182_1)).trans hw182_1)⟩ (fun hHeld => ?_); refine with_tabW spec_FrontOk.tab4 spec_FrontOk.bits4 (fun HT_ HW_ => ?_)
           generalize wr.drew = w14 at HB hx177_0 hx177_1 hx179_0 hx179_1 hx180_0 hx180_1 hx181_0 hx181_1 hx182_0 hx182_1 hHeld ⊢
           refine pU_ 0 10 b38_1 ?_
           refine pU_ 1 11 b38_2 ?_
           refine pU_ 2 12 b38_3 ?_
           refine tU_ 3 13 b38_4 hHeld ?_
           refine one_ (i := 4) (N := some 14) b38_5 rfl rfl (one_of HT_.out Q1) Q0 (fun K hK => ?_)
           refine goes_ Try.func60 Q1 rfl #[.agg #[.int .i64 ((rd_T36 l0 x3_1).f0), .int .i64 ((rd_T36 l0 x3_1).f1)]] (by rfl) rfl rfl Q65 ?_
           with_reducible refine (spec_TimeOk.calls ((rd_T36 l0 x3_1).f0) ((rd_T36 l0 x3_1).f1) true _ A4.out).mono ?_
           rintro e w15 ⟨rfl, hb⟩
           refine ⟨_, rfl, ?_⟩
           have n0_ := Aside0.mk (below_step Q64 hb)
           clear HB
           have HB := n0_
           clear n0_
           (try clear hb)
           (try clear hb2)
           (try clear hk)
           (try clear hi)
           refine hK.out _ _ ⟨((HB.out.cell (World.block_lt_of_cell? w _ hw177_0)).trans hw177_0), ((HB.out.cell (World.block_lt_of_cell? w _ hw177_1)).trans hw177_1), ((HB.out.cell (World.block_lt_of_cell? w _ hw179_0)).trans hw179_0), ((HB.out.cell (World.block_lt_of_cell? w _ hw179_1)).trans hw179_1), ((HB.out.cell (World.block_lt_of_cell? w _ hw180_0)).trans hw180_0), ((HB.out.cell (World.block_lt_of_cell? w _ hw180_1)).trans hw180_1), ((HB.out.cell (World.block_lt_of_cell? w _ hw181_0)).trans hw181_0), ((HB.out.cell (World.block_lt_of_cell? w _ hw181_1)).trans hw181_1), ((HB.out.cell (World.block_lt_of_cell? w _ hw182_0)).trans hw182_0), ((HB.out.cell (World.block_lt_of_cell? w _ hw182_1)).trans hw182_1)⟩ (fun hHeld => ?_)
           clear hK K
           refine norm_ (a' := ?_) ?_ ?_
           rotate_left
           ·show Act.put _ (some 14) _ = _
            simp only [Act.put, List.setIfInBounds_toArray, List.set_cons_zero, List.set_cons_succ, i64_w, i32_w]
            rfl
           refine pU_ 5 15 b38_6 ?_
           refine pU_ 6 16 b38_7 ?_
           refine pU_ 7 17 b38_8 ?_
           refine pU_ 8 18 b38_9 ?_
           refine pU_ 9 19 b38_10 ?_
           refine pU_ 10 20 b38_11 ?_
           refine pU_ 11 21 b38_12 ?_
           refine pU_ 12 22 b38_13 ?_
           refine pU_ 13 23 b38_14 ?_
           refine pU_ 14 24 b38_15 ?_
           refine pU_ 16 26 c82 ?_
           refine pU_ 17 27 c83 ?_
           refine pU_ 18 28 c84 ?_
           refine pU_ 19 29 c85 ?_
           refine tU_ 15 25 b38_20 hHeld ?_
           refine tU_ 20 30 b38_21 hHeld ?_
           refine pU_ 21 31 b38_22 ?_
           refine pU_ 22 32 b38_23 ?_
           refine pU_ 23 33 b38_24 ?_
           refine pU_ 24 34 b38_25 ?_
           refine pU_ 25 35 b38_26 ?_
           refine pU_ 26 36 b38_27 ?_
           refine pU_ 27 37 b38_28 ?_
           refine pU_ 29 39 c105 ?_
           refine pU_ 30 40 c106 ?_
           refine pU_ 31 41 c107 ?_
           refine pU_ 32 42 c108 ?_
           refine tU_ 28 38 b38_33 hHeld ?_
           refine tU_ 33 43 b38_34 hHeld ?_
           refine pU_ 34 44 b38_35 ?_
           refine pU_ 35 45 b38_36 ?_
           refine pU_ 36 46 b38_37 ?_
           refine pU_ 37 47 b38_38 ?_
           refine done_ (done_of HT_.out Q1) ?_
           try go_wp2
           go_ret
           exact ⟨by first | rfl | (simp [errW_none, errW_some] <;> rfl) | (simp only [← hji7]; first | rfl | (simp [errW_none, errW_some] <;> rfl)) | (simp [*, errW_none, errW_some] <;> rfl), Q64⟩
          ·rw [if_neg c13] at H
           have c13b0 : decide (((rd_T36 l0 (ji7)).f1) ≤ ((rd_T36 l0 x3_1).f1)) = false := decide_eq_false c13
           clear c13
           have H' := Aside0.mk H
           clear H
           try go_wp2
           have n0_ := Aside0.mk (below_drew1 HB.out)
           clear HB
           have HB := n0_
           clear n0_
           have p177 : 0 ≤ (x3_1 : Int) := of_decide_eq_true Q5
           have q177 : x3_1 < (l0.length : Int) := of_decide_eq_true Q5
           obtain ⟨ad177, e177, hx177_0, hx177_1⟩ := at_T36 HR0.out x3_1 p177 q177
           have hw177_1 := hx177_1
           have hw177_0 := hx177_0
           cases e177
           replace hx177_0 := (HB.out.cell (World.block_lt_of_cell? w _ hx177_0)).trans hx177_0
           replace hx177_1 := (HB.out.cell (World.block_lt_of_cell? w _ hx177_1)).trans hx177_1
           replace p177 := eq_true p177
           replace q177 := eq_true q177
           have p179 : 0 ≤ ((ji7) : Int) := of_decide_eq_true Q5
           have q179 : (ji7) < (l0.length : Int) := of_decide_eq_true Q5
           obtain ⟨ad179, e179, hx179_0, hx179_1⟩ := at_T36 HR0.out (ji7) p179 q179
           have hw179_1 := hx179_1
           have hw179_0 := hx179_0
           obtain rfl : ad177 = ad179 := (by injection e179)
           replace hx179_0 := (HB.out.cell (World.block_lt_of_cell? w _ hx179_0)).trans hx179_0
           replace hx179_1 := (HB.out.cell (World.block_lt_of_cell? w _ hx179_1)).trans hx179_1
           replace p179 := eq_true p179
           replace q179 := eq_true q179
           have p180 : 0 ≤ (x3_1 : Int) := of_decide_eq_true Q5
           have q180 : x3_1 < (l0.length : Int) := of_decide_eq_true Q5
           obtain ⟨ad180, e180, hx180_0, hx180_1⟩ := at_T36 HR0.out x3_1 p180 q180
           have hw180_1 := hx180_1
           have hw180_0 := hx180_0
           obtain rfl : ad177 = ad180 := (by injection e180)
           replace hx180_0 := (HB.out.cell (World.block_lt_of_cell? w _ hx180_0)).trans hx180_0
           replace hx180_1 := (HB.out.cell (World.block_lt_of_cell? w _ hx180_1)).trans hx180_1
           replace p180 := eq_true p180
           replace q180 := eq_true q180
           have p181 : 0 ≤ ((ji7) : Int) := of_decide_eq_true Q5
           have q181 : (ji7) < (l0.length : Int) := of_decide_eq_true Q5
           obtain ⟨ad181, e181, hx181_0, hx181_1⟩ := at_T36 HR0.out (ji7) p181 q181
           have hw181_1 := hx181_1
           have hw181_0 := hx181_0
           obtain rfl : ad177 = ad181 := (by injection e181)
           replace hx181_0 := (HB.out.cell (World.block_lt_of_cell? w _ hx181_0)).trans hx181_0
           replace hx181_1 := (HB.out.cell (World.block_lt_of_cell? w _ hx181_1)).trans hx181_1
           replace p181 := eq_true p181
           replace q181 := eq_true q181
           have p182 : 0 ≤ (x3_1 : Int) := of_decide_eq_true Q5
           have q182 : x3_1 < (l0.length : Int) := of_decide_eq_true Q5
           obtain ⟨ad182, e182, hx182_0, hx182_1⟩ := at_T36 HR0.out x3_1 p182 q182
           have hw182_1 := hx182_1
           have hw182_0 := hx182_0
           obtain rfl : ad177 = ad182 := (by injection e182)
           replace hx182_0 := (HB.out.cell (World.block_lt_of_cell? w _ hx182_0)).trans hx182_0
           replace hx182_1 := (HB.out.cell (World.block_lt_of_cell? w _ hx182_1)).trans hx182_1
           replace p182 := eq_true p182
           replace q182 := eq_true q182
           refine start_ (n := 38) (S := fun w' => w'.cell? (ad177.add ((x3_1).toNat * 2)) = some (.int .i64 ((rd_T36 l0 x3_1).f0)) ∧ w'.cell? ⟨(ad177.add ((x3_1).toNat * 2)).block, (ad177.add ((x3_1).toNat * 2)).off + 1, none⟩ = some (.int .i64 ((rd_T36 l0 x3_1).f1)) ∧ w'.cell? (ad177.add (((ji7)).toNat * 2)) = some (.int .i64 ((rd_T36 l0 (ji7)).f0)) ∧ w'.cell? ⟨(ad177.add (((ji7)).toNat * 2)).block, (ad177.add (((ji7)).toNat * 2)).off + 1, none⟩ = some (.int .i64 ((rd_T36 l0 (ji7)).f1)) ∧ w'.cell? (ad177.add ((x3_1).toNat * 2)) = some (.int .i64 ((rd_T36 l0 x3_1).f0)) ∧ w'.cell? ⟨(ad177.add ((x3_1).toNat * 2)).block, (ad177.add ((x3_1).toNat * 2)).off + 1, none⟩ = some (.int .i64 ((rd_T36 l0 x3_1).f1)) ∧ w'.cell? (ad177.add (((ji7)).toNat * 2)) = some (.int .i64 ((rd_T36 l0 (ji7)).f0)) ∧ w'.cell? ⟨(ad177.add (((ji7)).toNat * 2)).block, (ad177.add (((ji7)).toNat * 2)).off + 1, none⟩ = some (.int .i64 ((rd_T36 l0 (ji7)).f1)) ∧ w'.cell? (ad177.add ((x3_1).toNat * 2)) = some (.int .i64 ((rd_T36 l0 x3_1).f0)) ∧ w'.cell? ⟨(ad177.add ((x3_1).toNat * 2)).block, (ad177.add ((x3_1).toNat * 2)).off + 1, none⟩ = some (.int .i64 ((rd_T36 l0 x3_1).f1))) (ds := []) b38_0 Q1 rfl rfl ⟨((HB.out.cell (World.block_lt_of_cell? w _ hw177_0)).trans hw177_0), ((HB.out.cell (World.block_lt_of_cell? w _ hw177_1)).trans hw177_1), ((HB.out.cell (World.block_lt_of_cell? w _ hw179_0)).trans hw179_0), ((HB.out.cell (World.block_lt_of_cell? w _ hw179_1)).trans hw179_1), ((HB.out.cell (World.block_lt_of_cell? w _ hw180_0)).trans hw180_0), ((HB.out.cell (World.block_lt_of_cell? w _ hw180_1)).trans hw180_1), ((HB.out.cell (World.block_lt_of_cell? w _ hw181_0)).trans hw181_0), ((HB.out.cell (World.block_lt_of_cell? w _ hw181_1)).trans hw181_1), ((HB.out.cell (World.block_lt_of_cell? w _ hw182_0)).trans hw182_0), ((HB.out.cell (World.block_lt_of_cell? w _ hw182_1)).trans hw182_1)⟩ (fun hHeld => ?_); refine with_tabW spec_FrontOk.tab4 spec_FrontOk.bits4 (fun HT_ HW_ => ?_)
           generalize wr.drew = w16 at HB hx177_0 hx177_1 hx179_0 hx179_1 hx180_0 hx180_1 hx181_0 hx181_1 hx182_0 hx182_1 hHeld ⊢
           refine pU_ 0 10 b38_1 ?_
           refine pU_ 1 11 b38_2 ?_
           refine pU_ 2 12 b38_3 ?_
           refine tU_ 3 13 b38_4 hHeld ?_
           refine one_ (i := 4) (N := some 14) b38_5 rfl rfl (one_of HT_.out Q1) Q0 (fun K hK => ?_)
           refine goes_ Try.func60 Q1 rfl #[.agg #[.int .i64 ((rd_T36 l0 x3_1).f0), .int .i64 ((rd_T36 l0 x3_1).f1)]] (by rfl) rfl rfl Q65 ?_
           with_reducible refine (spec_TimeOk.calls ((rd_T36 l0 x3_1).f0) ((rd_T36 l0 x3_1).f1) true _ A4.out).mono ?_
           rintro e w17 ⟨rfl, hb⟩
           refine ⟨_, rfl, ?_⟩
           have n0_ := Aside0.mk (below_step Q64 hb)
           clear HB
           have HB := n0_
           clear n0_
           (try clear hb)
           (try clear hb2)
           (try clear hk)
           (try clear hi)
           refine hK.out _ _ ⟨((HB.out.cell (World.block_lt_of_cell? w _ hw177_0)).trans hw177_0), ((HB.out.cell (World.block_lt_of_cell? w _ hw177_1)).trans hw177_1), ((HB.out.cell (World.block_lt_of_cell? w _ hw179_0)).trans hw179_0), ((HB.out.cell (World.block_lt_of_cell? w _ hw179_1)).trans hw179_1), ((HB.out.cell (World.block_lt_of_cell? w _ hw180_0)).trans hw180_0), ((HB.out.cell (World.block_lt_of_cell? w _ hw180_1)).trans hw180_1), ((HB.out.cell (World.block_lt_of_cell? w _ hw181_0)).trans hw181_0), ((HB.out.cell (World.block_lt_of_cell? w _ hw181_1)).trans hw181_1), ((HB.out.cell (World.block_lt_of_cell? w _ hw182_0)).trans hw182_0), ((HB.out.cell (World.block_lt_of_cell? w _ hw182_1)).trans hw182_1)⟩ (fun hHeld => ?_)
           clear hK K
           refine norm_ (a' := ?_) ?_ ?_
           rotate_left
           ·show Act.put _ (some 14) _ = _
            simp only [Act.put, List.setIfInBounds_toArray, List.set_cons_zero, List.set_cons_succ, i64_w, i32_w]
            rfl
           refine pU_ 5 15 b38_6 ?_
           refine pU_ 6 16 b38_7 ?_
           refine pU_ 7 17 b38_8 ?_
           refine pU_ 8 18 b38_9 ?_
           refine pU_ 9 19 b38_10 ?_
           refine pU_ 10 20 b38_11 ?_
           refine pU_ 11 21 b38_12 ?_
           refine pU_ 12 22 b38_13 ?_
           refine pU_ 13 23 b38_14 ?_
           refine pU_ 14 24 b38_15 ?_
           refine pU_ 16 26 c82 ?_
           refine pU_ 17 27 c83 ?_
           refine pU_ 18 28 c84 ?_
           refine pU_ 19 29 c85 ?_
           refine tU_ 15 25 b38_20 hHeld ?_
           refine tU_ 20 30 b38_21 hHeld ?_
           refine pU_ 21 31 b38_22 ?_
           refine pU_ 22 32 b38_23 ?_
           refine pU_ 23 33 b38_24 ?_
           refine pU_ 24 34 b38_25 ?_
           refine pU_ 25 35 b38_26 ?_
           refine pU_ 26 36 b38_27 ?_
           refine pU_ 27 37 b38_28 ?_
           refine pU_ 29 39 c105 ?_
           refine pU_ 30 40 c106 ?_
           refine pU_ 31 41 c107 ?_
           refine pU_ 32 42 c108 ?_
           refine tU_ 28 38 b38_33 hHeld ?_
           refine tU_ 33 43 b38_34 hHeld ?_
           refine pU_ 34 44 b38_35 ?_
           refine pU_ 35 45 b38_36 ?_
           refine pU_ 36 46 b38_37 ?_
           refine pU_ 37 47 b38_38 ?_
           refine done_ (done_of HT_.out Q1) ?_
           try go_wp2
           go_roundg k1
           case measure => have := HK1.out; omega
           case rel => exact ⟨(wrap64 (x3_1 + 1)), Q4, H', ⟨Q2⟩, ⟨Q64⟩⟩
        ·rw [if_neg c9] at H
         exact absurd H (by simp)
       ·rw [if_neg c8] at H
        exact absurd H (by simp)
      ·rw [if_neg c6] at H
       have c6b0 : decide (0 < x3_1) = false := decide_eq_false c6
       clear c6
       have H' := Aside0.mk H
       clear H
       try go_wp2
       have n0_ := Aside0.mk (below_drew1 HB.out)
       clear HB
       have HB := n0_
       clear n0_
       have p177 : 0 ≤ (x3_1 : Int) := of_decide_eq_true Q5
       have q177 : x3_1 < (l0.length : Int) := of_decide_eq_true Q5
       obtain ⟨ad177, e177, hx177_0, hx177_1⟩ := at_T36 HR0.out x3_1 p177 q177
       have hw177_1 := hx177_1
       have hw177_0 := hx177_0
       cases e177
       replace hx177_0 := (HB.out.cell (World.block_lt_of_cell? w _ hx177_0)).trans hx177_0
       replace hx177_1 := (HB.out.cell (World.block_lt_of_cell? w _ hx177_1)).trans hx177_1
       replace p177 := eq_true p177
       replace q177 := eq_true q177
       refine start_ (n := 38) (S := fun w' => w'.cell? (ad177.add ((x3_1).toNat * 2)) = some (.int .i64 ((rd_T36 l0 x3_1).f0)) ∧ w'.cell? ⟨(ad177.add ((x3_1).toNat * 2)).block, (ad177.add ((x3_1).toNat * 2)).off + 1, none⟩ = some (.int .i64 ((rd_T36 l0 x3_1).f1))) (ds := []) b38_0 Q1 rfl rfl ⟨((HB.out.cell (World.block_lt_of_cell? w _ hw177_0)).trans hw177_0), ((HB.out.cell (World.block_lt_of_cell? w _ hw177_1)).trans hw177_1)⟩ (fun hHeld => ?_); refine with_tabW spec_FrontOk.tab4 spec_FrontOk.bits4 (fun HT_ HW_ => ?_)
       generalize wr.drew = w18 at HB hx177_0 hx177_1 hHeld ⊢
       refine pU_ 0 10 b38_1 ?_
       refine pU_ 1 11 b38_2 ?_
       refine pU_ 2 12 b38_3 ?_
       refine tU_ 3 13 b38_4 hHeld ?_
       refine one_ (i := 4) (N := some 14) b38_5 rfl rfl (one_of HT_.out Q1) Q0 (fun K hK => ?_)
       refine goes_ Try.func60 Q1 rfl #[.agg #[.int .i64 ((rd_T36 l0 x3_1).f0), .int .i64 ((rd_T36 l0 x3_1).f1)]] (by rfl) rfl rfl Q65 ?_
       with_reducible refine (spec_TimeOk.calls ((rd_T36 l0 x3_1).f0) ((rd_T36 l0 x3_1).f1) true _ A4.out).mono ?_
       rintro e w19 ⟨rfl, hb⟩
       refine ⟨_, rfl, ?_⟩
       have n0_ := Aside0.mk (below_step Q64 hb)
       clear HB
       have HB := n0_
       clear n0_
       (try clear hb)
       (try clear hb2)
       (try clear hk)
       (try clear hi)
       refine hK.out _ _ ⟨((HB.out.cell (World.block_lt_of_cell? w _ hw177_0)).trans hw177_0), ((HB.out.cell (World.block_lt_of_cell? w _ hw177_1)).trans hw177_1)⟩ (fun hHeld => ?_)
       clear hK K
       refine norm_ (a' := ?_) ?_ ?_
       rotate_left
       ·show Act.put _ (some 14) _ = _
        simp only [Act.put, List.setIfInBounds_toArray, List.set_cons_zero, List.set_cons_succ, i64_w, i32_w]
        rfl
       refine pU_ 5 15 b38_6 ?_
       refine pU_ 6 16 b38_7 ?_
       refine pU_ 7 17 b38_8 ?_
       refine pU_ 8 18 b38_9 ?_
       refine pU_ 9 19 b38_10 ?_
       refine pV_ 10 20 b38_11 ?_
       refine pV_ 11 21 b38_12 ?_
       refine pV_ 12 22 b38_13 ?_
       refine pV_ 13 23 b38_14 ?_
       refine pV_ 14 24 b38_15 ?_
       refine pV_ 15 25 b38_16 ?_
       refine pV_ 16 26 b38_17 ?_
       refine pV_ 17 27 b38_18 ?_
       refine pV_ 18 28 b38_19 ?_
       refine pV_ 19 29 b38_20 ?_
       refine pV_ 20 30 b38_21 ?_
       refine pV_ 21 31 b38_22 ?_
       refine pV_ 22 32 b38_23 ?_
       refine pV_ 23 33 b38_24 ?_
       refine pV_ 24 34 b38_25 ?_
       refine pV_ 25 35 b38_26 ?_
       refine pV_ 26 36 b38_27 ?_
       refine pV_ 27 37 b38_28 ?_
       refine pV_ 28 38 b38_29 ?_
       refine pV_ 29 39 b38_30 ?_
       refine pV_ 30 40 b38_31 ?_
       refine pV_ 31 41 b38_32 ?_
       refine pV_ 32 42 b38_33 ?_
       refine pV_ 33 43 b38_34 ?_
       refine pV_ 34 44 b38_35 ?_
       refine pV_ 35 45 b38_36 ?_
       refine pU_ 36 46 b38_37 ?_
       refine pU_ 37 47 b38_38 ?_
       refine done_ (done_of HT_.out Q1) ?_
       try go_wp2
       go_roundg k1
       case measure => have := HK1.out; omega
       case rel => exact ⟨(wrap64 (x3_1 + 1)), Q4, H', ⟨Q2⟩, ⟨Q64⟩⟩
     ·replace c5 := Bool.eq_false_iff.mpr c5
      subst c5
      have H1 : (some false) = some r := by rw [if_neg (show ¬ (false = true) by decide)] at H; exact H
      clear H
      have H := H1
      clear H1
      obtain rfl := Option.some.inj H
      try go_wp2
      have n0_ := Aside0.mk (below_drew1 HB.out)
      clear HB
      have HB := n0_
      clear n0_
      have p177 : 0 ≤ (x3_1 : Int) := of_decide_eq_true Q5
      have q177 : x3_1 < (l0.length : Int) := of_decide_eq_true Q5
      obtain ⟨ad177, e177, hx177_0, hx177_1⟩ := at_T36 HR0.out x3_1 p177 q177
      have hw177_1 := hx177_1
      have hw177_0 := hx177_0
      cases e177
      replace hx177_0 := (HB.out.cell (World.block_lt_of_cell? w _ hx177_0)).trans hx177_0
      replace hx177_1 := (HB.out.cell (World.block_lt_of_cell? w _ hx177_1)).trans hx177_1
      replace p177 := eq_true p177
      replace q177 := eq_true q177
      refine start_ (n := 38) (S := fun w' => w'.cell? (ad177.add ((x3_1).toNat * 2)) = some (.int .i64 ((rd_T36 l0 x3_1).f0)) ∧ w'.cell? ⟨(ad177.add ((x3_1).toNat * 2)).block, (ad177.add ((x3_1).toNat * 2)).off + 1, none⟩ = some (.int .i64 ((rd_T36 l0 x3_1).f1))) (ds := []) b38_0 Q1 rfl rfl ⟨((HB.out.cell (World.block_lt_of_cell? w _ hw177_0)).trans hw177_0), ((HB.out.cell (World.block_lt_of_cell? w _ hw177_1)).trans hw177_1)⟩ (fun hHeld => ?_); refine with_tabW spec_FrontOk.tab4 spec_FrontOk.bits4 (fun HT_ HW_ => ?_)
      generalize wr.drew = w20 at HB hx177_0 hx177_1 hHeld ⊢
      refine pU_ 0 10 b38_1 ?_
      refine pU_ 1 11 b38_2 ?_
      refine pU_ 2 12 b38_3 ?_
      refine tU_ 3 13 b38_4 hHeld ?_
      refine one_ (i := 4) (N := some 14) b38_5 rfl rfl (one_of HT_.out Q1) Q0 (fun K hK => ?_)
      refine goes_ Try.func60 Q1 rfl #[.agg #[.int .i64 ((rd_T36 l0 x3_1).f0), .int .i64 ((rd_T36 l0 x3_1).f1)]] (by rfl) rfl rfl Q65 ?_
      with_reducible refine (spec_TimeOk.calls ((rd_T36 l0 x3_1).f0) ((rd_T36 l0 x3_1).f1) false _ A4.out).mono ?_
      rintro e w21 ⟨rfl, hb⟩
      refine ⟨_, rfl, ?_⟩
      have n0_ := Aside0.mk (below_step Q64 hb)
      clear HB
      have HB := n0_
      clear n0_
      (try clear hb)
      (try clear hb2)
      (try clear hk)
      (try clear hi)
      refine hK.out _ _ ⟨((HB.out.cell (World.block_lt_of_cell? w _ hw177_0)).trans hw177_0), ((HB.out.cell (World.block_lt_of_cell? w _ hw177_1)).trans hw177_1)⟩ (fun hHeld => ?_)
      clear hK K
      refine norm_ (a' := ?_) ?_ ?_
      rotate_left
      ·show Act.put _ (some 14) _ = _
       simp only [Act.put, List.setIfInBounds_toArray, List.set_cons_zero, List.set_cons_succ, i64_w, i32_w]
       rfl
      refine pU_ 5 15 b38_6 ?_
      refine pU_ 6 16 b38_7 ?_
      refine pV_ 7 17 b38_8 ?_
      refine pV_ 8 18 b38_9 ?_
      refine pV_ 9 19 b38_10 ?_
      refine pV_ 10 20 b38_11 ?_
      refine pV_ 11 21 b38_12 ?_
      refine pV_ 12 22 b38_13 ?_
      refine pV_ 13 23 b38_14 ?_
      refine pV_ 14 24 b38_15 ?_
      refine pV_ 15 25 b38_16 ?_
      refine pV_ 16 26 b38_17 ?_
      refine pV_ 17 27 b38_18 ?_
      refine pV_ 18 28 b38_19 ?_
      refine pV_ 19 29 b38_20 ?_
      refine pV_ 20 30 b38_21 ?_
      refine pV_ 21 31 b38_22 ?_
      refine pV_ 22 32 b38_23 ?_
      refine pV_ 23 33 b38_24 ?_
      refine pV_ 24 34 b38_25 ?_
      refine pV_ 25 35 b38_26 ?_
      refine pV_ 26 36 b38_27 ?_
      refine pV_ 27 37 b38_28 ?_
      refine pV_ 28 38 b38_29 ?_
      refine pV_ 29 39 b38_30 ?_
      refine pV_ 30 40 b38_31 ?_
      refine pV_ 31 41 b38_32 ?_
      refine pV_ 32 42 b38_33 ?_
      refine pV_ 33 43 b38_34 ?_
      refine pV_ 34 44 b38_35 ?_
      refine pV_ 35 45 b38_36 ?_
      refine pV_ 36 46 b38_37 ?_
      refine pU_ 37 47 b38_38 ?_
      refine done_ (done_of HT_.out Q1) ?_
      try go_wp2
      go_ret
      exact ⟨Q12, Q64⟩
    ·rw [if_neg c3] at H
     exact absurd H (by simp)
   ·rw [if_neg c2] at H
    have c2b0 : decide (x3_1 < (l0.length : Int)) = false := decide_eq_false c2
    clear c2
    obtain rfl := Option.some.inj H
    go_wp2
    go_ret
    exact ⟨Q12, Q64⟩
def spec_TimeJoin.f (a0_0 : Int) (a0_1 : Int) (a1_0 : Int) (a1_1 : Int) : Option (Int × Int) := (spec_TimeOk.f a0_0 a0_1).bind fun t186 => (if t186 = true then ((spec_TimeOk.f a1_0 a1_1).bind fun t187 => (if t187 = true then (some (mx a0_0 a1_0, mx a0_1 a1_1)) else (some (0, 0)))) else (some (0, 0)))
set_option maxHeartbeats 8000000 in
set_option maxRecDepth 100000 in
theorem spec_TimeJoin.calls (a0_0 : Int) (a0_1 : Int) (a1_0 : Int) (a1_1 : Int) (r1 : Int) (r2 : Int) (w : World) (h : spec_TimeJoin.f a0_0 a0_1 a1_0 a1_1 = some (r1, r2)) :
  Calls Try.prog 86 #[.agg #[.int .i64 a0_0, .int .i64 a0_1], .agg #[.int .i64 a1_0, .int .i64 a1_1]] w fun e w' => e = .returned (.agg #[.int .i64 r1, .int .i64 r2]) ∧ Below w.heap.size w w' := by
 have hu36 := Try.underlying36
 have HB := Aside0.mk (Below.refl w.heap.size w)
 have H : ((spec_TimeOk.f a0_0 a0_1).bind fun t186 => (if t186 = true then ((spec_TimeOk.f a1_0 a1_1).bind fun t187 => (if t187 = true then (some (mx a0_0 a1_0, mx a0_1 a1_1)) else (some (0, 0)))) else (some (0, 0)))) = some (r1, r2) := h
 clear h
 replace H := Option.bind_eq_some_iff.mp H
 obtain ⟨t186, A30, H⟩ := H
 replace H : (if t186 = true then ((spec_TimeOk.f a1_0 a1_1).bind fun t187 => (if t187 = true then (some (mx a0_0 a1_0, mx a0_1 a1_1)) else (some (0, 0)))) else (some (0, 0))) = some (r1, r2) := H
 have A3 := Aside0.mk A30
 clear A30
 by_cases c4 : t186 = true
 ·subst c4
  have H1 : ((spec_TimeOk.f a1_0 a1_1).bind fun t187 => (if t187 = true then (some (mx a0_0 a1_0, mx a0_1 a1_1)) else (some (0, 0)))) = some (r1, r2) := by rw [if_pos rfl] at H; exact H
  clear H
  have H := H1
  clear H1
  replace H := Option.bind_eq_some_iff.mp H
  obtain ⟨t187, A50, H⟩ := H
  replace H : (if t187 = true then (some (mx a0_0 a1_0, mx a0_1 a1_1)) else (some (0, 0))) = some (r1, r2) := H
  have A5 := Aside0.mk A50
  clear A50
  by_cases c6 : t187 = true
  ·subst c6
   have H1 : (some (mx a0_0 a1_0, mx a0_1 a1_1)) = some (r1, r2) := by rw [if_pos rfl] at H; exact H
   clear H
   have H := H1
   clear H1
   obtain ⟨ji7, hji7⟩ : ∃ j_ : Int, (mx a0_0 a1_0) = j_ := ⟨_, rfl⟩
   replace H : (some (ji7, mx a0_1 a1_1)) = some (r1, r2) := by first | (rw [hji7] at H; exact H) | (simp only [hji7] at H ⊢; exact H)
   (try rw [hji7] at A3)
   (try rw [hji7] at A5)
   have hji7_ : (if a0_0 < a1_0 then a1_0 else a0_0) = ji7 := hji7
   obtain ⟨ji8, hji8⟩ : ∃ j_ : Int, (mx a0_1 a1_1) = j_ := ⟨_, rfl⟩
   replace H : (some (ji7, ji8)) = some (r1, r2) := by first | (rw [hji8] at H; exact H) | (simp only [hji8] at H ⊢; exact H)
   (try rw [hji8] at A3)
   (try rw [hji8] at A5)
   have hji8_ : (if a0_1 < a1_1 then a1_1 else a0_1) = ji8 := hji8
   simp only [Option.some.injEq, Prod.mk.injEq] at H
   obtain ⟨rfl, rfl⟩ := H
   go_enter Try.func86, Try.ntmps86
   go_wp2_with (first | ((with_reducible refine gate_dst (N := 2) rfl ?_); refine box_event ?hg (N := 2) ?hd (cs := #[.int .i64 a0_0, .int .i64 a0_1]) (t := 36) ?hr ?_; (case hd => rfl); (case hg => rfl); (case hr => first | (go_simp; done) | (go_simp; rfl)); intro gb183 hg w9 hbox hb; have n0_ := Aside0.mk (below_step Q64 hb); have n1_ := Aside0.mk (hbox); have n2_ := Aside0.mk ((Q105 : w.heap.size ≤ gb183)); have n3_ := n2_; clear HB; have HB := n0_; have BK183 := n1_; have GW183 := n2_; have GE183 := n3_; clear n0_ n1_ n2_ n3_; clear hb hbox hg) | ((with_reducible refine gate_dst (N := 3) rfl ?_); refine box_event ?hg (N := 3) ?hd (cs := #[.int .i64 a1_0, .int .i64 a1_1]) (t := 36) ?hr ?_; (case hd => rfl); (case hg => rfl); (case hr => first | (go_simp; done) | (go_simp; rfl)); intro gb184 hg w10 hbox hb; have n0_ := Aside0.mk (blk_below (g := gb183) (o := .cells #[.int .i64 a0_0, .int .i64 a0_1] 36 (0, 0)) Q43 hb); have n1_ := Aside0.mk (below_step Q76 hb); have n2_ := Aside0.mk (hbox); have n3_ := Aside0.mk ((by rw [hg]; exact (below_size Q76) : w.heap.size ≤ gb184)); have n4_ := n3_; have n5_ := Aside0.mk ((Q120 : gb183 ≠ gb184)); have n6_ := Aside0.mk ((Q121 : gb184 ≠ gb183)); clear BK183; clear HB; have BK183 := n0_; have HB := n1_; have BK184 := n2_; have GW184 := n3_; have GE184 := n4_; have NB183_184 := n5_; have NB184_183 := n6_; clear n0_ n1_ n2_ n3_ n4_ n5_ n6_; clear hb hbox hg) | ((with_reducible refine gate_dst (N := 4) rfl ?_); refine box_event ?hg (N := 4) ?hd (cs := #[.int .i64 0, .int .i64 0]) (t := 36) ?hr ?_; (case hd => rfl); (case hg => rfl); (case hr => first | (go_simp; done) | (go_simp; rfl)); intro gb185 hg w11 hbox hb; have n0_ := Aside0.mk (blk_below (g := gb183) (o := .cells #[.int .i64 a0_0, .int .i64 a0_1] 36 (0, 0)) Q43 hb); have n1_ := Aside0.mk (blk_below (g := gb184) (o := .cells #[.int .i64 a1_0, .int .i64 a1_1] 36 (0, 0)) Q44 hb); have n2_ := Aside0.mk (below_step Q89 hb); have n3_ := Aside0.mk (hbox); have n4_ := Aside0.mk ((by rw [hg]; exact (below_size Q89) : w.heap.size ≤ gb185)); have n5_ := n4_; have n6_ := Aside0.mk ((Q120 : gb183 ≠ gb185)); have n7_ := Aside0.mk ((Q121 : gb185 ≠ gb183)); have n8_ := Aside0.mk ((Q122 : gb184 ≠ gb185)); have n9_ := Aside0.mk ((Q123 : gb185 ≠ gb184)); clear BK183; clear BK184; clear HB; have BK183 := n0_; have BK184 := n1_; have HB := n2_; have BK185 := n3_; have GW185 := n4_; have GE185 := n5_; have NB183_185 := n6_; have NB185_183 := n7_; have NB184_185 := n8_; have NB185_184 := n9_; clear n0_ n1_ n2_ n3_ n4_ n5_ n6_ n7_ n8_ n9_; clear hb hbox hg; have hnb12 := NB183_184.out; have hnc12 := NB184_183.out; have hnb13 := NB183_185.out; have hnc13 := NB185_183.out; have hcz14_0 : w11.cell? ⟨gb183, 0, none⟩ = some (.int .i64 a0_0) := (blk_cell BK183.out 0).trans rfl; have hcz14_1 : w11.cell? ⟨gb183, 1, none⟩ = some (.int .i64 a0_1) := (blk_cell BK183.out 1).trans rfl; have hfz14_0 := blk_frozen BK183.out 0; have hfz14_1 := blk_frozen BK183.out 1) | ((with_reducible refine gate_callee (f := 60) rfl ?_); refine goesL_ (some 6) rfl rfl Try.func60 Q1 rfl #[.agg #[.int .i64 a0_0, .int .i64 a0_1]] rfl Q65 ?_; (with_reducible refine (spec_TimeOk.calls a0_0 a0_1 true _ A3.out).mono ?_); rintro e w15 ⟨rfl, hb⟩; refine ⟨_, rfl, ?_⟩; have n0_ := Aside0.mk (blk_below (g := gb183) (o := .cells #[.int .i64 a0_0, .int .i64 a0_1] 36 (0, 0)) Q43 hb); have n1_ := Aside0.mk (blk_below (g := gb184) (o := .cells #[.int .i64 a1_0, .int .i64 a1_1] 36 (0, 0)) Q44 hb); have n2_ := Aside0.mk (blk_below (g := gb185) (o := .cells #[.int .i64 0, .int .i64 0] 36 (0, 0)) Q45 hb); have n3_ := Aside0.mk (below_step Q98 hb); clear BK183; clear BK184; clear BK185; clear HB; have BK183 := n0_; have BK184 := n1_; have BK185 := n2_; have HB := n3_; clear n0_ n1_ n2_ n3_; (try clear hb); (try clear hb2); (try clear hk); (try clear hi); have hnb16 := NB184_185.out; have hnc16 := NB185_184.out; have hcz17_0 : w15.cell? ⟨gb184, 0, none⟩ = some (.int .i64 a1_0) := (blk_cell BK184.out 0).trans rfl; have hcz17_1 : w15.cell? ⟨gb184, 1, none⟩ = some (.int .i64 a1_1) := (blk_cell BK184.out 1).trans rfl; have hfz17_0 := blk_frozen BK184.out 0; have hfz17_1 := blk_frozen BK184.out 1) | (go_at_call 60; (with_reducible refine (spec_TimeOk.calls a1_0 a1_1 true _ A5.out).mono ?_); rintro e w18 ⟨rfl, hb⟩; have n0_ := Aside0.mk (blk_below (g := gb183) (o := .cells #[.int .i64 a0_0, .int .i64 a0_1] 36 (0, 0)) Q43 hb); have n1_ := Aside0.mk (blk_below (g := gb184) (o := .cells #[.int .i64 a1_0, .int .i64 a1_1] 36 (0, 0)) Q44 hb); have n2_ := Aside0.mk (blk_below (g := gb185) (o := .cells #[.int .i64 0, .int .i64 0] 36 (0, 0)) Q45 hb); have n3_ := Aside0.mk (below_step Q98 hb); clear BK183; clear BK184; clear BK185; clear HB; have BK183 := n0_; have BK184 := n1_; have BK185 := n2_; have HB := n3_; clear n0_ n1_ n2_ n3_; (try clear hb); (try clear hb2); (try clear hk); (try clear hi); have hcz19_0 : w18.cell? ⟨gb183, 0, none⟩ = some (.int .i64 a0_0) := (blk_cell BK183.out 0).trans rfl; have hcz19_1 : w18.cell? ⟨gb183, 1, none⟩ = some (.int .i64 a0_1) := (blk_cell BK183.out 1).trans rfl; have hfz19_0 := blk_frozen BK183.out 0; have hfz19_1 := blk_frozen BK183.out 1; have hcz20_0 : w18.cell? ⟨gb184, 0, none⟩ = some (.int .i64 a1_0) := (blk_cell BK184.out 0).trans rfl; have hcz20_1 : w18.cell? ⟨gb184, 1, none⟩ = some (.int .i64 a1_1) := (blk_cell BK184.out 1).trans rfl; have hfz20_0 := blk_frozen BK184.out 0; have hfz20_1 := blk_frozen BK184.out 1; have hcz21_0 : w18.cell? ⟨gb185, 0, none⟩ = some (.int .i64 0) := (blk_cell BK185.out 0).trans rfl; have hcz21_1 : w18.cell? ⟨gb185, 1, none⟩ = some (.int .i64 0) := (blk_cell BK185.out 1).trans rfl; have hfz21_0 := blk_frozen BK185.out 0; have hfz21_1 := blk_frozen BK185.out 1))
   refine bodyPost_ret (results_cell_row rfl _ _ gb185 36 #[.int .i64 ji7, .int .i64 ji8] (0, 0) _ rfl (by (with_reducible repeat (first | refine blk_drewN ?_ _ | refine blk_drew ?_ | refine blk_alloc ?_ _)); refine blk_put (cs := #[.int .i64 ji7, .int .i64 0]) ?_ 1 _ rfl; (with_reducible repeat (first | refine blk_drewN ?_ _ | refine blk_drew ?_ | refine blk_alloc ?_ _)); refine blk_put (cs := #[.int .i64 0, .int .i64 0]) ?_ 0 _ rfl; (with_reducible repeat (first | refine blk_drewN ?_ _ | refine blk_drew ?_ | refine blk_alloc ?_ _)); exact BK185.out) Try.underlying36 rfl Q1) rfl ?_
   exact ⟨Q83, Q98⟩
  ·replace c6 := Bool.eq_false_iff.mpr c6
   subst c6
   have H1 : (some (0, 0)) = some (r1, r2) := by rw [if_neg (show ¬ (false = true) by decide)] at H; exact H
   clear H
   have H := H1
   clear H1
   simp only [Option.some.injEq, Prod.mk.injEq] at H
   obtain ⟨rfl, rfl⟩ := H
   go_enter Try.func86, Try.ntmps86
   go_wp2_with (first | ((with_reducible refine gate_dst (N := 2) rfl ?_); refine box_event ?hg (N := 2) ?hd (cs := #[.int .i64 a0_0, .int .i64 a0_1]) (t := 36) ?hr ?_; (case hd => rfl); (case hg => rfl); (case hr => first | (go_simp; done) | (go_simp; rfl)); intro gb183 hg w22 hbox hb; have n0_ := Aside0.mk (below_step Q64 hb); have n1_ := Aside0.mk (hbox); have n2_ := Aside0.mk ((Q105 : w.heap.size ≤ gb183)); have n3_ := n2_; clear HB; have HB := n0_; have BK183 := n1_; have GW183 := n2_; have GE183 := n3_; clear n0_ n1_ n2_ n3_; clear hb hbox hg) | ((with_reducible refine gate_dst (N := 3) rfl ?_); refine box_event ?hg (N := 3) ?hd (cs := #[.int .i64 a1_0, .int .i64 a1_1]) (t := 36) ?hr ?_; (case hd => rfl); (case hg => rfl); (case hr => first | (go_simp; done) | (go_simp; rfl)); intro gb184 hg w23 hbox hb; have n0_ := Aside0.mk (blk_below (g := gb183) (o := .cells #[.int .i64 a0_0, .int .i64 a0_1] 36 (0, 0)) Q43 hb); have n1_ := Aside0.mk (below_step Q76 hb); have n2_ := Aside0.mk (hbox); have n3_ := Aside0.mk ((by rw [hg]; exact (below_size Q76) : w.heap.size ≤ gb184)); have n4_ := n3_; have n5_ := Aside0.mk ((Q120 : gb183 ≠ gb184)); have n6_ := Aside0.mk ((Q121 : gb184 ≠ gb183)); clear BK183; clear HB; have BK183 := n0_; have HB := n1_; have BK184 := n2_; have GW184 := n3_; have GE184 := n4_; have NB183_184 := n5_; have NB184_183 := n6_; clear n0_ n1_ n2_ n3_ n4_ n5_ n6_; clear hb hbox hg) | ((with_reducible refine gate_dst (N := 4) rfl ?_); refine box_event ?hg (N := 4) ?hd (cs := #[.int .i64 0, .int .i64 0]) (t := 36) ?hr ?_; (case hd => rfl); (case hg => rfl); (case hr => first | (go_simp; done) | (go_simp; rfl)); intro gb185 hg w24 hbox hb; have n0_ := Aside0.mk (blk_below (g := gb183) (o := .cells #[.int .i64 a0_0, .int .i64 a0_1] 36 (0, 0)) Q43 hb); have n1_ := Aside0.mk (blk_below (g := gb184) (o := .cells #[.int .i64 a1_0, .int .i64 a1_1] 36 (0, 0)) Q44 hb); have n2_ := Aside0.mk (below_step Q89 hb); have n3_ := Aside0.mk (hbox); have n4_ := Aside0.mk ((by rw [hg]; exact (below_size Q89) : w.heap.size ≤ gb185)); have n5_ := n4_; have n6_ := Aside0.mk ((Q120 : gb183 ≠ gb185)); have n7_ := Aside0.mk ((Q121 : gb185 ≠ gb183)); have n8_ := Aside0.mk ((Q122 : gb184 ≠ gb185)); have n9_ := Aside0.mk ((Q123 : gb185 ≠ gb184)); clear BK183; clear BK184; clear HB; have BK183 := n0_; have BK184 := n1_; have HB := n2_; have BK185 := n3_; have GW185 := n4_; have GE185 := n5_; have NB183_185 := n6_; have NB185_183 := n7_; have NB184_185 := n8_; have NB185_184 := n9_; clear n0_ n1_ n2_ n3_ n4_ n5_ n6_ n7_ n8_ n9_; clear hb hbox hg; have hnb25 := NB183_184.out; have hnc25 := NB184_183.out; have hnb26 := NB183_185.out; have hnc26 := NB185_183.out; have hcz27_0 : w24.cell? ⟨gb183, 0, none⟩ = some (.int .i64 a0_0) := (blk_cell BK183.out 0).trans rfl; have hcz27_1 : w24.cell? ⟨gb183, 1, none⟩ = some (.int .i64 a0_1) := (blk_cell BK183.out 1).trans rfl; have hfz27_0 := blk_frozen BK183.out 0; have hfz27_1 := blk_frozen BK183.out 1) | ((with_reducible refine gate_callee (f := 60) rfl ?_); refine goesL_ (some 6) rfl rfl Try.func60 Q1 rfl #[.agg #[.int .i64 a0_0, .int .i64 a0_1]] rfl Q65 ?_; (with_reducible refine (spec_TimeOk.calls a0_0 a0_1 true _ A3.out).mono ?_); rintro e w28 ⟨rfl, hb⟩; refine ⟨_, rfl, ?_⟩; have n0_ := Aside0.mk (blk_below (g := gb183) (o := .cells #[.int .i64 a0_0, .int .i64 a0_1] 36 (0, 0)) Q43 hb); have n1_ := Aside0.mk (blk_below (g := gb184) (o := .cells #[.int .i64 a1_0, .int .i64 a1_1] 36 (0, 0)) Q44 hb); have n2_ := Aside0.mk (blk_below (g := gb185) (o := .cells #[.int .i64 0, .int .i64 0] 36 (0, 0)) Q45 hb); have n3_ := Aside0.mk (below_step Q98 hb); clear BK183; clear BK184; clear BK185; clear HB; have BK183 := n0_; have BK184 := n1_; have BK185 := n2_; have HB := n3_; clear n0_ n1_ n2_ n3_; (try clear hb); (try clear hb2); (try clear hk); (try clear hi); have hnb29 := NB184_185.out; have hnc29 := NB185_184.out; have hcz30_0 : w28.cell? ⟨gb184, 0, none⟩ = some (.int .i64 a1_0) := (blk_cell BK184.out 0).trans rfl; have hcz30_1 : w28.cell? ⟨gb184, 1, none⟩ = some (.int .i64 a1_1) := (blk_cell BK184.out 1).trans rfl; have hfz30_0 := blk_frozen BK184.out 0; have hfz30_1 := blk_frozen BK184.out 1) | (go_at_call 60; (with_reducible refine (spec_TimeOk.calls a1_0 a1_1 false _ A5.out).mono ?_); rintro e w31 ⟨rfl, hb⟩; have n0_ := Aside0.mk (blk_below (g := gb183) (o := .cells #[.int .i64 a0_0, .int .i64 a0_1] 36 (0, 0)) Q43 hb); have n1_ := Aside0.mk (blk_below (g := gb184) (o := .cells #[.int .i64 a1_0, .int .i64 a1_1] 36 (0, 0)) Q44 hb); have n2_ := Aside0.mk (blk_below (g := gb185) (o := .cells #[.int .i64 0, .int .i64 0] 36 (0, 0)) Q45 hb); have n3_ := Aside0.mk (below_step Q98 hb); clear BK183; clear BK184; clear BK185; clear HB; have BK183 := n0_; have BK184 := n1_; have BK185 := n2_; have HB := n3_; clear n0_ n1_ n2_ n3_; (try clear hb); (try clear hb2); (try clear hk); (try clear hi); have hcz32_0 : w31.cell? ⟨gb185, 0, none⟩ = some (.int .i64 0) := (blk_cell BK185.out 0).trans rfl; have hcz32_1 : w31.cell? ⟨gb185, 1, none⟩ = some (.int .i64 0) := (blk_cell BK185.out 1).trans rfl; have hfz32_0 := blk_frozen BK185.out 0; have hfz32_1 := blk_frozen BK185.out 1))
   refine bodyPost_ret (results_cell_row rfl _ _ gb185 36 #[.int .i64 0, .int .i64 0] (0, 0) _ rfl (by (with_reducible repeat (first | refine blk_drewN ?_ _ | refine blk_drew ?_ | refine blk_alloc ?_ _)); refine blk_put (cs := #[.int .i64 0, .int .i64 0]) ?_ 1 _ rfl; (with_reducible repeat (first | refine blk_drewN ?_ _ | refine blk_drew ?_ | refine blk_alloc ?_ _)); refine blk_put (cs := #[.int .i64 0, .int .i64 0]) ?_ 0 _ rfl; (with_reducible repeat (first | refine blk_drewN ?_ _ | refine blk_drew ?_ | refine blk_alloc ?_ _)); exact BK185.out) Try.underlying36 rfl Q1) rfl ?_
   exact ⟨Q12, Q98⟩
 ·replace c4 := Bool.eq_false_iff.mpr c4
  subst c4
  have H1 : (some (0, 0)) = some (r1, r2) := by rw [if_neg (show ¬ (false = true) by decide)] at H; exact H
  clear H
  have H := H1
  clear H1
  simp only [Option.some.injEq, Prod.mk.injEq] at H
  obtain ⟨rfl, rfl⟩ := H
  go_enter Try.func86, Try.ntmps86
  go_wp2_with (first | ((with_reducible refine gate_dst (N := 2) rfl ?_); refine box_event ?hg (N := 2) ?hd (cs := #[.int .i64 a0_0, .int .i64 a0_1]) (t := 36) ?hr ?_; (case hd => rfl); (case hg => rfl); (case hr => first | (go_simp; done) | (go_simp; rfl)); intro gb183 hg w33 hbox hb; have n0_ := Aside0.mk (below_step Q64 hb); have n1_ := Aside0.mk (hbox); have n2_ := Aside0.mk ((Q105 : w.heap.size ≤ gb183)); have n3_ := n2_; clear HB; have HB := n0_; have BK183 := n1_; have GW183 := n2_; have GE183 := n3_; clear n0_ n1_ n2_ n3_; clear hb hbox hg) | ((with_reducible refine gate_dst (N := 3) rfl ?_); refine box_event ?hg (N := 3) ?hd (cs := #[.int .i64 a1_0, .int .i64 a1_1]) (t := 36) ?hr ?_; (case hd => rfl); (case hg => rfl); (case hr => first | (go_simp; done) | (go_simp; rfl)); intro gb184 hg w34 hbox hb; have n0_ := Aside0.mk (blk_below (g := gb183) (o := .cells #[.int .i64 a0_0, .int .i64 a0_1] 36 (0, 0)) Q43 hb); have n1_ := Aside0.mk (below_step Q76 hb); have n2_ := Aside0.mk (hbox); have n3_ := Aside0.mk ((by rw [hg]; exact (below_size Q76) : w.heap.size ≤ gb184)); have n4_ := n3_; have n5_ := Aside0.mk ((Q120 : gb183 ≠ gb184)); have n6_ := Aside0.mk ((Q121 : gb184 ≠ gb183)); clear BK183; clear HB; have BK183 := n0_; have HB := n1_; have BK184 := n2_; have GW184 := n3_; have GE184 := n4_; have NB183_184 := n5_; have NB184_183 := n6_; clear n0_ n1_ n2_ n3_ n4_ n5_ n6_; clear hb hbox hg) | ((with_reducible refine gate_dst (N := 4) rfl ?_); refine box_event ?hg (N := 4) ?hd (cs := #[.int .i64 0, .int .i64 0]) (t := 36) ?hr ?_; (case hd => rfl); (case hg => rfl); (case hr => first | (go_simp; done) | (go_simp; rfl)); intro gb185 hg w35 hbox hb; have n0_ := Aside0.mk (blk_below (g := gb183) (o := .cells #[.int .i64 a0_0, .int .i64 a0_1] 36 (0, 0)) Q43 hb); have n1_ := Aside0.mk (blk_below (g := gb184) (o := .cells #[.int .i64 a1_0, .int .i64 a1_1] 36 (0, 0)) Q44 hb); have n2_ := Aside0.mk (below_step Q89 hb); have n3_ := Aside0.mk (hbox); have n4_ := Aside0.mk ((by rw [hg]; exact (below_size Q89) : w.heap.size ≤ gb185)); have n5_ := n4_; have n6_ := Aside0.mk ((Q120 : gb183 ≠ gb185)); have n7_ := Aside0.mk ((Q121 : gb185 ≠ gb183)); have n8_ := Aside0.mk ((Q122 : gb184 ≠ gb185)); have n9_ := Aside0.mk ((Q123 : gb185 ≠ gb184)); clear BK183; clear BK184; clear HB; have BK183 := n0_; have BK184 := n1_; have HB := n2_; have BK185 := n3_; have GW185 := n4_; have GE185 := n5_; have NB183_185 := n6_; have NB185_183 := n7_; have NB184_185 := n8_; have NB185_184 := n9_; clear n0_ n1_ n2_ n3_ n4_ n5_ n6_ n7_ n8_ n9_; clear hb hbox hg; have hnb36 := NB183_184.out; have hnc36 := NB184_183.out; have hnb37 := NB183_185.out; have hnc37 := NB185_183.out; have hcz38_0 : w35.cell? ⟨gb183, 0, none⟩ = some (.int .i64 a0_0) := (blk_cell BK183.out 0).trans rfl; have hcz38_1 : w35.cell? ⟨gb183, 1, none⟩ = some (.int .i64 a0_1) := (blk_cell BK183.out 1).trans rfl; have hfz38_0 := blk_frozen BK183.out 0; have hfz38_1 := blk_frozen BK183.out 1) | ((with_reducible refine gate_callee (f := 60) rfl ?_); refine goesL_ (some 6) rfl rfl Try.func60 Q1 rfl #[.agg #[.int .i64 a0_0, .int .i64 a0_1]] rfl Q65 ?_; (with_reducible refine (spec_TimeOk.calls a0_0 a0_1 false _ A3.out).mono ?_); rintro e w39 ⟨rfl, hb⟩; refine ⟨_, rfl, ?_⟩; have n0_ := Aside0.mk (blk_below (g := gb183) (o := .cells #[.int .i64 a0_0, .int .i64 a0_1] 36 (0, 0)) Q43 hb); have n1_ := Aside0.mk (blk_below (g := gb184) (o := .cells #[.int .i64 a1_0, .int .i64 a1_1] 36 (0, 0)) Q44 hb); have n2_ := Aside0.mk (blk_below (g := gb185) (o := .cells #[.int .i64 0, .int .i64 0] 36 (0, 0)) Q45 hb); have n3_ := Aside0.mk (below_step Q98 hb); clear BK183; clear BK184; clear BK185; clear HB; have BK183 := n0_; have BK184 := n1_; have BK185 := n2_; have HB := n3_; clear n0_ n1_ n2_ n3_; (try clear hb); (try clear hb2); (try clear hk); (try clear hi); have hnb40 := NB185_184.out; have hnc40 := NB184_185.out; have hcz41_0 : w39.cell? ⟨gb185, 0, none⟩ = some (.int .i64 0) := (blk_cell BK185.out 0).trans rfl; have hcz41_1 : w39.cell? ⟨gb185, 1, none⟩ = some (.int .i64 0) := (blk_cell BK185.out 1).trans rfl; have hfz41_0 := blk_frozen BK185.out 0; have hfz41_1 := blk_frozen BK185.out 1))
  refine bodyPost_ret (results_cell_row rfl _ _ gb185 36 #[.int .i64 0, .int .i64 0] (0, 0) _ rfl (by (with_reducible repeat (first | refine blk_drewN ?_ _ | refine blk_drew ?_ | refine blk_alloc ?_ _)); refine blk_put (cs := #[.int .i64 0, .int .i64 0]) ?_ 1 _ rfl; (with_reducible repeat (first | refine blk_drewN ?_ _ | refine blk_drew ?_ | refine blk_alloc ?_ _)); refine blk_put (cs := #[.int .i64 0, .int .i64 0]) ?_ 0 _ rfl; (with_reducible repeat (first | refine blk_drewN ?_ _ | refine blk_drew ?_ | refine blk_alloc ?_ _)); exact BK185.out) Try.underlying36 rfl Q1) rfl ?_
  exact ⟨Q12, Q98⟩
def spec_TimeMeet.f (a0_0 : Int) (a0_1 : Int) (a1_0 : Int) (a1_1 : Int) : Option (Int × Int) := (spec_TimeOk.f a0_0 a0_1).bind fun t191 => (if t191 = true then ((spec_TimeOk.f a1_0 a1_1).bind fun t192 => (if t192 = true then (some (mn a0_0 a1_0, mn a0_1 a1_1)) else (some (0, 0)))) else (some (0, 0)))
set_option maxHeartbeats 8000000 in
set_option maxRecDepth 100000 in
theorem spec_TimeMeet.calls (a0_0 : Int) (a0_1 : Int) (a1_0 : Int) (a1_1 : Int) (r1 : Int) (r2 : Int) (w : World) (h : spec_TimeMeet.f a0_0 a0_1 a1_0 a1_1 = some (r1, r2)) :
  Calls Try.prog 87 #[.agg #[.int .i64 a0_0, .int .i64 a0_1], .agg #[.int .i64 a1_0, .int .i64 a1_1]] w fun e w' => e = .returned (.agg #[.int .i64 r1, .int .i64 r2]) ∧ Below w.heap.size w w' := by
 have hu36 := Try.underlying36
 have HB := Aside0.mk (Below.refl w.heap.size w)
 have H : ((spec_TimeOk.f a0_0 a0_1).bind fun t191 => (if t191 = true then ((spec_TimeOk.f a1_0 a1_1).bind fun t192 => (if t192 = true then (some (mn a0_0 a1_0, mn a0_1 a1_1)) else (some (0, 0)))) else (some (0, 0)))) = some (r1, r2) := h
 clear h
 replace H := Option.bind_eq_some_iff.mp H
 obtain ⟨t191, A30, H⟩ := H
 replace H : (if t191 = true then ((spec_TimeOk.f a1_0 a1_1).bind fun t192 => (if t192 = true then (some (mn a0_0 a1_0, mn a0_1 a1_1)) else (some (0, 0)))) else (some (0, 0))) = some (r1, r2) := H
 have A3 := Aside0.mk A30
 clear A30
 by_cases c4 : t191 = true
 ·subst c4
  have H1 : ((spec_TimeOk.f a1_0 a1_1).bind fun t192 => (if t192 = true then (some (mn a0_0 a1_0, mn a0_1 a1_1)) else (some (0, 0)))) = some (r1, r2) := by rw [if_pos rfl] at H; exact H
  clear H
  have H := H1
  clear H1
  replace H := Option.bind_eq_some_iff.mp H
  obtain ⟨t192, A50, H⟩ := H
  replace H : (if t192 = true then (some (mn a0_0 a1_0, mn a0_1 a1_1)) else (some (0, 0))) = some (r1, r2) := H
  have A5 := Aside0.mk A50
  clear A50
  by_cases c6 : t192 = true
  ·subst c6
   have H1 : (some (mn a0_0 a1_0, mn a0_1 a1_1)) = some (r1, r2) := by rw [if_pos rfl] at H; exact H
   clear H
   have H := H1
   clear H1
   obtain ⟨ji7, hji7⟩ : ∃ j_ : Int, (mn a0_0 a1_0) = j_ := ⟨_, rfl⟩
   replace H : (some (ji7, mn a0_1 a1_1)) = some (r1, r2) := by first | (rw [hji7] at H; exact H) | (simp only [hji7] at H ⊢; exact H)
   (try rw [hji7] at A3)
   (try rw [hji7] at A5)
   have hji7_ : (if a1_0 < a0_0 then a1_0 else a0_0) = ji7 := hji7
   obtain ⟨ji8, hji8⟩ : ∃ j_ : Int, (mn a0_1 a1_1) = j_ := ⟨_, rfl⟩
   replace H : (some (ji7, ji8)) = some (r1, r2) := by first | (rw [hji8] at H; exact H) | (simp only [hji8] at H ⊢; exact H)
   (try rw [hji8] at A3)
   (try rw [hji8] at A5)
   have hji8_ : (if a1_1 < a0_1 then a1_1 else a0_1) = ji8 := hji8
   simp only [Option.some.injEq, Prod.mk.injEq] at H
   obtain ⟨rfl, rfl⟩ := H
   go_enter Try.func87, Try.ntmps87
   go_wp2_with (first | ((with_reducible refine gate_dst (N := 2) rfl ?_); refine box_event ?hg (N := 2) ?hd (cs := #[.int .i64 a0_0, .int .i64 a0_1]) (t := 36) ?hr ?_; (case hd => rfl); (case hg => rfl); (case hr => first | (go_simp; done) | (go_simp; rfl)); intro gb188 hg w9 hbox hb; have n0_ := Aside0.mk (below_step Q64 hb); have n1_ := Aside0.mk (hbox); have n2_ := Aside0.mk ((Q105 : w.heap.size ≤ gb188)); have n3_ := n2_; clear HB; have HB := n0_; have BK188 := n1_; have GW188 := n2_; have GE188 := n3_; clear n0_ n1_ n2_ n3_; clear hb hbox hg) | ((with_reducible refine gate_dst (N := 3) rfl ?_); refine box_event ?hg (N := 3) ?hd (cs := #[.int .i64 a1_0, .int .i64 a1_1]) (t := 36) ?hr ?_; (case hd => rfl); (case hg => rfl); (case hr => first | (go_simp; done) | (go_simp; rfl)); intro gb189 hg w10 hbox hb; have n0_ := Aside0.mk (blk_below (g := gb188) (o := .cells #[.int .i64 a0_0, .int .i64 a0_1] 36 (0, 0)) Q46 hb); have n1_ := Aside0.mk (below_step Q77 hb); have n2_ := Aside0.mk (hbox); have n3_ := Aside0.mk ((by rw [hg]; exact (below_size Q77) : w.heap.size ≤ gb189)); have n4_ := n3_; have n5_ := Aside0.mk ((Q124 : gb188 ≠ gb189)); have n6_ := Aside0.mk ((Q125 : gb189 ≠ gb188)); clear BK188; clear HB; have BK188 := n0_; have HB := n1_; have BK189 := n2_; have GW189 := n3_; have GE189 := n4_; have NB188_189 := n5_; have NB189_188 := n6_; clear n0_ n1_ n2_ n3_ n4_ n5_ n6_; clear hb hbox hg) | ((with_reducible refine gate_dst (N := 4) rfl ?_); refine box_event ?hg (N := 4) ?hd (cs := #[.int .i64 0, .int .i64 0]) (t := 36) ?hr ?_; (case hd => rfl); (case hg => rfl); (case hr => first | (go_simp; done) | (go_simp; rfl)); intro gb190 hg w11 hbox hb; have n0_ := Aside0.mk (blk_below (g := gb188) (o := .cells #[.int .i64 a0_0, .int .i64 a0_1] 36 (0, 0)) Q46 hb); have n1_ := Aside0.mk (blk_below (g := gb189) (o := .cells #[.int .i64 a1_0, .int .i64 a1_1] 36 (0, 0)) Q47 hb); have n2_ := Aside0.mk (below_step Q90 hb); have n3_ := Aside0.mk (hbox); have n4_ := Aside0.mk ((by rw [hg]; exact (below_size Q90) : w.heap.size ≤ gb190)); have n5_ := n4_; have n6_ := Aside0.mk ((Q124 : gb188 ≠ gb190)); have n7_ := Aside0.mk ((Q125 : gb190 ≠ gb188)); have n8_ := Aside0.mk ((Q126 : gb189 ≠ gb190)); have n9_ := Aside0.mk ((Q127 : gb190 ≠ gb189)); clear BK188; clear BK189; clear HB; have BK188 := n0_; have BK189 := n1_; have HB := n2_; have BK190 := n3_; have GW190 := n4_; have GE190 := n5_; have NB188_190 := n6_; have NB190_188 := n7_; have NB189_190 := n8_; have NB190_189 := n9_; clear n0_ n1_ n2_ n3_ n4_ n5_ n6_ n7_ n8_ n9_; clear hb hbox hg; have hnb12 := NB188_189.out; have hnc12 := NB189_188.out; have hnb13 := NB188_190.out; have hnc13 := NB190_188.out; have hcz14_0 : w11.cell? ⟨gb188, 0, none⟩ = some (.int .i64 a0_0) := (blk_cell BK188.out 0).trans rfl; have hcz14_1 : w11.cell? ⟨gb188, 1, none⟩ = some (.int .i64 a0_1) := (blk_cell BK188.out 1).trans rfl; have hfz14_0 := blk_frozen BK188.out 0; have hfz14_1 := blk_frozen BK188.out 1) | ((with_reducible refine gate_callee (f := 60) rfl ?_); refine goesL_ (some 6) rfl rfl Try.func60 Q1 rfl #[.agg #[.int .i64 a0_0, .int .i64 a0_1]] rfl Q65 ?_; (with_reducible refine (spec_TimeOk.calls a0_0 a0_1 true _ A3.out).mono ?_); rintro e w15 ⟨rfl, hb⟩; refine ⟨_, rfl, ?_⟩; have n0_ := Aside0.mk (blk_below (g := gb188) (o := .cells #[.int .i64 a0_0, .int .i64 a0_1] 36 (0, 0)) Q46 hb); have n1_ := Aside0.mk (blk_below (g := gb189) (o := .cells #[.int .i64 a1_0, .int .i64 a1_1] 36 (0, 0)) Q47 hb); have n2_ := Aside0.mk (blk_below (g := gb190) (o := .cells #[.int .i64 0, .int .i64 0] 36 (0, 0)) Q48 hb); have n3_ := Aside0.mk (below_step Q99 hb); clear BK188; clear BK189; clear BK190; clear HB; have BK188 := n0_; have BK189 := n1_; have BK190 := n2_; have HB := n3_; clear n0_ n1_ n2_ n3_; (try clear hb); (try clear hb2); (try clear hk); (try clear hi); have hnb16 := NB189_190.out; have hnc16 := NB190_189.out; have hcz17_0 : w15.cell? ⟨gb189, 0, none⟩ = some (.int .i64 a1_0) := (blk_cell BK189.out 0).trans rfl; have hcz17_1 : w15.cell? ⟨gb189, 1, none⟩ = some (.int .i64 a1_1) := (blk_cell BK189.out 1).trans rfl; have hfz17_0 := blk_frozen BK189.out 0; have hfz17_1 := blk_frozen BK189.out 1) | (go_at_call 60; (with_reducible refine (spec_TimeOk.calls a1_0 a1_1 true _ A5.out).mono ?_); rintro e w18 ⟨rfl, hb⟩; have n0_ := Aside0.mk (blk_below (g := gb188) (o := .cells #[.int .i64 a0_0, .int .i64 a0_1] 36 (0, 0)) Q46 hb); have n1_ := Aside0.mk (blk_below (g := gb189) (o := .cells #[.int .i64 a1_0, .int .i64 a1_1] 36 (0, 0)) Q47 hb); have n2_ := Aside0.mk (blk_below (g := gb190) (o := .cells #[.int .i64 0, .int .i64 0] 36 (0, 0)) Q48 hb); have n3_ := Aside0.mk (below_step Q99 hb); clear BK188; clear BK189; clear BK190; clear HB; have BK188 := n0_; have BK189 := n1_; have BK190 := n2_; have HB := n3_; clear n0_ n1_ n2_ n3_; (try clear hb); (try clear hb2); (try clear hk); (try clear hi); have hcz19_0 : w18.cell? ⟨gb188, 0, none⟩ = some (.int .i64 a0_0) := (blk_cell BK188.out 0).trans rfl; have hcz19_1 : w18.cell? ⟨gb188, 1, none⟩ = some (.int .i64 a0_1) := (blk_cell BK188.out 1).trans rfl; have hfz19_0 := blk_frozen BK188.out 0; have hfz19_1 := blk_frozen BK188.out 1; have hcz20_0 : w18.cell? ⟨gb189, 0, none⟩ = some (.int .i64 a1_0) := (blk_cell BK189.out 0).trans rfl; have hcz20_1 : w18.cell? ⟨gb189, 1, none⟩ = some (.int .i64 a1_1) := (blk_cell BK189.out 1).trans rfl; have hfz20_0 := blk_frozen BK189.out 0; have hfz20_1 := blk_frozen BK189.out 1; have hcz21_0 : w18.cell? ⟨gb190, 0, none⟩ = some (.int .i64 0) := (blk_cell BK190.out 0).trans rfl; have hcz21_1 : w18.cell? ⟨gb190, 1, none⟩ = some (.int .i64 0) := (blk_cell BK190.out 1).trans rfl; have hfz21_0 := blk_frozen BK190.out 0; have hfz21_1 := blk_frozen BK190.out 1))
   refine bodyPost_ret (results_cell_row rfl _ _ gb190 36 #[.int .i64 ji7, .int .i64 ji8] (0, 0) _ rfl (by (with_reducible repeat (first | refine blk_drewN ?_ _ | refine blk_drew ?_ | refine blk_alloc ?_ _)); refine blk_put (cs := #[.int .i64 ji7, .int .i64 0]) ?_ 1 _ rfl; (with_reducible repeat (first | refine blk_drewN ?_ _ | refine blk_drew ?_ | refine blk_alloc ?_ _)); refine blk_put (cs := #[.int .i64 0, .int .i64 0]) ?_ 0 _ rfl; (with_reducible repeat (first | refine blk_drewN ?_ _ | refine blk_drew ?_ | refine blk_alloc ?_ _)); exact BK190.out) Try.underlying36 rfl Q1) rfl ?_
   exact ⟨Q83, Q99⟩
  ·replace c6 := Bool.eq_false_iff.mpr c6
   subst c6
   have H1 : (some (0, 0)) = some (r1, r2) := by rw [if_neg (show ¬ (false = true) by decide)] at H; exact H
   clear H
   have H := H1
   clear H1
   simp only [Option.some.injEq, Prod.mk.injEq] at H
   obtain ⟨rfl, rfl⟩ := H
   go_enter Try.func87, Try.ntmps87
   go_wp2_with (first | ((with_reducible refine gate_dst (N := 2) rfl ?_); refine box_event ?hg (N := 2) ?hd (cs := #[.int .i64 a0_0, .int .i64 a0_1]) (t := 36) ?hr ?_; (case hd => rfl); (case hg => rfl); (case hr => first | (go_simp; done) | (go_simp; rfl)); intro gb188 hg w22 hbox hb; have n0_ := Aside0.mk (below_step Q64 hb); have n1_ := Aside0.mk (hbox); have n2_ := Aside0.mk ((Q105 : w.heap.size ≤ gb188)); have n3_ := n2_; clear HB; have HB := n0_; have BK188 := n1_; have GW188 := n2_; have GE188 := n3_; clear n0_ n1_ n2_ n3_; clear hb hbox hg) | ((with_reducible refine gate_dst (N := 3) rfl ?_); refine box_event ?hg (N := 3) ?hd (cs := #[.int .i64 a1_0, .int .i64 a1_1]) (t := 36) ?hr ?_; (case hd => rfl); (case hg => rfl); (case hr => first | (go_simp; done) | (go_simp; rfl)); intro gb189 hg w23 hbox hb; have n0_ := Aside0.mk (blk_below (g := gb188) (o := .cells #[.int .i64 a0_0, .int .i64 a0_1] 36 (0, 0)) Q46 hb); have n1_ := Aside0.mk (below_step Q77 hb); have n2_ := Aside0.mk (hbox); have n3_ := Aside0.mk ((by rw [hg]; exact (below_size Q77) : w.heap.size ≤ gb189)); have n4_ := n3_; have n5_ := Aside0.mk ((Q124 : gb188 ≠ gb189)); have n6_ := Aside0.mk ((Q125 : gb189 ≠ gb188)); clear BK188; clear HB; have BK188 := n0_; have HB := n1_; have BK189 := n2_; have GW189 := n3_; have GE189 := n4_; have NB188_189 := n5_; have NB189_188 := n6_; clear n0_ n1_ n2_ n3_ n4_ n5_ n6_; clear hb hbox hg) | ((with_reducible refine gate_dst (N := 4) rfl ?_); refine box_event ?hg (N := 4) ?hd (cs := #[.int .i64 0, .int .i64 0]) (t := 36) ?hr ?_; (case hd => rfl); (case hg => rfl); (case hr => first | (go_simp; done) | (go_simp; rfl)); intro gb190 hg w24 hbox hb; have n0_ := Aside0.mk (blk_below (g := gb188) (o := .cells #[.int .i64 a0_0, .int .i64 a0_1] 36 (0, 0)) Q46 hb); have n1_ := Aside0.mk (blk_below (g := gb189) (o := .cells #[.int .i64 a1_0, .int .i64 a1_1] 36 (0, 0)) Q47 hb); have n2_ := Aside0.mk (below_step Q90 hb); have n3_ := Aside0.mk (hbox); have n4_ := Aside0.mk ((by rw [hg]; exact (below_size Q90) : w.heap.size ≤ gb190)); have n5_ := n4_; have n6_ := Aside0.mk ((Q124 : gb188 ≠ gb190)); have n7_ := Aside0.mk ((Q125 : gb190 ≠ gb188)); have n8_ := Aside0.mk ((Q126 : gb189 ≠ gb190)); have n9_ := Aside0.mk ((Q127 : gb190 ≠ gb189)); clear BK188; clear BK189; clear HB; have BK188 := n0_; have BK189 := n1_; have HB := n2_; have BK190 := n3_; have GW190 := n4_; have GE190 := n5_; have NB188_190 := n6_; have NB190_188 := n7_; have NB189_190 := n8_; have NB190_189 := n9_; clear n0_ n1_ n2_ n3_ n4_ n5_ n6_ n7_ n8_ n9_; clear hb hbox hg; have hnb25 := NB188_189.out; have hnc25 := NB189_188.out; have hnb26 := NB188_190.out; have hnc26 := NB190_188.out; have hcz27_0 : w24.cell? ⟨gb188, 0, none⟩ = some (.int .i64 a0_0) := (blk_cell BK188.out 0).trans rfl; have hcz27_1 : w24.cell? ⟨gb188, 1, none⟩ = some (.int .i64 a0_1) := (blk_cell BK188.out 1).trans rfl; have hfz27_0 := blk_frozen BK188.out 0; have hfz27_1 := blk_frozen BK188.out 1) | ((with_reducible refine gate_callee (f := 60) rfl ?_); refine goesL_ (some 6) rfl rfl Try.func60 Q1 rfl #[.agg #[.int .i64 a0_0, .int .i64 a0_1]] rfl Q65 ?_; (with_reducible refine (spec_TimeOk.calls a0_0 a0_1 true _ A3.out).mono ?_); rintro e w28 ⟨rfl, hb⟩; refine ⟨_, rfl, ?_⟩; have n0_ := Aside0.mk (blk_below (g := gb188) (o := .cells #[.int .i64 a0_0, .int .i64 a0_1] 36 (0, 0)) Q46 hb); have n1_ := Aside0.mk (blk_below (g := gb189) (o := .cells #[.int .i64 a1_0, .int .i64 a1_1] 36 (0, 0)) Q47 hb); have n2_ := Aside0.mk (blk_below (g := gb190) (o := .cells #[.int .i64 0, .int .i64 0] 36 (0, 0)) Q48 hb); have n3_ := Aside0.mk (below_step Q99 hb); clear BK188; clear BK189; clear BK190; clear HB; have BK188 := n0_; have BK189 := n1_; have BK190 := n2_; have HB := n3_; clear n0_ n1_ n2_ n3_; (try clear hb); (try clear hb2); (try clear hk); (try clear hi); have hnb29 := NB189_190.out; have hnc29 := NB190_189.out; have hcz30_0 : w28.cell? ⟨gb189, 0, none⟩ = some (.int .i64 a1_0) := (blk_cell BK189.out 0).trans rfl; have hcz30_1 : w28.cell? ⟨gb189, 1, none⟩ = some (.int .i64 a1_1) := (blk_cell BK189.out 1).trans rfl; have hfz30_0 := blk_frozen BK189.out 0; have hfz30_1 := blk_frozen BK189.out 1) | (go_at_call 60; (with_reducible refine (spec_TimeOk.calls a1_0 a1_1 false _ A5.out).mono ?_); rintro e w31 ⟨rfl, hb⟩; have n0_ := Aside0.mk (blk_below (g := gb188) (o := .cells #[.int .i64 a0_0, .int .i64 a0_1] 36 (0, 0)) Q46 hb); have n1_ := Aside0.mk (blk_below (g := gb189) (o := .cells #[.int .i64 a1_0, .int .i64 a1_1] 36 (0, 0)) Q47 hb); have n2_ := Aside0.mk (blk_below (g := gb190) (o := .cells #[.int .i64 0, .int .i64 0] 36 (0, 0)) Q48 hb); have n3_ := Aside0.mk (below_step Q99 hb); clear BK188; clear BK189; clear BK190; clear HB; have BK188 := n0_; have BK189 := n1_; have BK190 := n2_; have HB := n3_; clear n0_ n1_ n2_ n3_; (try clear hb); (try clear hb2); (try clear hk); (try clear hi); have hcz32_0 : w31.cell? ⟨gb190, 0, none⟩ = some (.int .i64 0) := (blk_cell BK190.out 0).trans rfl; have hcz32_1 : w31.cell? ⟨gb190, 1, none⟩ = some (.int .i64 0) := (blk_cell BK190.out 1).trans rfl; have hfz32_0 := blk_frozen BK190.out 0; have hfz32_1 := blk_frozen BK190.out 1))
   refine bodyPost_ret (results_cell_row rfl _ _ gb190 36 #[.int .i64 0, .int .i64 0] (0, 0) _ rfl (by (with_reducible repeat (first | refine blk_drewN ?_ _ | refine blk_drew ?_ | refine blk_alloc ?_ _)); refine blk_put (cs := #[.int .i64 0, .int .i64 0]) ?_ 1 _ rfl; (with_reducible repeat (first | refine blk_drewN ?_ _ | refine blk_drew ?_ | refine blk_alloc ?_ _)); refine blk_put (cs := #[.int .i64 0, .int .i64 0]) ?_ 0 _ rfl; (with_reducible repeat (first | refine blk_drewN ?_ _ | refine blk_drew ?_ | refine blk_alloc ?_ _)); exact BK190.out) Try.underlying36 rfl Q1) rfl ?_
   exact ⟨Q12, Q99⟩
 ·replace c4 := Bool.eq_false_iff.mpr c4
  subst c4
  have H1 : (some (0, 0)) = some (r1, r2) := by rw [if_neg (show ¬ (false = true) by decide)] at H; exact H
  clear H
  have H := H1
  clear H1
  simp only [Option.some.injEq, Prod.mk.injEq] at H
  obtain ⟨rfl, rfl⟩ := H
  go_enter Try.func87, Try.ntmps87
  go_wp2_with (first | ((with_reducible refine gate_dst (N := 2) rfl ?_); refine box_event ?hg (N := 2) ?hd (cs := #[.int .i64 a0_0, .int .i64 a0_1]) (t := 36) ?hr ?_; (case hd => rfl); (case hg => rfl); (case hr => first | (go_simp; done) | (go_simp; rfl)); intro gb188 hg w33 hbox hb; have n0_ := Aside0.mk (below_step Q64 hb); have n1_ := Aside0.mk (hbox); have n2_ := Aside0.mk ((Q105 : w.heap.size ≤ gb188)); have n3_ := n2_; clear HB; have HB := n0_; have BK188 := n1_; have GW188 := n2_; have GE188 := n3_; clear n0_ n1_ n2_ n3_; clear hb hbox hg) | ((with_reducible refine gate_dst (N := 3) rfl ?_); refine box_event ?hg (N := 3) ?hd (cs := #[.int .i64 a1_0, .int .i64 a1_1]) (t := 36) ?hr ?_; (case hd => rfl); (case hg => rfl); (case hr => first | (go_simp; done) | (go_simp; rfl)); intro gb189 hg w34 hbox hb; have n0_ := Aside0.mk (blk_below (g := gb188) (o := .cells #[.int .i64 a0_0, .int .i64 a0_1] 36 (0, 0)) Q46 hb); have n1_ := Aside0.mk (below_step Q77 hb); have n2_ := Aside0.mk (hbox); have n3_ := Aside0.mk ((by rw [hg]; exact (below_size Q77) : w.heap.size ≤ gb189)); have n4_ := n3_; have n5_ := Aside0.mk ((Q124 : gb188 ≠ gb189)); have n6_ := Aside0.mk ((Q125 : gb189 ≠ gb188)); clear BK188; clear HB; have BK188 := n0_; have HB := n1_; have BK189 := n2_; have GW189 := n3_; have GE189 := n4_; have NB188_189 := n5_; have NB189_188 := n6_; clear n0_ n1_ n2_ n3_ n4_ n5_ n6_; clear hb hbox hg) | ((with_reducible refine gate_dst (N := 4) rfl ?_); refine box_event ?hg (N := 4) ?hd (cs := #[.int .i64 0, .int .i64 0]) (t := 36) ?hr ?_; (case hd => rfl); (case hg => rfl); (case hr => first | (go_simp; done) | (go_simp; rfl)); intro gb190 hg w35 hbox hb; have n0_ := Aside0.mk (blk_below (g := gb188) (o := .cells #[.int .i64 a0_0, .int .i64 a0_1] 36 (0, 0)) Q46 hb); have n1_ := Aside0.mk (blk_below (g := gb189) (o := .cells #[.int .i64 a1_0, .int .i64 a1_1] 36 (0, 0)) Q47 hb); have n2_ := Aside0.mk (below_step Q90 hb); have n3_ := Aside0.mk (hbox); have n4_ := Aside0.mk ((by rw [hg]; exact (below_size Q90) : w.heap.size ≤ gb190)); have n5_ := n4_; have n6_ := Aside0.mk ((Q124 : gb188 ≠ gb190)); have n7_ := Aside0.mk ((Q125 : gb190 ≠ gb188)); have n8_ := Aside0.mk ((Q126 : gb189 ≠ gb190)); have n9_ := Aside0.mk ((Q127 : gb190 ≠ gb189)); clear BK188; clear BK189; clear HB; have BK188 := n0_; have BK189 := n1_; have HB := n2_; have BK190 := n3_; have GW190 := n4_; have GE190 := n5_; have NB188_190 := n6_; have NB190_188 := n7_; have NB189_190 := n8_; have NB190_189 := n9_; clear n0_ n1_ n2_ n3_ n4_ n5_ n6_ n7_ n8_ n9_; clear hb hbox hg; have hnb36 := NB188_189.out; have hnc36 := NB189_188.out; have hnb37 := NB188_190.out; have hnc37 := NB190_188.out; have hcz38_0 : w35.cell? ⟨gb188, 0, none⟩ = some (.int .i64 a0_0) := (blk_cell BK188.out 0).trans rfl; have hcz38_1 : w35.cell? ⟨gb188, 1, none⟩ = some (.int .i64 a0_1) := (blk_cell BK188.out 1).trans rfl; have hfz38_0 := blk_frozen BK188.out 0; have hfz38_1 := blk_frozen BK188.out 1) | ((with_reducible refine gate_callee (f := 60) rfl ?_); refine goesL_ (some 6) rfl rfl Try.func60 Q1 rfl #[.agg #[.int .i64 a0_0, .int .i64 a0_1]] rfl Q65 ?_; (with_reducible refine (spec_TimeOk.calls a0_0 a0_1 false _ A3.out).mono ?_); rintro e w39 ⟨rfl, hb⟩; refine ⟨_, rfl, ?_⟩; have n0_ := Aside0.mk (blk_below (g := gb188) (o := .cells #[.int .i64 a0_0, .int .i64 a0_1] 36 (0, 0)) Q46 hb); have n1_ := Aside0.mk (blk_below (g := gb189) (o := .cells #[.int .i64 a1_0, .int .i64 a1_1] 36 (0, 0)) Q47 hb); have n2_ := Aside0.mk (blk_below (g := gb190) (o := .cells #[.int .i64 0, .int .i64 0] 36 (0, 0)) Q48 hb); have n3_ := Aside0.mk (below_step Q99 hb); clear BK188; clear BK189; clear BK190; clear HB; have BK188 := n0_; have BK189 := n1_; have BK190 := n2_; have HB := n3_; clear n0_ n1_ n2_ n3_; (try clear hb); (try clear hb2); (try clear hk); (try clear hi); have hnb40 := NB190_189.out; have hnc40 := NB189_190.out; have hcz41_0 : w39.cell? ⟨gb190, 0, none⟩ = some (.int .i64 0) := (blk_cell BK190.out 0).trans rfl; have hcz41_1 : w39.cell? ⟨gb190, 1, none⟩ = some (.int .i64 0) := (blk_cell BK190.out 1).trans rfl; have hfz41_0 := blk_frozen BK190.out 0; have hfz41_1 := blk_frozen BK190.out 1))
  refine bodyPost_ret (results_cell_row rfl _ _ gb190 36 #[.int .i64 0, .int .i64 0] (0, 0) _ rfl (by (with_reducible repeat (first | refine blk_drewN ?_ _ | refine blk_drew ?_ | refine blk_alloc ?_ _)); refine blk_put (cs := #[.int .i64 0, .int .i64 0]) ?_ 1 _ rfl; (with_reducible repeat (first | refine blk_drewN ?_ _ | refine blk_drew ?_ | refine blk_alloc ?_ _)); refine blk_put (cs := #[.int .i64 0, .int .i64 0]) ?_ 0 _ rfl; (with_reducible repeat (first | refine blk_drewN ?_ _ | refine blk_drew ?_ | refine blk_alloc ?_ _)); exact BK190.out) Try.underlying36 rfl Q1) rfl ?_
  exact ⟨Q12, Q99⟩
mutual
def spec_FrontMove.j0 : Nat → List (S36) → Bool → Int → Int → Option (Int × Int)
 | 0, _, _, _, _ => none
 | k + 1, x0, x14, x194000, x194001 => if x14 = true then (some (0, 0)) else (if (x0.length : Int) = 0 then (some (x194000, x194001)) else (if 0 < (x0.length : Int) then ((spec_TimeJoin.f ((rd_T36 x0 0).f0) ((rd_T36 x0 0).f1) x194000 x194001).bind fun bt198 => (spec_FrontMove.l0 k x0 1 x194000 x194001 bt198.1 bt198.2)) else (none)))
def spec_FrontMove.l0 : Nat → List (S36) → Int → Int → Int → Int → Int → Option (Int × Int)
 | 0, _, _, _, _, _, _ => none
 | k + 1, x0, x6, x194000, x194001, x201000, x201001 => if x6 < (x0.length : Int) then (if 0 ≤ x6 then ((spec_TimeJoin.f ((rd_T36 x0 x6).f0) ((rd_T36 x0 x6).f1) x194000 x194001).bind fun bt202 => ((spec_TimeMeet.f x201000 x201001 bt202.1 bt202.2).bind fun bt204 => (spec_FrontMove.l0 k x0 (wrap64 (x6 + 1)) x194000 x194001 bt204.1 bt204.2))) else (none)) else (some (x201000, x201001))
end
def spec_FrontMove.f (k : Nat) (l0 : List (S36)) (a1_0 : Int) (a1_1 : Int) : Option (Int × Int) := (spec_FrontOk.f k l0).bind fun t195 => (if t195 = true then ((spec_TimeOk.f a1_0 a1_1).bind fun t196 => (spec_FrontMove.j0 k l0 (!t196) a1_0 a1_1)) else (spec_FrontMove.j0 k l0 true a1_0 a1_1))
theorem spec_FrontMove.mono_l : ∀ k, (∀ y0 y1 y2 y3, LeO (spec_FrontMove.j0 k y0 y1 y2 y3) (spec_FrontMove.j0 (k + 1) y0 y1 y2 y3)) ∧ (∀ y0 y1 y2 y3 y4 y5, LeO (spec_FrontMove.l0 k y0 y1 y2 y3 y4 y5) (spec_FrontMove.l0 (k + 1) y0 y1 y2 y3 y4 y5))
 | 0 => ⟨fun _ _ _ _ r h => by simp [spec_FrontMove.j0] at h, fun _ _ _ _ _ _ r h => by simp [spec_FrontMove.l0] at h⟩
 | k + 1 => by
  obtain ⟨ih0, ih1⟩ := spec_FrontMove.mono_l k
  refine ⟨?_, ?_⟩
  ·intro y0 y1 y2 y3
   unfold spec_FrontMove.j0
   repeat' first
   | (with_reducible exact ih0 _ _ _ _)
   | (with_reducible exact ih1 _ _ _ _ _ _)
   | (with_reducible exact spec_FrontOk.mono _ _)
   | (with_reducible exact LeO.refl _)
   | (with_reducible exact LeO.none _)
   | (with_reducible refine LeO.ite ?_ ?_)
   | (with_reducible refine LeO.bind ?_ (fun _ => ?_))
   | exact ih0 _ _ _ _
   | exact ih1 _ _ _ _ _ _
   | exact spec_FrontOk.mono _ _
   | exact LeO.none _
   | refine LeO.ite ?_ ?_
   | refine LeO.bind ?_ (fun _ => ?_)
  ·intro y0 y1 y2 y3 y4 y5
   unfold spec_FrontMove.l0
   repeat' first
   | (with_reducible exact ih0 _ _ _ _)
   | (with_reducible exact ih1 _ _ _ _ _ _)
   | (with_reducible exact spec_FrontOk.mono _ _)
   | (with_reducible exact LeO.refl _)
   | (with_reducible exact LeO.none _)
   | (with_reducible refine LeO.ite ?_ ?_)
   | (with_reducible refine LeO.bind ?_ (fun _ => ?_))
   | exact ih0 _ _ _ _
   | exact ih1 _ _ _ _ _ _
   | exact spec_FrontOk.mono _ _
   | exact LeO.none _
   | refine LeO.ite ?_ ?_
   | refine LeO.bind ?_ (fun _ => ?_)
theorem spec_FrontMove.mono : ∀ a0 a1 a2 k, LeO (spec_FrontMove.f k a0 a1 a2) (spec_FrontMove.f (k + 1) a0 a1 a2) := by
 intro a0 a1 a2 k
 obtain ⟨ih0, ih1⟩ := spec_FrontMove.mono_l k
 unfold spec_FrontMove.f
 repeat' first
   | (with_reducible exact ih0 _ _ _ _)
   | (with_reducible exact ih1 _ _ _ _ _ _)
   | (with_reducible exact spec_FrontOk.mono _ _)
   | (with_reducible exact LeO.refl _)
   | (with_reducible exact LeO.none _)
   | (with_reducible refine LeO.ite ?_ ?_)
   | (with_reducible refine LeO.bind ?_ (fun _ => ?_))
   | exact ih0 _ _ _ _
   | exact ih1 _ _ _ _ _ _
   | exact spec_FrontOk.mono _ _
   | exact LeO.none _
   | refine LeO.ite ?_ ?_
   | refine LeO.bind ?_ (fun _ => ?_)
def spec_FrontMove.T9 : Bool × List (List Nat × List Nat) := (true, [([], []), ([], []), ([], []), ([1, 2], [1, 2]), ([3], [3]), ([], []), ([4, 5], [4, 5]), ([0, 6, 6], [0, 6]), ([7, 7, 0, 1, 2, 3, 4, 5, 6, 7], [7])])
def spec_FrontMove.B9 : List Nat := [0, 0, 0, 6, 14, 0, 62, 127, 255]
theorem spec_FrontMove.tab9 : rtab .any (opsOf Try.f56 9) = spec_FrontMove.T9 := by kernel_rfl
theorem spec_FrontMove.bits9 : waitsOk spec_FrontMove.T9.2 spec_FrontMove.B9 = true := by kernel_rfl
end Go.Proofs.Ytjlkffmdmifahaa.PFnExactBatchMove
