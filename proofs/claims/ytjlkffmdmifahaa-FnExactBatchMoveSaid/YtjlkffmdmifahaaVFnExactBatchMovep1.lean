/- Functions that the law comes to: each as a plain Lean function, with the contract of the Go function. -/
import Derived.Test.YtjlkffmdmifahaaVFnExactBatchMovew
import Derived.Test.YtjlkffmdmifahaaVFnExactBatchMovep0
import Derived.Test.YtjlkffmdmifahaaVFnExactBatchMoveg0
namespace Go.Proofs.Ytjlkffmdmifahaa.PFnExactBatchMove
open Go.RowKit Go.Proofs.YtjlkffmdmifahaaW.PrintWords Go.Proofs.YtjlkffmdmifahaaW.PrintLast Go.Proofs.YtjlkffmdmifahaaW.PrintMore
attribute [local go_sem] max2_int min2_int max_two min_two max_three min_three max_four min_four
set_option linter.unusedVariables false
set_option linter.unusedSimpArgs false
def impl_TimeOk.f (a0_0 : Int) (a0_1 : Int) : Option (Bool) := if a0_0 ≥ 0 then (if a0_0 ≤ 7 then (if a0_1 ≥ 0 then (some (decide (a0_1 ≤ 7))) else (some false)) else (some false)) else (some false)
set_option maxHeartbeats 8000000 in
set_option maxRecDepth 100000 in
theorem impl_TimeOk.calls (a0_0 : Int) (a0_1 : Int) (r : Bool) (w : World) (h : impl_TimeOk.f a0_0 a0_1 = some r) :
  Calls Try.prog 62 #[.agg #[.int .i64 a0_0, .int .i64 a0_1]] w fun e w' => e = .returned (.bool r) ∧ Below w.heap.size w w' := by
 have hu36 := Try.underlying36
 have HB := Aside0.mk (Below.refl w.heap.size w)
 have H : (if a0_0 ≥ 0 then (if a0_0 ≤ 7 then (if a0_1 ≥ 0 then (some (decide (a0_1 ≤ 7))) else (some false)) else (some false)) else (some false)) = some r := h
 clear h
 by_cases c2 : a0_0 ≥ 0
 ·rw [if_pos c2] at H
  have c2b0 : decide (0 ≤ a0_0) = true := decide_eq_true c2
  clear c2
  by_cases c3 : a0_0 ≤ 7
  ·rw [if_pos c3] at H
   have c3b0 : decide (a0_0 ≤ 7) = true := decide_eq_true c3
   clear c3
   by_cases c4 : a0_1 ≥ 0
   ·rw [if_pos c4] at H
    have c4b0 : decide (0 ≤ a0_1) = true := decide_eq_true c4
    clear c4
    obtain rfl := Option.some.inj H
    go_enter Try.func62, Try.ntmps62
    go_wp2_with (first | ((with_reducible refine gate_dst (N := 1) rfl ?_); refine box_event ?hg (N := 1) ?hd (cs := #[.int .i64 a0_0, .int .i64 a0_1]) (t := 36) ?hr ?_; (case hd => rfl); (case hg => rfl); (case hr => first | (go_simp; done) | (go_simp; rfl)); intro gb101 hg w5 hbox hb; have n0_ := Aside0.mk (below_step Q64 hb); have n1_ := Aside0.mk (hbox); have n2_ := Aside0.mk ((Q105 : w.heap.size ≤ gb101)); have n3_ := n2_; clear HB; have HB := n0_; have BK101 := n1_; have GW101 := n2_; have GE101 := n3_; clear n0_ n1_ n2_ n3_; clear hb hbox hg; have hcz6_0 : w5.cell? ⟨gb101, 0, none⟩ = some (.int .i64 a0_0) := (blk_cell BK101.out 0).trans rfl; have hcz6_1 : w5.cell? ⟨gb101, 1, none⟩ = some (.int .i64 a0_1) := (blk_cell BK101.out 1).trans rfl; have hfz6_0 := blk_frozen BK101.out 0; have hfz6_1 := blk_frozen BK101.out 1))
    go_ret
    exact ⟨Q12, Q66⟩
   ·rw [if_neg c4] at H
    have c4b0 : decide (0 ≤ a0_1) = false := decide_eq_false c4
    clear c4
    obtain rfl := Option.some.inj H
    go_enter Try.func62, Try.ntmps62
    go_wp2_with (first | ((with_reducible refine gate_dst (N := 1) rfl ?_); refine box_event ?hg (N := 1) ?hd (cs := #[.int .i64 a0_0, .int .i64 a0_1]) (t := 36) ?hr ?_; (case hd => rfl); (case hg => rfl); (case hr => first | (go_simp; done) | (go_simp; rfl)); intro gb101 hg w7 hbox hb; have n0_ := Aside0.mk (below_step Q64 hb); have n1_ := Aside0.mk (hbox); have n2_ := Aside0.mk ((Q105 : w.heap.size ≤ gb101)); have n3_ := n2_; clear HB; have HB := n0_; have BK101 := n1_; have GW101 := n2_; have GE101 := n3_; clear n0_ n1_ n2_ n3_; clear hb hbox hg; have hcz8_0 : w7.cell? ⟨gb101, 0, none⟩ = some (.int .i64 a0_0) := (blk_cell BK101.out 0).trans rfl; have hcz8_1 : w7.cell? ⟨gb101, 1, none⟩ = some (.int .i64 a0_1) := (blk_cell BK101.out 1).trans rfl; have hfz8_0 := blk_frozen BK101.out 0; have hfz8_1 := blk_frozen BK101.out 1))
    go_ret
    exact ⟨Q12, Q66⟩
  ·rw [if_neg c3] at H
   have c3b0 : decide (a0_0 ≤ 7) = false := decide_eq_false c3
   clear c3
   obtain rfl := Option.some.inj H
   go_enter Try.func62, Try.ntmps62
   go_wp2_with (first | ((with_reducible refine gate_dst (N := 1) rfl ?_); refine box_event ?hg (N := 1) ?hd (cs := #[.int .i64 a0_0, .int .i64 a0_1]) (t := 36) ?hr ?_; (case hd => rfl); (case hg => rfl); (case hr => first | (go_simp; done) | (go_simp; rfl)); intro gb101 hg w9 hbox hb; have n0_ := Aside0.mk (below_step Q64 hb); have n1_ := Aside0.mk (hbox); have n2_ := Aside0.mk ((Q105 : w.heap.size ≤ gb101)); have n3_ := n2_; clear HB; have HB := n0_; have BK101 := n1_; have GW101 := n2_; have GE101 := n3_; clear n0_ n1_ n2_ n3_; clear hb hbox hg; have hcz10_0 : w9.cell? ⟨gb101, 0, none⟩ = some (.int .i64 a0_0) := (blk_cell BK101.out 0).trans rfl; have hcz10_1 : w9.cell? ⟨gb101, 1, none⟩ = some (.int .i64 a0_1) := (blk_cell BK101.out 1).trans rfl; have hfz10_0 := blk_frozen BK101.out 0; have hfz10_1 := blk_frozen BK101.out 1))
   go_ret
   exact ⟨Q12, Q66⟩
 ·rw [if_neg c2] at H
  have c2b0 : decide (0 ≤ a0_0) = false := decide_eq_false c2
  clear c2
  obtain rfl := Option.some.inj H
  go_enter Try.func62, Try.ntmps62
  go_wp2_with (first | ((with_reducible refine gate_dst (N := 1) rfl ?_); refine box_event ?hg (N := 1) ?hd (cs := #[.int .i64 a0_0, .int .i64 a0_1]) (t := 36) ?hr ?_; (case hd => rfl); (case hg => rfl); (case hr => first | (go_simp; done) | (go_simp; rfl)); intro gb101 hg w11 hbox hb; have n0_ := Aside0.mk (below_step Q64 hb); have n1_ := Aside0.mk (hbox); have n2_ := Aside0.mk ((Q105 : w.heap.size ≤ gb101)); have n3_ := n2_; clear HB; have HB := n0_; have BK101 := n1_; have GW101 := n2_; have GE101 := n3_; clear n0_ n1_ n2_ n3_; clear hb hbox hg; have hcz12_0 : w11.cell? ⟨gb101, 0, none⟩ = some (.int .i64 a0_0) := (blk_cell BK101.out 0).trans rfl; have hcz12_1 : w11.cell? ⟨gb101, 1, none⟩ = some (.int .i64 a0_1) := (blk_cell BK101.out 1).trans rfl; have hfz12_0 := blk_frozen BK101.out 0; have hfz12_1 := blk_frozen BK101.out 1))
  go_ret
  exact ⟨Q12, Q66⟩
def impl_RowsOk.l0 : Nat → List (S38) → List (S38) → Int → Int → Option (Bool)
 | 0, _, _, _, _ => none
 | k + 1, x0, x5, x6, x7 => if x7 < x6 then (if 0 ≤ x7 then (if x7 < (x5.length : Int) then (if ((rd_T38 x5 x7).f0) < 0 then (some false) else (if ((rd_T38 x5 x7).f0) ≥ 4 then (some false) else (if ((rd_T38 x5 x7).f1) < 0 then (some false) else (if ((rd_T38 x5 x7).f1) ≥ 100 then (some false) else ((impl_TimeOk.f ((rd_T38 x5 x7).f2.f0) ((rd_T38 x5 x7).f2.f1)).bind fun t104 => (if t104 = true then (if ((rd_T38 x5 x7).f3) < (-99999) then (some false) else (if ((rd_T38 x5 x7).f3) > 99999 then (some false) else (impl_RowsOk.l0 k x0 x5 x6 (wrap64 (x7 + 1))))) else (some false))))))) else (none)) else (none)) else (some (decide ((x0.length : Int) ≤ 400)))
def impl_RowsOk.f (k : Nat) (l0 : List (S38)) : Option (Bool) := impl_RowsOk.l0 k l0 l0 (l0.length : Int) 0
theorem impl_RowsOk.mono_l : ∀ k, (∀ y0 y1 y2 y3, LeO (impl_RowsOk.l0 k y0 y1 y2 y3) (impl_RowsOk.l0 (k + 1) y0 y1 y2 y3))
 | 0 => fun _ _ _ _ r h => by simp [impl_RowsOk.l0] at h
 | k + 1 => by
  have ih0 := impl_RowsOk.mono_l k
  ·intro y0 y1 y2 y3
   unfold impl_RowsOk.l0
   repeat' first
   | (with_reducible exact ih0 _ _ _ _)
   | (with_reducible exact LeO.refl _)
   | (with_reducible exact LeO.none _)
   | (with_reducible refine LeO.ite ?_ ?_)
   | (with_reducible refine LeO.bind ?_ (fun _ => ?_))
   | exact ih0 _ _ _ _
   | exact LeO.none _
   | refine LeO.ite ?_ ?_
   | refine LeO.bind ?_ (fun _ => ?_)
theorem impl_RowsOk.mono : ∀ a0 k, LeO (impl_RowsOk.f k a0) (impl_RowsOk.f (k + 1) a0) := by
 intro a0 k
 have ih0 := impl_RowsOk.mono_l k
 unfold impl_RowsOk.f
 repeat' first
   | (with_reducible exact ih0 _ _ _ _)
   | (with_reducible exact LeO.refl _)
   | (with_reducible exact LeO.none _)
   | (with_reducible refine LeO.ite ?_ ?_)
   | (with_reducible refine LeO.bind ?_ (fun _ => ?_))
   | exact ih0 _ _ _ _
   | exact LeO.none _
   | refine LeO.ite ?_ ?_
   | refine LeO.bind ?_ (fun _ => ?_)
set_option maxHeartbeats 8000000 in
set_option maxRecDepth 100000 in
theorem impl_RowsOk.calls (k : Nat) (A0 : Option Addr) (c0 : Nat) (l0 : List (S38)) (r : Bool) (w : World) (hr0 : Kd.C k38 w A0 l0.length l0) (hc0 : l0.length ≤ c0) (h : impl_RowsOk.f k l0 = some r) :
  Calls Try.prog 39 #[.slice A0 l0.length c0] w fun e w' => e = .returned (.bool r) ∧ Below w.heap.size w w' := by
 have hu38 := Try.underlying38
 have hu36 := Try.underlying36
 have HR0 := Aside0.mk hr0
 have HC0 := Aside0.mk hc0
 clear hr0 hc0
 have HB := Aside0.mk (Below.refl w.heap.size w)
 have H : (impl_RowsOk.l0 k l0 l0 (l0.length : Int) 0) = some r := h
 clear h
 have H' := Aside0.mk H
 clear H
 go_enter Try.func39, Try.ntmps39
 go_wp2
 go_loopg [7] k (fun kq v7 w' => ∃ (x7_1 : Int), v7 = .int .i64 x7_1 ∧ Aside0 (impl_RowsOk.l0 kq l0 l0 (l0.length : Int) x7_1 = some r) ∧ Aside0 (kq ≤ k) ∧ Aside0 (Below w.heap.size w w'))
 case atStart => exact ⟨(0), Q4, H', ⟨Nat.le_refl _⟩, ⟨Q64⟩⟩
 case round =>
  clear H'
  obtain ⟨x7_1, rfl, HA, HK1, HB⟩ := hrel
  cases gk with
  | zero => exact absurd HA.out (by simp [impl_RowsOk.l0])
  | succ k1 =>
   have H := HA.out
   clear HA
   simp only [impl_RowsOk.l0] at H
   by_cases c2 : x7_1 < (l0.length : Int)
   ·rw [if_pos c2] at H
    have c2b0 : decide (x7_1 < (l0.length : Int)) = true := decide_eq_true c2
    clear c2
    by_cases c3 : 0 ≤ x7_1
    ·rw [if_pos c3] at H
     have c3b0 : decide (0 ≤ x7_1) = true := decide_eq_true c3
     clear c3
     by_cases c4 : x7_1 < (l0.length : Int)
     ·rw [if_pos c4] at H
      have c4b0 : decide (x7_1 < (l0.length : Int)) = true := decide_eq_true c4
      clear c4
      by_cases c5 : ((rd_T38 l0 x7_1).f0) < 0
      ·rw [if_pos c5] at H
       have c5b0 : decide (((rd_T38 l0 x7_1).f0) < 0) = true := decide_eq_true c5
       clear c5
       obtain rfl := Option.some.inj H
       have p102 : 0 ≤ (x7_1 : Int) := of_decide_eq_true Q5
       have q102 : x7_1 < (l0.length : Int) := of_decide_eq_true Q5
       obtain ⟨ad102, e102, hx102_0, hx102_1, hx102_2, hx102_3, hx102_4⟩ := at_T38 HR0.out x7_1 p102 q102
       cases e102
       replace hx102_0 := (HB.out.cell (World.block_lt_of_cell? w _ hx102_0)).trans hx102_0
       replace hx102_1 := (HB.out.cell (World.block_lt_of_cell? w _ hx102_1)).trans hx102_1
       replace hx102_2 := (HB.out.cell (World.block_lt_of_cell? w _ hx102_2)).trans hx102_2
       replace hx102_3 := (HB.out.cell (World.block_lt_of_cell? w _ hx102_3)).trans hx102_3
       replace hx102_4 := (HB.out.cell (World.block_lt_of_cell? w _ hx102_4)).trans hx102_4
       replace p102 := eq_true p102
       replace q102 := eq_true q102
       go_wp2_with (first | ((with_reducible refine gate_dst (N := 4) rfl ?_); refine box_event ?hg (N := 4) ?hd (cs := #[.int .i64 0, .int .i64 0, .int .i64 0, .int .i64 0, .int .i64 0]) (t := 38) ?hr ?_; (case hd => rfl); (case hg => rfl); (case hr => first | (go_simp; done) | (go_simp; rfl)); intro gb103 hg w6 hbox hb; have n0_ := Aside0.mk (below_step Q64 hb); have n1_ := Aside0.mk (hbox); have n2_ := Aside0.mk ((Q105 : w.heap.size ≤ gb103)); have n3_ := n2_; clear HB; have HB := n0_; have BK103 := n1_; have GW103 := n2_; have GE103 := n3_; clear n0_ n1_ n2_ n3_; clear hb hbox hg; have hcz7_0 : w6.cell? ⟨gb103, 0, none⟩ = some (.int .i64 0) := (blk_cell BK103.out 0).trans rfl; have hcz7_1 : w6.cell? ⟨gb103, 1, none⟩ = some (.int .i64 0) := (blk_cell BK103.out 1).trans rfl; have hcz7_2 : w6.cell? ⟨gb103, 2, none⟩ = some (.int .i64 0) := (blk_cell BK103.out 2).trans rfl; have hcz7_3 : w6.cell? ⟨gb103, 3, none⟩ = some (.int .i64 0) := (blk_cell BK103.out 3).trans rfl; have hcz7_4 : w6.cell? ⟨gb103, 4, none⟩ = some (.int .i64 0) := (blk_cell BK103.out 4).trans rfl; have hfz7_0 := blk_frozen BK103.out 0; have hfz7_1 := blk_frozen BK103.out 1; have hfz7_2 := blk_frozen BK103.out 2; have hfz7_3 := blk_frozen BK103.out 3; have hfz7_4 := blk_frozen BK103.out 4))
       go_ret
       exact ⟨Q12, Q67⟩
      ·rw [if_neg c5] at H
       have c5b0 : decide (((rd_T38 l0 x7_1).f0) < 0) = false := decide_eq_false c5
       clear c5
       by_cases c8 : ((rd_T38 l0 x7_1).f0) ≥ 4
       ·rw [if_pos c8] at H
        have c8b0 : decide (4 ≤ ((rd_T38 l0 x7_1).f0)) = true := decide_eq_true c8
        clear c8
        obtain rfl := Option.some.inj H
        have p102 : 0 ≤ (x7_1 : Int) := of_decide_eq_true Q5
        have q102 : x7_1 < (l0.length : Int) := of_decide_eq_true Q5
        obtain ⟨ad102, e102, hx102_0, hx102_1, hx102_2, hx102_3, hx102_4⟩ := at_T38 HR0.out x7_1 p102 q102
        cases e102
        replace hx102_0 := (HB.out.cell (World.block_lt_of_cell? w _ hx102_0)).trans hx102_0
        replace hx102_1 := (HB.out.cell (World.block_lt_of_cell? w _ hx102_1)).trans hx102_1
        replace hx102_2 := (HB.out.cell (World.block_lt_of_cell? w _ hx102_2)).trans hx102_2
        replace hx102_3 := (HB.out.cell (World.block_lt_of_cell? w _ hx102_3)).trans hx102_3
        replace hx102_4 := (HB.out.cell (World.block_lt_of_cell? w _ hx102_4)).trans hx102_4
        replace p102 := eq_true p102
        replace q102 := eq_true q102
        go_wp2_with (first | ((with_reducible refine gate_dst (N := 4) rfl ?_); refine box_event ?hg (N := 4) ?hd (cs := #[.int .i64 0, .int .i64 0, .int .i64 0, .int .i64 0, .int .i64 0]) (t := 38) ?hr ?_; (case hd => rfl); (case hg => rfl); (case hr => first | (go_simp; done) | (go_simp; rfl)); intro gb103 hg w9 hbox hb; have n0_ := Aside0.mk (below_step Q64 hb); have n1_ := Aside0.mk (hbox); have n2_ := Aside0.mk ((Q105 : w.heap.size ≤ gb103)); have n3_ := n2_; clear HB; have HB := n0_; have BK103 := n1_; have GW103 := n2_; have GE103 := n3_; clear n0_ n1_ n2_ n3_; clear hb hbox hg; have hcz10_0 : w9.cell? ⟨gb103, 0, none⟩ = some (.int .i64 0) := (blk_cell BK103.out 0).trans rfl; have hcz10_1 : w9.cell? ⟨gb103, 1, none⟩ = some (.int .i64 0) := (blk_cell BK103.out 1).trans rfl; have hcz10_2 : w9.cell? ⟨gb103, 2, none⟩ = some (.int .i64 0) := (blk_cell BK103.out 2).trans rfl; have hcz10_3 : w9.cell? ⟨gb103, 3, none⟩ = some (.int .i64 0) := (blk_cell BK103.out 3).trans rfl; have hcz10_4 : w9.cell? ⟨gb103, 4, none⟩ = some (.int .i64 0) := (blk_cell BK103.out 4).trans rfl; have hfz10_0 := blk_frozen BK103.out 0; have hfz10_1 := blk_frozen BK103.out 1; have hfz10_2 := blk_frozen BK103.out 2; have hfz10_3 := blk_frozen BK103.out 3; have hfz10_4 := blk_frozen BK103.out 4))
        go_ret
        exact ⟨Q12, Q67⟩
       ·rw [if_neg c8] at H
        have c8b0 : decide (4 ≤ ((rd_T38 l0 x7_1).f0)) = false := decide_eq_false c8
        clear c8
        by_cases c11 : ((rd_T38 l0 x7_1).f1) < 0
        ·rw [if_pos c11] at H
         have c11b0 : decide (((rd_T38 l0 x7_1).f1) < 0) = true := decide_eq_true c11
         clear c11
         obtain rfl := Option.some.inj H
         have p102 : 0 ≤ (x7_1 : Int) := of_decide_eq_true Q5
         have q102 : x7_1 < (l0.length : Int) := of_decide_eq_true Q5
         obtain ⟨ad102, e102, hx102_0, hx102_1, hx102_2, hx102_3, hx102_4⟩ := at_T38 HR0.out x7_1 p102 q102
         cases e102
         replace hx102_0 := (HB.out.cell (World.block_lt_of_cell? w _ hx102_0)).trans hx102_0
         replace hx102_1 := (HB.out.cell (World.block_lt_of_cell? w _ hx102_1)).trans hx102_1
         replace hx102_2 := (HB.out.cell (World.block_lt_of_cell? w _ hx102_2)).trans hx102_2
         replace hx102_3 := (HB.out.cell (World.block_lt_of_cell? w _ hx102_3)).trans hx102_3
         replace hx102_4 := (HB.out.cell (World.block_lt_of_cell? w _ hx102_4)).trans hx102_4
         replace p102 := eq_true p102
         replace q102 := eq_true q102
         go_wp2_with (first | ((with_reducible refine gate_dst (N := 4) rfl ?_); refine box_event ?hg (N := 4) ?hd (cs := #[.int .i64 0, .int .i64 0, .int .i64 0, .int .i64 0, .int .i64 0]) (t := 38) ?hr ?_; (case hd => rfl); (case hg => rfl); (case hr => first | (go_simp; done) | (go_simp; rfl)); intro gb103 hg w12 hbox hb; have n0_ := Aside0.mk (below_step Q64 hb); have n1_ := Aside0.mk (hbox); have n2_ := Aside0.mk ((Q105 : w.heap.size ≤ gb103)); have n3_ := n2_; clear HB; have HB := n0_; have BK103 := n1_; have GW103 := n2_; have GE103 := n3_; clear n0_ n1_ n2_ n3_; clear hb hbox hg; have hcz13_0 : w12.cell? ⟨gb103, 0, none⟩ = some (.int .i64 0) := (blk_cell BK103.out 0).trans rfl; have hcz13_1 : w12.cell? ⟨gb103, 1, none⟩ = some (.int .i64 0) := (blk_cell BK103.out 1).trans rfl; have hcz13_2 : w12.cell? ⟨gb103, 2, none⟩ = some (.int .i64 0) := (blk_cell BK103.out 2).trans rfl; have hcz13_3 : w12.cell? ⟨gb103, 3, none⟩ = some (.int .i64 0) := (blk_cell BK103.out 3).trans rfl; have hcz13_4 : w12.cell? ⟨gb103, 4, none⟩ = some (.int .i64 0) := (blk_cell BK103.out 4).trans rfl; have hfz13_0 := blk_frozen BK103.out 0; have hfz13_1 := blk_frozen BK103.out 1; have hfz13_2 := blk_frozen BK103.out 2; have hfz13_3 := blk_frozen BK103.out 3; have hfz13_4 := blk_frozen BK103.out 4))
         go_ret
         exact ⟨Q12, Q67⟩
        ·rw [if_neg c11] at H
         have c11b0 : decide (((rd_T38 l0 x7_1).f1) < 0) = false := decide_eq_false c11
         clear c11
         by_cases c14 : ((rd_T38 l0 x7_1).f1) ≥ 100
         ·rw [if_pos c14] at H
          have c14b0 : decide (100 ≤ ((rd_T38 l0 x7_1).f1)) = true := decide_eq_true c14
          clear c14
          obtain rfl := Option.some.inj H
          have p102 : 0 ≤ (x7_1 : Int) := of_decide_eq_true Q5
          have q102 : x7_1 < (l0.length : Int) := of_decide_eq_true Q5
          obtain ⟨ad102, e102, hx102_0, hx102_1, hx102_2, hx102_3, hx102_4⟩ := at_T38 HR0.out x7_1 p102 q102
          cases e102
          replace hx102_0 := (HB.out.cell (World.block_lt_of_cell? w _ hx102_0)).trans hx102_0
          replace hx102_1 := (HB.out.cell (World.block_lt_of_cell? w _ hx102_1)).trans hx102_1
          replace hx102_2 := (HB.out.cell (World.block_lt_of_cell? w _ hx102_2)).trans hx102_2
          replace hx102_3 := (HB.out.cell (World.block_lt_of_cell? w _ hx102_3)).trans hx102_3
          replace hx102_4 := (HB.out.cell (World.block_lt_of_cell? w _ hx102_4)).trans hx102_4
          replace p102 := eq_true p102
          replace q102 := eq_true q102
          go_wp2_with (first | ((with_reducible refine gate_dst (N := 4) rfl ?_); refine box_event ?hg (N := 4) ?hd (cs := #[.int .i64 0, .int .i64 0, .int .i64 0, .int .i64 0, .int .i64 0]) (t := 38) ?hr ?_; (case hd => rfl); (case hg => rfl); (case hr => first | (go_simp; done) | (go_simp; rfl)); intro gb103 hg w15 hbox hb; have n0_ := Aside0.mk (below_step Q64 hb); have n1_ := Aside0.mk (hbox); have n2_ := Aside0.mk ((Q105 : w.heap.size ≤ gb103)); have n3_ := n2_; clear HB; have HB := n0_; have BK103 := n1_; have GW103 := n2_; have GE103 := n3_; clear n0_ n1_ n2_ n3_; clear hb hbox hg; have hcz16_0 : w15.cell? ⟨gb103, 0, none⟩ = some (.int .i64 0) := (blk_cell BK103.out 0).trans rfl; have hcz16_1 : w15.cell? ⟨gb103, 1, none⟩ = some (.int .i64 0) := (blk_cell BK103.out 1).trans rfl; have hcz16_2 : w15.cell? ⟨gb103, 2, none⟩ = some (.int .i64 0) := (blk_cell BK103.out 2).trans rfl; have hcz16_3 : w15.cell? ⟨gb103, 3, none⟩ = some (.int .i64 0) := (blk_cell BK103.out 3).trans rfl; have hcz16_4 : w15.cell? ⟨gb103, 4, none⟩ = some (.int .i64 0) := (blk_cell BK103.out 4).trans rfl; have hfz16_0 := blk_frozen BK103.out 0; have hfz16_1 := blk_frozen BK103.out 1; have hfz16_2 := blk_frozen BK103.out 2; have hfz16_3 := blk_frozen BK103.out 3; have hfz16_4 := blk_frozen BK103.out 4))
          go_ret
          exact ⟨Q12, Q67⟩
         ·rw [if_neg c14] at H
          have c14b0 : decide (100 ≤ ((rd_T38 l0 x7_1).f1)) = false := decide_eq_false c14
          clear c14
          replace H := Option.bind_eq_some_iff.mp H
          obtain ⟨t104, A170, H⟩ := H
          replace H : (if t104 = true then (if ((rd_T38 l0 x7_1).f3) < (-99999) then (some false) else (if ((rd_T38 l0 x7_1).f3) > 99999 then (some false) else (impl_RowsOk.l0 k1 l0 l0 (l0.length : Int) (wrap64 (x7_1 + 1))))) else (some false)) = some r := H
          have A17 := Aside0.mk A170
          clear A170
          by_cases c18 : t104 = true
          ·subst c18
           have H1 : (if ((rd_T38 l0 x7_1).f3) < (-99999) then (some false) else (if ((rd_T38 l0 x7_1).f3) > 99999 then (some false) else (impl_RowsOk.l0 k1 l0 l0 (l0.length : Int) (wrap64 (x7_1 + 1))))) = some r := by rw [if_pos rfl] at H; exact H
           clear H
           have H := H1
           clear H1
           by_cases c19 : ((rd_T38 l0 x7_1).f3) < (-99999)
           ·rw [if_pos c19] at H
            have c19b0 : decide (((rd_T38 l0 x7_1).f3) < (-99999)) = true := decide_eq_true c19
            clear c19
            obtain rfl := Option.some.inj H
            have p102 : 0 ≤ (x7_1 : Int) := of_decide_eq_true Q5
            have q102 : x7_1 < (l0.length : Int) := of_decide_eq_true Q5
            obtain ⟨ad102, e102, hx102_0, hx102_1, hx102_2, hx102_3, hx102_4⟩ := at_T38 HR0.out x7_1 p102 q102
            cases e102
            replace hx102_0 := (HB.out.cell (World.block_lt_of_cell? w _ hx102_0)).trans hx102_0
            replace hx102_1 := (HB.out.cell (World.block_lt_of_cell? w _ hx102_1)).trans hx102_1
            replace hx102_2 := (HB.out.cell (World.block_lt_of_cell? w _ hx102_2)).trans hx102_2
            replace hx102_3 := (HB.out.cell (World.block_lt_of_cell? w _ hx102_3)).trans hx102_3
            replace hx102_4 := (HB.out.cell (World.block_lt_of_cell? w _ hx102_4)).trans hx102_4
            replace p102 := eq_true p102
            replace q102 := eq_true q102
            go_wp2_with (first | ((with_reducible refine gate_dst (N := 4) rfl ?_); refine box_event ?hg (N := 4) ?hd (cs := #[.int .i64 0, .int .i64 0, .int .i64 0, .int .i64 0, .int .i64 0]) (t := 38) ?hr ?_; (case hd => rfl); (case hg => rfl); (case hr => first | (go_simp; done) | (go_simp; rfl)); intro gb103 hg w20 hbox hb; have n0_ := Aside0.mk (below_step Q64 hb); have n1_ := Aside0.mk (hbox); have n2_ := Aside0.mk ((Q105 : w.heap.size ≤ gb103)); have n3_ := n2_; clear HB; have HB := n0_; have BK103 := n1_; have GW103 := n2_; have GE103 := n3_; clear n0_ n1_ n2_ n3_; clear hb hbox hg; have hcz21_0 : w20.cell? ⟨gb103, 0, none⟩ = some (.int .i64 0) := (blk_cell BK103.out 0).trans rfl; have hcz21_1 : w20.cell? ⟨gb103, 1, none⟩ = some (.int .i64 0) := (blk_cell BK103.out 1).trans rfl; have hcz21_2 : w20.cell? ⟨gb103, 2, none⟩ = some (.int .i64 0) := (blk_cell BK103.out 2).trans rfl; have hcz21_3 : w20.cell? ⟨gb103, 3, none⟩ = some (.int .i64 0) := (blk_cell BK103.out 3).trans rfl; have hcz21_4 : w20.cell? ⟨gb103, 4, none⟩ = some (.int .i64 0) := (blk_cell BK103.out 4).trans rfl; have hfz21_0 := blk_frozen BK103.out 0; have hfz21_1 := blk_frozen BK103.out 1; have hfz21_2 := blk_frozen BK103.out 2; have hfz21_3 := blk_frozen BK103.out 3; have hfz21_4 := blk_frozen BK103.out 4) | (go_at_call 62; (with_reducible refine (impl_TimeOk.calls ((rd_T38 l0 x7_1).f2.f0) ((rd_T38 l0 x7_1).f2.f1) true _ A17.out).mono ?_); rintro e w22 ⟨rfl, hb⟩; have n0_ := Aside0.mk (blk_below (g := gb103) (o := .cells #[.int .i64 ((rd_T38 l0 x7_1).f0), .int .i64 ((rd_T38 l0 x7_1).f1), .int .i64 ((rd_T38 l0 x7_1).f2.f0), .int .i64 ((rd_T38 l0 x7_1).f2.f1), .int .i64 ((rd_T38 l0 x7_1).f3)] 38 (0, 0)) Q103 hb); have n1_ := Aside0.mk (below_step Q67 hb); clear BK103; clear HB; have BK103 := n0_; have HB := n1_; clear n0_ n1_; (try clear hb); (try clear hb2); (try clear hk); (try clear hi); have hcz23_0 : w22.cell? ⟨gb103, 0, none⟩ = some (.int .i64 ((rd_T38 l0 x7_1).f0)) := (blk_cell BK103.out 0).trans rfl; have hcz23_1 : w22.cell? ⟨gb103, 1, none⟩ = some (.int .i64 ((rd_T38 l0 x7_1).f1)) := (blk_cell BK103.out 1).trans rfl; have hcz23_2 : w22.cell? ⟨gb103, 2, none⟩ = some (.int .i64 ((rd_T38 l0 x7_1).f2.f0)) := (blk_cell BK103.out 2).trans rfl; have hcz23_3 : w22.cell? ⟨gb103, 3, none⟩ = some (.int .i64 ((rd_T38 l0 x7_1).f2.f1)) := (blk_cell BK103.out 3).trans rfl; have hcz23_4 : w22.cell? ⟨gb103, 4, none⟩ = some (.int .i64 ((rd_T38 l0 x7_1).f3)) := (blk_cell BK103.out 4).trans rfl; have hfz23_0 := blk_frozen BK103.out 0; have hfz23_1 := blk_frozen BK103.out 1; have hfz23_2 := blk_frozen BK103.out 2; have hfz23_3 := blk_frozen BK103.out 3; have hfz23_4 := blk_frozen BK103.out 4))
            go_ret
            exact ⟨Q12, Q67⟩
           ·rw [if_neg c19] at H
            have c19b0 : decide (((rd_T38 l0 x7_1).f3) < (-99999)) = false := decide_eq_false c19
            clear c19
            by_cases c24 : ((rd_T38 l0 x7_1).f3) > 99999
            ·rw [if_pos c24] at H
             have c24b0 : decide (99999 < ((rd_T38 l0 x7_1).f3)) = true := decide_eq_true c24
             clear c24
             obtain rfl := Option.some.inj H
             have p102 : 0 ≤ (x7_1 : Int) := of_decide_eq_true Q5
             have q102 : x7_1 < (l0.length : Int) := of_decide_eq_true Q5
             obtain ⟨ad102, e102, hx102_0, hx102_1, hx102_2, hx102_3, hx102_4⟩ := at_T38 HR0.out x7_1 p102 q102
             cases e102
             replace hx102_0 := (HB.out.cell (World.block_lt_of_cell? w _ hx102_0)).trans hx102_0
             replace hx102_1 := (HB.out.cell (World.block_lt_of_cell? w _ hx102_1)).trans hx102_1
             replace hx102_2 := (HB.out.cell (World.block_lt_of_cell? w _ hx102_2)).trans hx102_2
             replace hx102_3 := (HB.out.cell (World.block_lt_of_cell? w _ hx102_3)).trans hx102_3
             replace hx102_4 := (HB.out.cell (World.block_lt_of_cell? w _ hx102_4)).trans hx102_4
             replace p102 := eq_true p102
             replace q102 := eq_true q102
             go_wp2_with (first | ((with_reducible refine gate_dst (N := 4) rfl ?_); refine box_event ?hg (N := 4) ?hd (cs := #[.int .i64 0, .int .i64 0, .int .i64 0, .int .i64 0, .int .i64 0]) (t := 38) ?hr ?_; (case hd => rfl); (case hg => rfl); (case hr => first | (go_simp; done) | (go_simp; rfl)); intro gb103 hg w25 hbox hb; have n0_ := Aside0.mk (below_step Q64 hb); have n1_ := Aside0.mk (hbox); have n2_ := Aside0.mk ((Q105 : w.heap.size ≤ gb103)); have n3_ := n2_; clear HB; have HB := n0_; have BK103 := n1_; have GW103 := n2_; have GE103 := n3_; clear n0_ n1_ n2_ n3_; clear hb hbox hg; have hcz26_0 : w25.cell? ⟨gb103, 0, none⟩ = some (.int .i64 0) := (blk_cell BK103.out 0).trans rfl; have hcz26_1 : w25.cell? ⟨gb103, 1, none⟩ = some (.int .i64 0) := (blk_cell BK103.out 1).trans rfl; have hcz26_2 : w25.cell? ⟨gb103, 2, none⟩ = some (.int .i64 0) := (blk_cell BK103.out 2).trans rfl; have hcz26_3 : w25.cell? ⟨gb103, 3, none⟩ = some (.int .i64 0) := (blk_cell BK103.out 3).trans rfl; have hcz26_4 : w25.cell? ⟨gb103, 4, none⟩ = some (.int .i64 0) := (blk_cell BK103.out 4).trans rfl; have hfz26_0 := blk_frozen BK103.out 0; have hfz26_1 := blk_frozen BK103.out 1; have hfz26_2 := blk_frozen BK103.out 2; have hfz26_3 := blk_frozen BK103.out 3; have hfz26_4 := blk_frozen BK103.out 4) | (go_at_call 62; (with_reducible refine (impl_TimeOk.calls ((rd_T38 l0 x7_1).f2.f0) ((rd_T38 l0 x7_1).f2.f1) true _ A17.out).mono ?_); rintro e w27 ⟨rfl, hb⟩; have n0_ := Aside0.mk (blk_below (g := gb103) (o := .cells #[.int .i64 ((rd_T38 l0 x7_1).f0), .int .i64 ((rd_T38 l0 x7_1).f1), .int .i64 ((rd_T38 l0 x7_1).f2.f0), .int .i64 ((rd_T38 l0 x7_1).f2.f1), .int .i64 ((rd_T38 l0 x7_1).f3)] 38 (0, 0)) Q103 hb); have n1_ := Aside0.mk (below_step Q67 hb); clear BK103; clear HB; have BK103 := n0_; have HB := n1_; clear n0_ n1_; (try clear hb); (try clear hb2); (try clear hk); (try clear hi); have hcz28_0 : w27.cell? ⟨gb103, 0, none⟩ = some (.int .i64 ((rd_T38 l0 x7_1).f0)) := (blk_cell BK103.out 0).trans rfl; have hcz28_1 : w27.cell? ⟨gb103, 1, none⟩ = some (.int .i64 ((rd_T38 l0 x7_1).f1)) := (blk_cell BK103.out 1).trans rfl; have hcz28_2 : w27.cell? ⟨gb103, 2, none⟩ = some (.int .i64 ((rd_T38 l0 x7_1).f2.f0)) := (blk_cell BK103.out 2).trans rfl; have hcz28_3 : w27.cell? ⟨gb103, 3, none⟩ = some (.int .i64 ((rd_T38 l0 x7_1).f2.f1)) := (blk_cell BK103.out 3).trans rfl; have hcz28_4 : w27.cell? ⟨gb103, 4, none⟩ = some (.int .i64 ((rd_T38 l0 x7_1).f3)) := (blk_cell BK103.out 4).trans rfl; have hfz28_0 := blk_frozen BK103.out 0; have hfz28_1 := blk_frozen BK103.out 1; have hfz28_2 := blk_frozen BK103.out 2; have hfz28_3 := blk_frozen BK103.out 3; have hfz28_4 := blk_frozen BK103.out 4))
             go_ret
             exact ⟨Q12, Q67⟩
            ·rw [if_neg c24] at H
             have c24b0 : decide (99999 < ((rd_T38 l0 x7_1).f3)) = false := decide_eq_false c24
             clear c24
             have H' := Aside0.mk H
             clear H
             have p102 : 0 ≤ (x7_1 : Int) := of_decide_eq_true Q5
             have q102 : x7_1 < (l0.length : Int) := of_decide_eq_true Q5
             obtain ⟨ad102, e102, hx102_0, hx102_1, hx102_2, hx102_3, hx102_4⟩ := at_T38 HR0.out x7_1 p102 q102
             cases e102
             replace hx102_0 := (HB.out.cell (World.block_lt_of_cell? w _ hx102_0)).trans hx102_0
             replace hx102_1 := (HB.out.cell (World.block_lt_of_cell? w _ hx102_1)).trans hx102_1
             replace hx102_2 := (HB.out.cell (World.block_lt_of_cell? w _ hx102_2)).trans hx102_2
             replace hx102_3 := (HB.out.cell (World.block_lt_of_cell? w _ hx102_3)).trans hx102_3
             replace hx102_4 := (HB.out.cell (World.block_lt_of_cell? w _ hx102_4)).trans hx102_4
             replace p102 := eq_true p102
             replace q102 := eq_true q102
             go_wp2_with (first | ((with_reducible refine gate_dst (N := 4) rfl ?_); refine box_event ?hg (N := 4) ?hd (cs := #[.int .i64 0, .int .i64 0, .int .i64 0, .int .i64 0, .int .i64 0]) (t := 38) ?hr ?_; (case hd => rfl); (case hg => rfl); (case hr => first | (go_simp; done) | (go_simp; rfl)); intro gb103 hg w29 hbox hb; have n0_ := Aside0.mk (below_step Q64 hb); have n1_ := Aside0.mk (hbox); have n2_ := Aside0.mk ((Q105 : w.heap.size ≤ gb103)); have n3_ := n2_; clear HB; have HB := n0_; have BK103 := n1_; have GW103 := n2_; have GE103 := n3_; clear n0_ n1_ n2_ n3_; clear hb hbox hg; have hcz30_0 : w29.cell? ⟨gb103, 0, none⟩ = some (.int .i64 0) := (blk_cell BK103.out 0).trans rfl; have hcz30_1 : w29.cell? ⟨gb103, 1, none⟩ = some (.int .i64 0) := (blk_cell BK103.out 1).trans rfl; have hcz30_2 : w29.cell? ⟨gb103, 2, none⟩ = some (.int .i64 0) := (blk_cell BK103.out 2).trans rfl; have hcz30_3 : w29.cell? ⟨gb103, 3, none⟩ = some (.int .i64 0) := (blk_cell BK103.out 3).trans rfl; have hcz30_4 : w29.cell? ⟨gb103, 4, none⟩ = some (.int .i64 0) := (blk_cell BK103.out 4).trans rfl; have hfz30_0 := blk_frozen BK103.out 0; have hfz30_1 := blk_frozen BK103.out 1; have hfz30_2 := blk_frozen BK103.out 2; have hfz30_3 := blk_frozen BK103.out 3; have hfz30_4 := blk_frozen BK103.out 4) | (go_at_call 62; (with_reducible refine (impl_TimeOk.calls ((rd_T38 l0 x7_1).f2.f0) ((rd_T38 l0 x7_1).f2.f1) true _ A17.out).mono ?_); rintro e w31 ⟨rfl, hb⟩; have n0_ := Aside0.mk (blk_below (g := gb103) (o := .cells #[.int .i64 ((rd_T38 l0 x7_1).f0), .int .i64 ((rd_T38 l0 x7_1).f1), .int .i64 ((rd_T38 l0 x7_1).f2.f0), .int .i64 ((rd_T38 l0 x7_1).f2.f1), .int .i64 ((rd_T38 l0 x7_1).f3)] 38 (0, 0)) Q103 hb); have n1_ := Aside0.mk (below_step Q67 hb); clear BK103; clear HB; have BK103 := n0_; have HB := n1_; clear n0_ n1_; (try clear hb); (try clear hb2); (try clear hk); (try clear hi); have hcz32_0 : w31.cell? ⟨gb103, 0, none⟩ = some (.int .i64 ((rd_T38 l0 x7_1).f0)) := (blk_cell BK103.out 0).trans rfl; have hcz32_1 : w31.cell? ⟨gb103, 1, none⟩ = some (.int .i64 ((rd_T38 l0 x7_1).f1)) := (blk_cell BK103.out 1).trans rfl; have hcz32_2 : w31.cell? ⟨gb103, 2, none⟩ = some (.int .i64 ((rd_T38 l0 x7_1).f2.f0)) := (blk_cell BK103.out 2).trans rfl; have hcz32_3 : w31.cell? ⟨gb103, 3, none⟩ = some (.int .i64 ((rd_T38 l0 x7_1).f2.f1)) := (blk_cell BK103.out 3).trans rfl; have hcz32_4 : w31.cell? ⟨gb103, 4, none⟩ = some (.int .i64 ((rd_T38 l0 x7_1).f3)) := (blk_cell BK103.out 4).trans rfl; have hfz32_0 := blk_frozen BK103.out 0; have hfz32_1 := blk_frozen BK103.out 1; have hfz32_2 := blk_frozen BK103.out 2; have hfz32_3 := blk_frozen BK103.out 3; have hfz32_4 := blk_frozen BK103.out 4))
             go_roundg k1
             case measure => have := HK1.out; omega
             case rel => exact ⟨(wrap64 (x7_1 + 1)), Q4, H', ⟨Q2⟩, ⟨Q67⟩⟩
          ·replace c18 := Bool.eq_false_iff.mpr c18
           subst c18
           have H1 : (some false) = some r := by rw [if_neg (show ¬ (false = true) by decide)] at H; exact H
           clear H
           have H := H1
           clear H1
           obtain rfl := Option.some.inj H
           have p102 : 0 ≤ (x7_1 : Int) := of_decide_eq_true Q5
           have q102 : x7_1 < (l0.length : Int) := of_decide_eq_true Q5
           obtain ⟨ad102, e102, hx102_0, hx102_1, hx102_2, hx102_3, hx102_4⟩ := at_T38 HR0.out x7_1 p102 q102
           cases e102
           replace hx102_0 := (HB.out.cell (World.block_lt_of_cell? w _ hx102_0)).trans hx102_0
           replace hx102_1 := (HB.out.cell (World.block_lt_of_cell? w _ hx102_1)).trans hx102_1
           replace hx102_2 := (HB.out.cell (World.block_lt_of_cell? w _ hx102_2)).trans hx102_2
           replace hx102_3 := (HB.out.cell (World.block_lt_of_cell? w _ hx102_3)).trans hx102_3
           replace hx102_4 := (HB.out.cell (World.block_lt_of_cell? w _ hx102_4)).trans hx102_4
           replace p102 := eq_true p102
           replace q102 := eq_true q102
           go_wp2_with (first | ((with_reducible refine gate_dst (N := 4) rfl ?_); refine box_event ?hg (N := 4) ?hd (cs := #[.int .i64 0, .int .i64 0, .int .i64 0, .int .i64 0, .int .i64 0]) (t := 38) ?hr ?_; (case hd => rfl); (case hg => rfl); (case hr => first | (go_simp; done) | (go_simp; rfl)); intro gb103 hg w33 hbox hb; have n0_ := Aside0.mk (below_step Q64 hb); have n1_ := Aside0.mk (hbox); have n2_ := Aside0.mk ((Q105 : w.heap.size ≤ gb103)); have n3_ := n2_; clear HB; have HB := n0_; have BK103 := n1_; have GW103 := n2_; have GE103 := n3_; clear n0_ n1_ n2_ n3_; clear hb hbox hg; have hcz34_0 : w33.cell? ⟨gb103, 0, none⟩ = some (.int .i64 0) := (blk_cell BK103.out 0).trans rfl; have hcz34_1 : w33.cell? ⟨gb103, 1, none⟩ = some (.int .i64 0) := (blk_cell BK103.out 1).trans rfl; have hcz34_2 : w33.cell? ⟨gb103, 2, none⟩ = some (.int .i64 0) := (blk_cell BK103.out 2).trans rfl; have hcz34_3 : w33.cell? ⟨gb103, 3, none⟩ = some (.int .i64 0) := (blk_cell BK103.out 3).trans rfl; have hcz34_4 : w33.cell? ⟨gb103, 4, none⟩ = some (.int .i64 0) := (blk_cell BK103.out 4).trans rfl; have hfz34_0 := blk_frozen BK103.out 0; have hfz34_1 := blk_frozen BK103.out 1; have hfz34_2 := blk_frozen BK103.out 2; have hfz34_3 := blk_frozen BK103.out 3; have hfz34_4 := blk_frozen BK103.out 4) | (go_at_call 62; (with_reducible refine (impl_TimeOk.calls ((rd_T38 l0 x7_1).f2.f0) ((rd_T38 l0 x7_1).f2.f1) false _ A17.out).mono ?_); rintro e w35 ⟨rfl, hb⟩; have n0_ := Aside0.mk (blk_below (g := gb103) (o := .cells #[.int .i64 ((rd_T38 l0 x7_1).f0), .int .i64 ((rd_T38 l0 x7_1).f1), .int .i64 ((rd_T38 l0 x7_1).f2.f0), .int .i64 ((rd_T38 l0 x7_1).f2.f1), .int .i64 ((rd_T38 l0 x7_1).f3)] 38 (0, 0)) Q103 hb); have n1_ := Aside0.mk (below_step Q67 hb); clear BK103; clear HB; have BK103 := n0_; have HB := n1_; clear n0_ n1_; (try clear hb); (try clear hb2); (try clear hk); (try clear hi)))
           go_ret
           exact ⟨Q12, Q67⟩
     ·rw [if_neg c4] at H
      exact absurd H (by simp)
    ·rw [if_neg c3] at H
     exact absurd H (by simp)
   ·rw [if_neg c2] at H
    have c2b0 : decide (x7_1 < (l0.length : Int)) = false := decide_eq_false c2
    clear c2
    obtain rfl := Option.some.inj H
    go_wp2
    go_ret
    exact ⟨Q12, Q64⟩
def impl_FrontOk.l0 : Nat → List (S36) → List (S36) → Int → Int → Option (Bool)
 | 0, _, _, _, _ => none
 | k + 1, x0, x5, x6, x7 => if x7 < x6 then (if 0 ≤ x7 then (if x7 < (x5.length : Int) then ((impl_TimeOk.f ((rd_T36 x5 x7).f0) ((rd_T36 x5 x7).f1)).bind fun t107 => (if t107 = true then (if x7 > 0 then (if 0 ≤ (wrap64 (x7 - 1)) then (if (wrap64 (x7 - 1)) < (x0.length : Int) then (if ((rd_T36 x0 (wrap64 (x7 - 1))).f0) ≥ ((rd_T36 x5 x7).f0) then (some false) else (if ((rd_T36 x0 (wrap64 (x7 - 1))).f1) ≤ ((rd_T36 x5 x7).f1) then (some false) else (impl_FrontOk.l0 k x0 x5 x6 (wrap64 (x7 + 1))))) else (none)) else (none)) else (impl_FrontOk.l0 k x0 x5 x6 (wrap64 (x7 + 1)))) else (some false))) else (none)) else (none)) else (some true)
def impl_FrontOk.f (k : Nat) (l0 : List (S36)) : Option (Bool) := impl_FrontOk.l0 k l0 l0 (l0.length : Int) 0
theorem impl_FrontOk.mono_l : ∀ k, (∀ y0 y1 y2 y3, LeO (impl_FrontOk.l0 k y0 y1 y2 y3) (impl_FrontOk.l0 (k + 1) y0 y1 y2 y3))
 | 0 => fun _ _ _ _ r h => by simp [impl_FrontOk.l0] at h
 | k + 1 => by
  have ih0 := impl_FrontOk.mono_l k
  ·intro y0 y1 y2 y3
   unfold impl_FrontOk.l0
   repeat' first
   | (with_reducible exact ih0 _ _ _ _)
   | (with_reducible exact LeO.refl _)
   | (with_reducible exact LeO.none _)
   | (with_reducible refine LeO.ite ?_ ?_)
   | (with_reducible refine LeO.bind ?_ (fun _ => ?_))
   | exact ih0 _ _ _ _
   | exact LeO.none _
   | refine LeO.ite ?_ ?_
   | refine LeO.bind ?_ (fun _ => ?_)
theorem impl_FrontOk.mono : ∀ a0 k, LeO (impl_FrontOk.f k a0) (impl_FrontOk.f (k + 1) a0) := by
 intro a0 k
 have ih0 := impl_FrontOk.mono_l k
 unfold impl_FrontOk.f
 repeat' first
   | (with_reducible exact ih0 _ _ _ _)
   | (with_reducible exact LeO.refl _)
   | (with_reducible exact LeO.none _)
   | (with_reducible refine LeO.ite ?_ ?_)
   | (with_reducible refine LeO.bind ?_ (fun _ => ?_))
   | exact ih0 _ _ _ _
   | exact LeO.none _
   | refine LeO.ite ?_ ?_
   | refine LeO.bind ?_ (fun _ => ?_)
def impl_FrontOk.T4 : Bool × List (List Nat × List Nat) := (true, [([], []), ([0], [0]), ([1], [1]), ([2, 1], [2]), ([3], [3]), ([4, 3], [3, 4]), ([5, 3, 3], [3, 5]), ([6], [6]), ([6], [6]), ([8, 6], [6, 8]), ([7, 9, 6], [6, 7, 9]), ([10, 6], [6, 10]), ([11, 6], [6, 11]), ([6], [6]), ([13, 6], [6, 13]), ([12, 14, 6], [6, 12, 14]), ([15, 6, 6], [6, 15]), ([16], [16]), ([16], [16]), ([18, 16], [16, 18]), ([17, 19, 16], [16, 17, 19]), ([20, 16], [16, 20]), ([21, 16], [16, 21]), ([16], [16]), ([23, 16], [16, 23]), ([22, 24, 16], [16, 22, 24]), ([16, 25, 6], [6, 16, 25]), ([6, 26, 3], [3, 6, 26]), ([3, 27], [3, 27])])
def impl_FrontOk.B4 : List Nat := [0, 1, 3, 7, 15, 31, 63, 127, 127, 383, 1023, 2047, 4095, 127, 8319, 32767, 65535, 131071, 131071, 393215, 1048575, 2097151, 4194303, 131071, 8519679, 33554431, 67108863, 134217727, 268435455]
theorem impl_FrontOk.tab4 : rtab .any (opsOf Try.f53 4) = impl_FrontOk.T4 := by kernel_rfl
theorem impl_FrontOk.bits4 : waitsOk impl_FrontOk.T4.2 impl_FrontOk.B4 = true := by kernel_rfl
set_option maxHeartbeats 8000000 in
set_option maxRecDepth 100000 in
theorem impl_FrontOk.calls (k : Nat) (A0 : Option Addr) (c0 : Nat) (l0 : List (S36)) (r : Bool) (w : World) (hr0 : Kd.C k36 w A0 l0.length l0) (hc0 : l0.length ≤ c0) (h : impl_FrontOk.f k l0 = some r) :
  Calls Try.prog 53 #[.slice A0 l0.length c0] w fun e w' => e = .returned (.bool r) ∧ Below w.heap.size w w' := by
 have hu36 := Try.underlying36
 have HR0 := Aside0.mk hr0
 have HC0 := Aside0.mk hc0
 clear hr0 hc0
 have HB := Aside0.mk (Below.refl w.heap.size w)
 have H : (impl_FrontOk.l0 k l0 l0 (l0.length : Int) 0) = some r := h
 clear h
 have H' := Aside0.mk H
 clear H
 go_enter Try.func53, Try.ntmps53
 go_wp2
 go_loopg [7] k (fun kq v7 w' => ∃ (x7_1 : Int), v7 = .int .i64 x7_1 ∧ Aside0 (impl_FrontOk.l0 kq l0 l0 (l0.length : Int) x7_1 = some r) ∧ Aside0 (kq ≤ k) ∧ Aside0 (Below w.heap.size w w'))
 case atStart => exact ⟨(0), Q4, H', ⟨Nat.le_refl _⟩, ⟨Q64⟩⟩
 case round =>
  clear H'
  obtain ⟨x7_1, rfl, HA, HK1, HB⟩ := hrel
  cases gk with
  | zero => exact absurd HA.out (by simp [impl_FrontOk.l0])
  | succ k1 =>
   have H := HA.out
   clear HA
   simp only [impl_FrontOk.l0] at H
   by_cases c2 : x7_1 < (l0.length : Int)
   ·rw [if_pos c2] at H
    have c2b0 : decide (x7_1 < (l0.length : Int)) = true := decide_eq_true c2
    clear c2
    by_cases c3 : 0 ≤ x7_1
    ·rw [if_pos c3] at H
     have c3b0 : decide (0 ≤ x7_1) = true := decide_eq_true c3
     clear c3
     by_cases c4 : x7_1 < (l0.length : Int)
     ·rw [if_pos c4] at H
      have c4b0 : decide (x7_1 < (l0.length : Int)) = true := decide_eq_true c4
      clear c4
      replace H := Option.bind_eq_some_iff.mp H
      obtain ⟨t107, A50, H⟩ := H
      replace H : (if t107 = true then (if x7_1 > 0 then (if 0 ≤ (wrap64 (x7_1 - 1)) then (if (wrap64 (x7_1 - 1)) < (l0.length : Int) then (if ((rd_T36 l0 (wrap64 (x7_1 - 1))).f0) ≥ ((rd_T36 l0 x7_1).f0) then (some false) else (if ((rd_T36 l0 (wrap64 (x7_1 - 1))).f1) ≤ ((rd_T36 l0 x7_1).f1) then (some false) else (impl_FrontOk.l0 k1 l0 l0 (l0.length : Int) (wrap64 (x7_1 + 1))))) else (none)) else (none)) else (impl_FrontOk.l0 k1 l0 l0 (l0.length : Int) (wrap64 (x7_1 + 1)))) else (some false)) = some r := H
      have A5 := Aside0.mk A50
      clear A50
      by_cases c6 : t107 = true
      ·subst c6
       have H1 : (if x7_1 > 0 then (if 0 ≤ (wrap64 (x7_1 - 1)) then (if (wrap64 (x7_1 - 1)) < (l0.length : Int) then (if ((rd_T36 l0 (wrap64 (x7_1 - 1))).f0) ≥ ((rd_T36 l0 x7_1).f0) then (some false) else (if ((rd_T36 l0 (wrap64 (x7_1 - 1))).f1) ≤ ((rd_T36 l0 x7_1).f1) then (some false) else (impl_FrontOk.l0 k1 l0 l0 (l0.length : Int) (wrap64 (x7_1 + 1))))) else (none)) else (none)) else (impl_FrontOk.l0 k1 l0 l0 (l0.length : Int) (wrap64 (x7_1 + 1)))) = some r := by rw [if_pos rfl] at H; exact H
       clear H
       have H := H1
       clear H1
       by_cases c7 : x7_1 > 0
       ·rw [if_pos c7] at H
        have c7b0 : decide (0 < x7_1) = true := decide_eq_true c7
        clear c7
        obtain ⟨ji8, hji8⟩ : ∃ j_ : Int, (wrap64 (x7_1 - 1)) = j_ := ⟨_, rfl⟩
        replace H : (if 0 ≤ (ji8) then (if (ji8) < (l0.length : Int) then (if ((rd_T36 l0 (ji8)).f0) ≥ ((rd_T36 l0 x7_1).f0) then (some false) else (if ((rd_T36 l0 (ji8)).f1) ≤ ((rd_T36 l0 x7_1).f1) then (some false) else (impl_FrontOk.l0 k1 l0 l0 (l0.length : Int) (wrap64 (x7_1 + 1))))) else (none)) else (none)) = some r := by first | (rw [hji8] at H; exact H) | (simp only [hji8] at H ⊢; exact H)
        (try rw [hji8] at A5)
        have hji8w : (IntKind.i64.wrap (x7_1 - 1)) = ji8 := (i64_w _).trans hji8
        by_cases c9 : 0 ≤ (ji8)
        ·rw [if_pos c9] at H
         have c9b0 : decide (0 ≤ (ji8)) = true := decide_eq_true c9
         clear c9
         by_cases c10 : (ji8) < (l0.length : Int)
         ·rw [if_pos c10] at H
          have c10b0 : decide ((ji8) < (l0.length : Int)) = true := decide_eq_true c10
          clear c10
          by_cases c11 : ((rd_T36 l0 (ji8)).f0) ≥ ((rd_T36 l0 x7_1).f0)
          ·rw [if_pos c11] at H
           have c11b0 : decide (((rd_T36 l0 x7_1).f0) ≤ ((rd_T36 l0 (ji8)).f0)) = true := decide_eq_true c11
           clear c11
           obtain rfl := Option.some.inj H
           have p105 : 0 ≤ (x7_1 : Int) := of_decide_eq_true Q5
           have q105 : x7_1 < (l0.length : Int) := of_decide_eq_true Q5
           obtain ⟨ad105, e105, hx105_0, hx105_1⟩ := at_T36 HR0.out x7_1 p105 q105
           cases e105
           replace hx105_0 := (HB.out.cell (World.block_lt_of_cell? w _ hx105_0)).trans hx105_0
           replace hx105_1 := (HB.out.cell (World.block_lt_of_cell? w _ hx105_1)).trans hx105_1
           replace p105 := eq_true p105
           replace q105 := eq_true q105
           try go_wp2_with (first | ((with_reducible refine gate_dst (N := 4) rfl ?_); refine box_event ?hg (N := 4) ?hd (cs := #[.int .i64 0, .int .i64 0]) (t := 36) ?hr ?_; (case hd => rfl); (case hg => rfl); (case hr => first | (go_simp; done) | (go_simp; rfl)); intro gb106 hg w12 hbox hb; have n0_ := Aside0.mk (below_step Q64 hb); have n1_ := Aside0.mk (hbox); have n2_ := Aside0.mk ((Q105 : w.heap.size ≤ gb106)); have n3_ := n2_; clear HB; have HB := n0_; have BK106 := n1_; have GW106 := n2_; have GE106 := n3_; clear n0_ n1_ n2_ n3_; clear hb hbox hg; have hcz13_0 : w12.cell? ⟨gb106, 0, none⟩ = some (.int .i64 0) := (blk_cell BK106.out 0).trans rfl; have hcz13_1 : w12.cell? ⟨gb106, 1, none⟩ = some (.int .i64 0) := (blk_cell BK106.out 1).trans rfl; have hfz13_0 := blk_frozen BK106.out 0; have hfz13_1 := blk_frozen BK106.out 1))
           have n0_ : Aside0 (((w12.setCell ⟨gb106, 0, none⟩ (.int .i64 ((rd_T36 l0 x7_1).f0))).setCell ⟨gb106, 1, none⟩ (.int .i64 ((rd_T36 l0 x7_1).f1))).heap[gb106]? = some (.cells #[.int .i64 ((rd_T36 l0 x7_1).f0), .int .i64 ((rd_T36 l0 x7_1).f1)] 36 (0, 0))) := ⟨Q102⟩
           have n1_ : Aside0 (Below w.heap.size w ((w12.setCell ⟨gb106, 0, none⟩ (.int .i64 ((rd_T36 l0 x7_1).f0))).setCell ⟨gb106, 1, none⟩ (.int .i64 ((rd_T36 l0 x7_1).f1)))) := ⟨Q68⟩
           (try clear BK106)
           (try clear HB)
           generalize ((w12.setCell ⟨gb106, 0, none⟩ (.int .i64 ((rd_T36 l0 x7_1).f0))).setCell ⟨gb106, 1, none⟩ (.int .i64 ((rd_T36 l0 x7_1).f1))) = w14 at n0_ n1_ ⊢
           have BK106 := n0_
           have HB := n1_
           clear n0_ n1_
           have n0_ := Aside0.mk (blk_drew BK106.out)
           have n1_ := Aside0.mk (below_drew1 HB.out)
           clear BK106
           clear HB
           have BK106 := n0_
           have HB := n1_
           clear n0_ n1_
           have p108 : 0 ≤ ((ji8) : Int) := of_decide_eq_true Q5
           have q108 : (ji8) < (l0.length : Int) := of_decide_eq_true Q5
           obtain ⟨ad108, e108, hx108_0, hx108_1⟩ := at_T36 HR0.out (ji8) p108 q108
           have hw108_1 := hx108_1
           have hw108_0 := hx108_0
           obtain rfl : ad105 = ad108 := (by injection e108)
           replace hx108_0 := (HB.out.cell (World.block_lt_of_cell? w _ hx108_0)).trans hx108_0
           replace hx108_1 := (HB.out.cell (World.block_lt_of_cell? w _ hx108_1)).trans hx108_1
           replace p108 := eq_true p108
           replace q108 := eq_true q108
           refine start_ (n := 29) (S := fun w' => w'.cell? ⟨gb106, 0, none⟩ = some (.int .i64 ((rd_T36 l0 x7_1).f0)) ∧ w'.cell? ⟨gb106, 1, none⟩ = some (.int .i64 ((rd_T36 l0 x7_1).f1)) ∧ w'.cell? (ad105.add (((ji8)).toNat * 2)) = some (.int .i64 ((rd_T36 l0 (ji8)).f0)) ∧ w'.cell? ⟨(ad105.add (((ji8)).toNat * 2)).block, (ad105.add (((ji8)).toNat * 2)).off + 1, none⟩ = some (.int .i64 ((rd_T36 l0 (ji8)).f1))) (ds := []) b29_0 Q1 rfl rfl ⟨(blk_cell BK106.out 0).trans rfl, (blk_cell BK106.out 1).trans rfl, ((HB.out.cell (World.block_lt_of_cell? w _ hw108_0)).trans hw108_0), ((HB.out.cell (World.block_lt_of_cell? w _ hw108_1)).trans hw108_1)⟩ (fun hHeld => ?_); refine with_tabW impl_FrontOk.tab4 impl_FrontOk.bits4 (fun HT_ HW_ => ?_)
           generalize w14.drew = w15 at BK106 HB hx108_0 hx108_1 hHeld ⊢
           refine tU_ 0 12 b29_1 hHeld ?_
           refine one_ (i := 1) (N := some 13) b29_2 rfl rfl (one_of HT_.out Q1) Q0 (fun K hK => ?_)
           refine goes_ Try.func62 Q1 rfl #[.agg #[.int .i64 ((rd_T36 l0 x7_1).f0), .int .i64 ((rd_T36 l0 x7_1).f1)]] (by rfl) rfl rfl Q65 ?_
           with_reducible refine (impl_TimeOk.calls ((rd_T36 l0 x7_1).f0) ((rd_T36 l0 x7_1).f1) true _ A5.out).mono ?_
           rintro e w16 ⟨rfl, hb⟩
           refine ⟨_, rfl, ?_⟩
           have n0_ := Aside0.mk (blk_below (g := gb106) (o := .cells #[.int .i64 ((rd_T36 l0 x7_1).f0), .int .i64 ((rd_T36 l0 x7_1).f1)] 36 (0, 0)) Q31 hb)
           have n1_ := Aside0.mk (below_step Q68 hb)
           clear BK106
           clear HB
           have BK106 := n0_
           have HB := n1_
           clear n0_ n1_
           (try clear hb)
           (try clear hb2)
           (try clear hk)
           (try clear hi)
           refine hK.out _ _ ⟨(blk_cell BK106.out 0).trans rfl, (blk_cell BK106.out 1).trans rfl, ((HB.out.cell (World.block_lt_of_cell? w _ hw108_0)).trans hw108_0), ((HB.out.cell (World.block_lt_of_cell? w _ hw108_1)).trans hw108_1)⟩ (fun hHeld => ?_)
           clear hK K
           refine norm_ (a' := ?_) ?_ ?_
           rotate_left
           ·show Act.put _ (some 13) _ = _
            simp only [Act.put, List.setIfInBounds_toArray, List.set_cons_zero, List.set_cons_succ, i64_w, i32_w]
            rfl
           refine pU_ 2 14 b29_3 ?_
           refine pU_ 3 15 b29_4 ?_
           refine pU_ 4 16 b29_5 ?_
           refine pU_ 5 17 b29_6 ?_
           refine pU_ 6 18 b29_7 ?_
           refine pU_ 7 19 b29_8 ?_
           refine pU_ 8 20 b29_9 ?_
           refine pU_ 9 21 b29_10 ?_
           refine pU_ 10 22 b29_11 ?_
           refine pU_ 11 23 b29_12 ?_
           refine pU_ 13 25 c13 ?_
           refine tU_ 12 24 b29_14 hHeld ?_
           refine tU_ 14 26 b29_15 hHeld ?_
           refine pU_ 15 27 b29_16 ?_
           refine pU_ 16 28 b29_17 ?_
           refine pV_ 17 29 b29_18 ?_
           refine pV_ 18 30 b29_19 ?_
           refine pV_ 19 31 b29_20 ?_
           refine pV_ 20 32 b29_21 ?_
           refine pV_ 21 33 b29_22 ?_
           refine pV_ 22 34 b29_23 ?_
           refine pV_ 23 35 b29_24 ?_
           refine pV_ 24 36 b29_25 ?_
           refine pV_ 25 37 b29_26 ?_
           refine pU_ 26 38 b29_27 ?_
           refine pU_ 27 39 b29_28 ?_
           refine pU_ 28 40 b29_29 ?_
           refine done_ (done_of HT_.out Q1) ?_
           try go_wp2
           go_ret
           exact ⟨by first | rfl | (simp [errW_none, errW_some] <;> rfl) | (simp only [← hji8]; first | rfl | (simp [errW_none, errW_some] <;> rfl)) | (simp [*, errW_none, errW_some] <;> rfl), Q68⟩
          ·rw [if_neg c11] at H
           have c11b0 : decide (((rd_T36 l0 x7_1).f0) ≤ ((rd_T36 l0 (ji8)).f0)) = false := decide_eq_false c11
           clear c11
           by_cases c17 : ((rd_T36 l0 (ji8)).f1) ≤ ((rd_T36 l0 x7_1).f1)
           ·rw [if_pos c17] at H
            have c17b0 : decide (((rd_T36 l0 (ji8)).f1) ≤ ((rd_T36 l0 x7_1).f1)) = true := decide_eq_true c17
            clear c17
            obtain rfl := Option.some.inj H
            have p105 : 0 ≤ (x7_1 : Int) := of_decide_eq_true Q5
            have q105 : x7_1 < (l0.length : Int) := of_decide_eq_true Q5
            obtain ⟨ad105, e105, hx105_0, hx105_1⟩ := at_T36 HR0.out x7_1 p105 q105
            cases e105
            replace hx105_0 := (HB.out.cell (World.block_lt_of_cell? w _ hx105_0)).trans hx105_0
            replace hx105_1 := (HB.out.cell (World.block_lt_of_cell? w _ hx105_1)).trans hx105_1
            replace p105 := eq_true p105
            replace q105 := eq_true q105
            try go_wp2_with (first | ((with_reducible refine gate_dst (N := 4) rfl ?_); refine box_event ?hg (N := 4) ?hd (cs := #[.int .i64 0, .int .i64 0]) (t := 36) ?hr ?_; (case hd => rfl); (case hg => rfl); (case hr => first | (go_simp; done) | (go_simp; rfl)); intro gb106 hg w18 hbox hb; have n0_ := Aside0.mk (below_step Q64 hb); have n1_ := Aside0.mk (hbox); have n2_ := Aside0.mk ((Q105 : w.heap.size ≤ gb106)); have n3_ := n2_; clear HB; have HB := n0_; have BK106 := n1_; have GW106 := n2_; have GE106 := n3_; clear n0_ n1_ n2_ n3_; clear hb hbox hg; have hcz19_0 : w18.cell? ⟨gb106, 0, none⟩ = some (.int .i64 0) := (blk_cell BK106.out 0).trans rfl; have hcz19_1 : w18.cell? ⟨gb106, 1, none⟩ = some (.int .i64 0) := (blk_cell BK106.out 1).trans rfl; have hfz19_0 := blk_frozen BK106.out 0; have hfz19_1 := blk_frozen BK106.out 1))
            have n0_ : Aside0 (((w18.setCell ⟨gb106, 0, none⟩ (.int .i64 ((rd_T36 l0 x7_1).f0))).setCell ⟨gb106, 1, none⟩ (.int .i64 ((rd_T36 l0 x7_1).f1))).heap[gb106]? = some (.cells #[.int .i64 ((rd_T36 l0 x7_1).f0), .int .i64 ((rd_T36 l0 x7_1).f1)] 36 (0, 0))) := ⟨Q102⟩
            have n1_ : Aside0 (Below w.heap.size w ((w18.setCell ⟨gb106, 0, none⟩ (.int .i64 ((rd_T36 l0 x7_1).f0))).setCell ⟨gb106, 1, none⟩ (.int .i64 ((rd_T36 l0 x7_1).f1)))) := ⟨Q68⟩
            (try clear BK106)
            (try clear HB)
            generalize ((w18.setCell ⟨gb106, 0, none⟩ (.int .i64 ((rd_T36 l0 x7_1).f0))).setCell ⟨gb106, 1, none⟩ (.int .i64 ((rd_T36 l0 x7_1).f1))) = w20 at n0_ n1_ ⊢
            have BK106 := n0_
            have HB := n1_
            clear n0_ n1_
            have n0_ := Aside0.mk (blk_drew BK106.out)
            have n1_ := Aside0.mk (below_drew1 HB.out)
            clear BK106
            clear HB
            have BK106 := n0_
            have HB := n1_
            clear n0_ n1_
            have p108 : 0 ≤ ((ji8) : Int) := of_decide_eq_true Q5
            have q108 : (ji8) < (l0.length : Int) := of_decide_eq_true Q5
            obtain ⟨ad108, e108, hx108_0, hx108_1⟩ := at_T36 HR0.out (ji8) p108 q108
            have hw108_1 := hx108_1
            have hw108_0 := hx108_0
            obtain rfl : ad105 = ad108 := (by injection e108)
            replace hx108_0 := (HB.out.cell (World.block_lt_of_cell? w _ hx108_0)).trans hx108_0
            replace hx108_1 := (HB.out.cell (World.block_lt_of_cell? w _ hx108_1)).trans hx108_1
            replace p108 := eq_true p108
            replace q108 := eq_true q108
            have p109 : 0 ≤ ((ji8) : Int) := of_decide_eq_true Q5
            have q109 : (ji8) < (l0.length : Int) := of_decide_eq_true Q5
            obtain ⟨ad109, e109, hx109_0, hx109_1⟩ := at_T36 HR0.out (ji8) p109 q109
            have hw109_1 := hx109_1
            have hw109_0 := hx109_0
            obtain rfl : ad105 = ad109 := (by injection e109)
            replace hx109_0 := (HB.out.cell (World.block_lt_of_cell? w _ hx109_0)).trans hx109_0
            replace hx109_1 := (HB.out.cell (World.block_lt_of_cell? w _ hx109_1)).trans hx109_1
            replace p109 := eq_true p109
            replace q109 := eq_true q109
            refine start_ (n := 29) (S := fun w' => w'.cell? ⟨gb106, 0, none⟩ = some (.int .i64 ((rd_T36 l0 x7_1).f0)) ∧ w'.cell? ⟨gb106, 1, none⟩ = some (.int .i64 ((rd_T36 l0 x7_1).f1)) ∧ w'.cell? (ad105.add (((ji8)).toNat * 2)) = some (.int .i64 ((rd_T36 l0 (ji8)).f0)) ∧ w'.cell? ⟨(ad105.add (((ji8)).toNat * 2)).block, (ad105.add (((ji8)).toNat * 2)).off + 1, none⟩ = some (.int .i64 ((rd_T36 l0 (ji8)).f1)) ∧ w'.cell? (ad105.add (((ji8)).toNat * 2)) = some (.int .i64 ((rd_T36 l0 (ji8)).f0)) ∧ w'.cell? ⟨(ad105.add (((ji8)).toNat * 2)).block, (ad105.add (((ji8)).toNat * 2)).off + 1, none⟩ = some (.int .i64 ((rd_T36 l0 (ji8)).f1))) (ds := []) b29_0 Q1 rfl rfl ⟨(blk_cell BK106.out 0).trans rfl, (blk_cell BK106.out 1).trans rfl, ((HB.out.cell (World.block_lt_of_cell? w _ hw108_0)).trans hw108_0), ((HB.out.cell (World.block_lt_of_cell? w _ hw108_1)).trans hw108_1), ((HB.out.cell (World.block_lt_of_cell? w _ hw109_0)).trans hw109_0), ((HB.out.cell (World.block_lt_of_cell? w _ hw109_1)).trans hw109_1)⟩ (fun hHeld => ?_); refine with_tabW impl_FrontOk.tab4 impl_FrontOk.bits4 (fun HT_ HW_ => ?_)
            generalize w20.drew = w21 at BK106 HB hx108_0 hx108_1 hx109_0 hx109_1 hHeld ⊢
            refine tU_ 0 12 b29_1 hHeld ?_
            refine one_ (i := 1) (N := some 13) b29_2 rfl rfl (one_of HT_.out Q1) Q0 (fun K hK => ?_)
            refine goes_ Try.func62 Q1 rfl #[.agg #[.int .i64 ((rd_T36 l0 x7_1).f0), .int .i64 ((rd_T36 l0 x7_1).f1)]] (by rfl) rfl rfl Q65 ?_
            with_reducible refine (impl_TimeOk.calls ((rd_T36 l0 x7_1).f0) ((rd_T36 l0 x7_1).f1) true _ A5.out).mono ?_
            rintro e w22 ⟨rfl, hb⟩
            refine ⟨_, rfl, ?_⟩
            have n0_ := Aside0.mk (blk_below (g := gb106) (o := .cells #[.int .i64 ((rd_T36 l0 x7_1).f0), .int .i64 ((rd_T36 l0 x7_1).f1)] 36 (0, 0)) Q31 hb)
            have n1_ := Aside0.mk (below_step Q68 hb)
            clear BK106
            clear HB
            have BK106 := n0_
            have HB := n1_
            clear n0_ n1_
            (try clear hb)
            (try clear hb2)
            (try clear hk)
            (try clear hi)
            refine hK.out _ _ ⟨(blk_cell BK106.out 0).trans rfl, (blk_cell BK106.out 1).trans rfl, ((HB.out.cell (World.block_lt_of_cell? w _ hw108_0)).trans hw108_0), ((HB.out.cell (World.block_lt_of_cell? w _ hw108_1)).trans hw108_1), ((HB.out.cell (World.block_lt_of_cell? w _ hw109_0)).trans hw109_0), ((HB.out.cell (World.block_lt_of_cell? w _ hw109_1)).trans hw109_1)⟩ (fun hHeld => ?_)
            clear hK K
            refine norm_ (a' := ?_) ?_ ?_
            rotate_left
            ·show Act.put _ (some 13) _ = _
             simp only [Act.put, List.setIfInBounds_toArray, List.set_cons_zero, List.set_cons_succ, i64_w, i32_w]
             rfl
            refine pU_ 2 14 b29_3 ?_
            refine pU_ 3 15 b29_4 ?_
            refine pU_ 4 16 b29_5 ?_
            refine pU_ 5 17 b29_6 ?_
            refine pU_ 6 18 b29_7 ?_
            refine pU_ 7 19 b29_8 ?_
            refine pU_ 8 20 b29_9 ?_
            refine pU_ 9 21 b29_10 ?_
            refine pU_ 10 22 b29_11 ?_
            refine pU_ 11 23 b29_12 ?_
            refine pU_ 13 25 c13 ?_
            refine tU_ 12 24 b29_14 hHeld ?_
            refine tU_ 14 26 b29_15 hHeld ?_
            refine pU_ 15 27 b29_16 ?_
            refine pU_ 16 28 b29_17 ?_
            refine pU_ 17 29 b29_18 ?_
            refine pU_ 18 30 b29_19 ?_
            refine pU_ 19 31 b29_20 ?_
            refine pU_ 20 32 b29_21 ?_
            refine pU_ 21 33 b29_22 ?_
            refine pU_ 23 35 c30 ?_
            refine tU_ 22 34 b29_24 hHeld ?_
            refine tU_ 24 36 b29_25 hHeld ?_
            refine pU_ 25 37 b29_26 ?_
            refine pU_ 26 38 b29_27 ?_
            refine pU_ 27 39 b29_28 ?_
            refine pU_ 28 40 b29_29 ?_
            refine done_ (done_of HT_.out Q1) ?_
            try go_wp2
            go_ret
            exact ⟨by first | rfl | (simp [errW_none, errW_some] <;> rfl) | (simp only [← hji8]; first | rfl | (simp [errW_none, errW_some] <;> rfl)) | (simp [*, errW_none, errW_some] <;> rfl), Q68⟩
           ·rw [if_neg c17] at H
            have c17b0 : decide (((rd_T36 l0 (ji8)).f1) ≤ ((rd_T36 l0 x7_1).f1)) = false := decide_eq_false c17
            clear c17
            have H' := Aside0.mk H
            clear H
            have p105 : 0 ≤ (x7_1 : Int) := of_decide_eq_true Q5
            have q105 : x7_1 < (l0.length : Int) := of_decide_eq_true Q5
            obtain ⟨ad105, e105, hx105_0, hx105_1⟩ := at_T36 HR0.out x7_1 p105 q105
            cases e105
            replace hx105_0 := (HB.out.cell (World.block_lt_of_cell? w _ hx105_0)).trans hx105_0
            replace hx105_1 := (HB.out.cell (World.block_lt_of_cell? w _ hx105_1)).trans hx105_1
            replace p105 := eq_true p105
            replace q105 := eq_true q105
            try go_wp2_with (first | ((with_reducible refine gate_dst (N := 4) rfl ?_); refine box_event ?hg (N := 4) ?hd (cs := #[.int .i64 0, .int .i64 0]) (t := 36) ?hr ?_; (case hd => rfl); (case hg => rfl); (case hr => first | (go_simp; done) | (go_simp; rfl)); intro gb106 hg w23 hbox hb; have n0_ := Aside0.mk (below_step Q64 hb); have n1_ := Aside0.mk (hbox); have n2_ := Aside0.mk ((Q105 : w.heap.size ≤ gb106)); have n3_ := n2_; clear HB; have HB := n0_; have BK106 := n1_; have GW106 := n2_; have GE106 := n3_; clear n0_ n1_ n2_ n3_; clear hb hbox hg; have hcz24_0 : w23.cell? ⟨gb106, 0, none⟩ = some (.int .i64 0) := (blk_cell BK106.out 0).trans rfl; have hcz24_1 : w23.cell? ⟨gb106, 1, none⟩ = some (.int .i64 0) := (blk_cell BK106.out 1).trans rfl; have hfz24_0 := blk_frozen BK106.out 0; have hfz24_1 := blk_frozen BK106.out 1))
            have n0_ : Aside0 (((w23.setCell ⟨gb106, 0, none⟩ (.int .i64 ((rd_T36 l0 x7_1).f0))).setCell ⟨gb106, 1, none⟩ (.int .i64 ((rd_T36 l0 x7_1).f1))).heap[gb106]? = some (.cells #[.int .i64 ((rd_T36 l0 x7_1).f0), .int .i64 ((rd_T36 l0 x7_1).f1)] 36 (0, 0))) := ⟨Q102⟩
            have n1_ : Aside0 (Below w.heap.size w ((w23.setCell ⟨gb106, 0, none⟩ (.int .i64 ((rd_T36 l0 x7_1).f0))).setCell ⟨gb106, 1, none⟩ (.int .i64 ((rd_T36 l0 x7_1).f1)))) := ⟨Q68⟩
            (try clear BK106)
            (try clear HB)
            generalize ((w23.setCell ⟨gb106, 0, none⟩ (.int .i64 ((rd_T36 l0 x7_1).f0))).setCell ⟨gb106, 1, none⟩ (.int .i64 ((rd_T36 l0 x7_1).f1))) = w25 at n0_ n1_ ⊢
            have BK106 := n0_
            have HB := n1_
            clear n0_ n1_
            have n0_ := Aside0.mk (blk_drew BK106.out)
            have n1_ := Aside0.mk (below_drew1 HB.out)
            clear BK106
            clear HB
            have BK106 := n0_
            have HB := n1_
            clear n0_ n1_
            have p108 : 0 ≤ ((ji8) : Int) := of_decide_eq_true Q5
            have q108 : (ji8) < (l0.length : Int) := of_decide_eq_true Q5
            obtain ⟨ad108, e108, hx108_0, hx108_1⟩ := at_T36 HR0.out (ji8) p108 q108
            have hw108_1 := hx108_1
            have hw108_0 := hx108_0
            obtain rfl : ad105 = ad108 := (by injection e108)
            replace hx108_0 := (HB.out.cell (World.block_lt_of_cell? w _ hx108_0)).trans hx108_0
            replace hx108_1 := (HB.out.cell (World.block_lt_of_cell? w _ hx108_1)).trans hx108_1
            replace p108 := eq_true p108
            replace q108 := eq_true q108
            have p109 : 0 ≤ ((ji8) : Int) := of_decide_eq_true Q5
            have q109 : (ji8) < (l0.length : Int) := of_decide_eq_true Q5
            obtain ⟨ad109, e109, hx109_0, hx109_1⟩ := at_T36 HR0.out (ji8) p109 q109
            have hw109_1 := hx109_1
            have hw109_0 := hx109_0
            obtain rfl : ad105 = ad109 := (by injection e109)
            replace hx109_0 := (HB.out.cell (World.block_lt_of_cell? w _ hx109_0)).trans hx109_0
            replace hx109_1 := (HB.out.cell (World.block_lt_of_cell? w _ hx109_1)).trans hx109_1
            replace p109 := eq_true p109
            replace q109 := eq_true q109
            refine start_ (n := 29) (S := fun w' => w'.cell? ⟨gb106, 0, none⟩ = some (.int .i64 ((rd_T36 l0 x7_1).f0)) ∧ w'.cell? ⟨gb106, 1, none⟩ = some (.int .i64 ((rd_T36 l0 x7_1).f1)) ∧ w'.cell? (ad105.add (((ji8)).toNat * 2)) = some (.int .i64 ((rd_T36 l0 (ji8)).f0)) ∧ w'.cell? ⟨(ad105.add (((ji8)).toNat * 2)).block, (ad105.add (((ji8)).toNat * 2)).off + 1, none⟩ = some (.int .i64 ((rd_T36 l0 (ji8)).f1)) ∧ w'.cell? (ad105.add (((ji8)).toNat * 2)) = some (.int .i64 ((rd_T36 l0 (ji8)).f0)) ∧ w'.cell? ⟨(ad105.add (((ji8)).toNat * 2)).block, (ad105.add (((ji8)).toNat * 2)).off + 1, none⟩ = some (.int .i64 ((rd_T36 l0 (ji8)).f1))) (ds := []) b29_0 Q1 rfl rfl ⟨(blk_cell BK106.out 0).trans rfl, (blk_cell BK106.out 1).trans rfl, ((HB.out.cell (World.block_lt_of_cell? w _ hw108_0)).trans hw108_0), ((HB.out.cell (World.block_lt_of_cell? w _ hw108_1)).trans hw108_1), ((HB.out.cell (World.block_lt_of_cell? w _ hw109_0)).trans hw109_0), ((HB.out.cell (World.block_lt_of_cell? w _ hw109_1)).trans hw109_1)⟩ (fun hHeld => ?_); refine with_tabW impl_FrontOk.tab4 impl_FrontOk.bits4 (fun HT_ HW_ => ?_)
            generalize w25.drew = w26 at BK106 HB hx108_0 hx108_1 hx109_0 hx109_1 hHeld ⊢
            refine tU_ 0 12 b29_1 hHeld ?_
            refine one_ (i := 1) (N := some 13) b29_2 rfl rfl (one_of HT_.out Q1) Q0 (fun K hK => ?_)
            refine goes_ Try.func62 Q1 rfl #[.agg #[.int .i64 ((rd_T36 l0 x7_1).f0), .int .i64 ((rd_T36 l0 x7_1).f1)]] (by rfl) rfl rfl Q65 ?_
            with_reducible refine (impl_TimeOk.calls ((rd_T36 l0 x7_1).f0) ((rd_T36 l0 x7_1).f1) true _ A5.out).mono ?_
            rintro e w27 ⟨rfl, hb⟩
            refine ⟨_, rfl, ?_⟩
            have n0_ := Aside0.mk (blk_below (g := gb106) (o := .cells #[.int .i64 ((rd_T36 l0 x7_1).f0), .int .i64 ((rd_T36 l0 x7_1).f1)] 36 (0, 0)) Q31 hb)
            have n1_ := Aside0.mk (below_step Q68 hb)
            clear BK106
            clear HB
            have BK106 := n0_
            have HB := n1_
            clear n0_ n1_
            (try clear hb)
            (try clear hb2)
            (try clear hk)
            (try clear hi)
            refine hK.out _ _ ⟨(blk_cell BK106.out 0).trans rfl, (blk_cell BK106.out 1).trans rfl, ((HB.out.cell (World.block_lt_of_cell? w _ hw108_0)).trans hw108_0), ((HB.out.cell (World.block_lt_of_cell? w _ hw108_1)).trans hw108_1), ((HB.out.cell (World.block_lt_of_cell? w _ hw109_0)).trans hw109_0), ((HB.out.cell (World.block_lt_of_cell? w _ hw109_1)).trans hw109_1)⟩ (fun hHeld => ?_)
            clear hK K
            refine norm_ (a' := ?_) ?_ ?_
            rotate_left
            ·show Act.put _ (some 13) _ = _
             simp only [Act.put, List.setIfInBounds_toArray, List.set_cons_zero, List.set_cons_succ, i64_w, i32_w]
             rfl
            refine pU_ 2 14 b29_3 ?_
            refine pU_ 3 15 b29_4 ?_
            refine pU_ 4 16 b29_5 ?_
            refine pU_ 5 17 b29_6 ?_
            refine pU_ 6 18 b29_7 ?_
            refine pU_ 7 19 b29_8 ?_
            refine pU_ 8 20 b29_9 ?_
            refine pU_ 9 21 b29_10 ?_
            refine pU_ 10 22 b29_11 ?_
            refine pU_ 11 23 b29_12 ?_
            refine pU_ 13 25 c13 ?_
            refine tU_ 12 24 b29_14 hHeld ?_
            refine tU_ 14 26 b29_15 hHeld ?_
            refine pU_ 15 27 b29_16 ?_
            refine pU_ 16 28 b29_17 ?_
            refine pU_ 17 29 b29_18 ?_
            refine pU_ 18 30 b29_19 ?_
            refine pU_ 19 31 b29_20 ?_
            refine pU_ 20 32 b29_21 ?_
            refine pU_ 21 33 b29_22 ?_
            refine pU_ 23 35 c30 ?_
            refine tU_ 22 34 b29_24 hHeld ?_
            refine tU_ 24 36 b29_25 hHeld ?_
            refine pU_ 25 37 b29_26 ?_
            refine pU_ 26 38 b29_27 ?_
            refine pU_ 27 39 b29_28 ?_
            refine pU_ 28 40 b29_29 ?_
            refine done_ (done_of HT_.out Q1) ?_
            try go_wp2
            go_roundg k1
            case measure => have := HK1.out; omega
            case rel => exact ⟨(wrap64 (x7_1 + 1)), Q4, H', ⟨Q2⟩, ⟨Q68⟩⟩
         ·rw [if_neg c10] at H
          exact absurd H (by simp)
        ·rw [if_neg c9] at H
         exact absurd H (by simp)
       ·rw [if_neg c7] at H
        have c7b0 : decide (0 < x7_1) = false := decide_eq_false c7
        clear c7
        have H' := Aside0.mk H
        clear H
        have p105 : 0 ≤ (x7_1 : Int) := of_decide_eq_true Q5
        have q105 : x7_1 < (l0.length : Int) := of_decide_eq_true Q5
        obtain ⟨ad105, e105, hx105_0, hx105_1⟩ := at_T36 HR0.out x7_1 p105 q105
        cases e105
        replace hx105_0 := (HB.out.cell (World.block_lt_of_cell? w _ hx105_0)).trans hx105_0
        replace hx105_1 := (HB.out.cell (World.block_lt_of_cell? w _ hx105_1)).trans hx105_1
        replace p105 := eq_true p105
        replace q105 := eq_true q105
        try go_wp2_with (first | ((with_reducible refine gate_dst (N := 4) rfl ?_); refine box_event ?hg (N := 4) ?hd (cs := #[.int .i64 0, .int .i64 0]) (t := 36) ?hr ?_; (case hd => rfl); (case hg => rfl); (case hr => first | (go_simp; done) | (go_simp; rfl)); intro gb106 hg w28 hbox hb; have n0_ := Aside0.mk (below_step Q64 hb); have n1_ := Aside0.mk (hbox); have n2_ := Aside0.mk ((Q105 : w.heap.size ≤ gb106)); have n3_ := n2_; clear HB; have HB := n0_; have BK106 := n1_; have GW106 := n2_; have GE106 := n3_; clear n0_ n1_ n2_ n3_; clear hb hbox hg; have hcz29_0 : w28.cell? ⟨gb106, 0, none⟩ = some (.int .i64 0) := (blk_cell BK106.out 0).trans rfl; have hcz29_1 : w28.cell? ⟨gb106, 1, none⟩ = some (.int .i64 0) := (blk_cell BK106.out 1).trans rfl; have hfz29_0 := blk_frozen BK106.out 0; have hfz29_1 := blk_frozen BK106.out 1))
        have n0_ : Aside0 (((w28.setCell ⟨gb106, 0, none⟩ (.int .i64 ((rd_T36 l0 x7_1).f0))).setCell ⟨gb106, 1, none⟩ (.int .i64 ((rd_T36 l0 x7_1).f1))).heap[gb106]? = some (.cells #[.int .i64 ((rd_T36 l0 x7_1).f0), .int .i64 ((rd_T36 l0 x7_1).f1)] 36 (0, 0))) := ⟨Q102⟩
        have n1_ : Aside0 (Below w.heap.size w ((w28.setCell ⟨gb106, 0, none⟩ (.int .i64 ((rd_T36 l0 x7_1).f0))).setCell ⟨gb106, 1, none⟩ (.int .i64 ((rd_T36 l0 x7_1).f1)))) := ⟨Q68⟩
        (try clear BK106)
        (try clear HB)
        generalize ((w28.setCell ⟨gb106, 0, none⟩ (.int .i64 ((rd_T36 l0 x7_1).f0))).setCell ⟨gb106, 1, none⟩ (.int .i64 ((rd_T36 l0 x7_1).f1))) = w30 at n0_ n1_ ⊢
        have BK106 := n0_
        have HB := n1_
        clear n0_ n1_
        have n0_ := Aside0.mk (blk_drew BK106.out)
        have n1_ := Aside0.mk (below_drew1 HB.out)
        clear BK106
        clear HB
        have BK106 := n0_
        have HB := n1_
        clear n0_ n1_
        refine start_ (n := 29) (S := fun w' => w'.cell? ⟨gb106, 0, none⟩ = some (.int .i64 ((rd_T36 l0 x7_1).f0)) ∧ w'.cell? ⟨gb106, 1, none⟩ = some (.int .i64 ((rd_T36 l0 x7_1).f1))) (ds := []) b29_0 Q1 rfl rfl ⟨(blk_cell BK106.out 0).trans rfl, (blk_cell BK106.out 1).trans rfl⟩ (fun hHeld => ?_); refine with_tabW impl_FrontOk.tab4 impl_FrontOk.bits4 (fun HT_ HW_ => ?_)
        generalize w30.drew = w31 at BK106 HB hHeld ⊢
        refine tU_ 0 12 b29_1 hHeld ?_
        refine one_ (i := 1) (N := some 13) b29_2 rfl rfl (one_of HT_.out Q1) Q0 (fun K hK => ?_)
        refine goes_ Try.func62 Q1 rfl #[.agg #[.int .i64 ((rd_T36 l0 x7_1).f0), .int .i64 ((rd_T36 l0 x7_1).f1)]] (by rfl) rfl rfl Q65 ?_
        with_reducible refine (impl_TimeOk.calls ((rd_T36 l0 x7_1).f0) ((rd_T36 l0 x7_1).f1) true _ A5.out).mono ?_
        rintro e w32 ⟨rfl, hb⟩
        refine ⟨_, rfl, ?_⟩
        have n0_ := Aside0.mk (blk_below (g := gb106) (o := .cells #[.int .i64 ((rd_T36 l0 x7_1).f0), .int .i64 ((rd_T36 l0 x7_1).f1)] 36 (0, 0)) Q31 hb)
        have n1_ := Aside0.mk (below_step Q68 hb)
        clear BK106
        clear HB
        have BK106 := n0_
        have HB := n1_
        clear n0_ n1_
        (try clear hb)
        (try clear hb2)
        (try clear hk)
        (try clear hi)
        refine hK.out _ _ ⟨(blk_cell BK106.out 0).trans rfl, (blk_cell BK106.out 1).trans rfl⟩ (fun hHeld => ?_)
        clear hK K
        refine norm_ (a' := ?_) ?_ ?_
        rotate_left
        ·show Act.put _ (some 13) _ = _
         simp only [Act.put, List.setIfInBounds_toArray, List.set_cons_zero, List.set_cons_succ, i64_w, i32_w]
         rfl
        refine pU_ 2 14 b29_3 ?_
        refine pU_ 3 15 b29_4 ?_
        refine pU_ 4 16 b29_5 ?_
        refine pU_ 5 17 b29_6 ?_
        refine pU_ 6 18 b29_7 ?_
        refine pV_ 7 19 b29_8 ?_
        refine pV_ 8 20 b29_9 ?_
        refine pV_ 9 21 b29_10 ?_
        refine pV_ 10 22 b29_11 ?_
        refine pV_ 11 23 b29_12 ?_
        refine pV_ 12 24 b29_13 ?_
        refine pV_ 13 25 b29_14 ?_
        refine pV_ 14 26 b29_15 ?_
        refine pV_ 15 27 b29_16 ?_
        refine pV_ 16 28 b29_17 ?_
        refine pV_ 17 29 b29_18 ?_
        refine pV_ 18 30 b29_19 ?_
        refine pV_ 19 31 b29_20 ?_
        refine pV_ 20 32 b29_21 ?_
        refine pV_ 21 33 b29_22 ?_
        refine pV_ 22 34 b29_23 ?_
        refine pV_ 23 35 b29_24 ?_
        refine pV_ 24 36 b29_25 ?_
        refine pV_ 25 37 b29_26 ?_
        refine pV_ 26 38 b29_27 ?_
        refine pU_ 27 39 b29_28 ?_
        refine pU_ 28 40 b29_29 ?_
        refine done_ (done_of HT_.out Q1) ?_
        try go_wp2
        go_roundg k1
        case measure => have := HK1.out; omega
        case rel => exact ⟨(wrap64 (x7_1 + 1)), Q4, H', ⟨Q2⟩, ⟨Q68⟩⟩
      ·replace c6 := Bool.eq_false_iff.mpr c6
       subst c6
       have H1 : (some false) = some r := by rw [if_neg (show ¬ (false = true) by decide)] at H; exact H
       clear H
       have H := H1
       clear H1
       obtain rfl := Option.some.inj H
       have p105 : 0 ≤ (x7_1 : Int) := of_decide_eq_true Q5
       have q105 : x7_1 < (l0.length : Int) := of_decide_eq_true Q5
       obtain ⟨ad105, e105, hx105_0, hx105_1⟩ := at_T36 HR0.out x7_1 p105 q105
       cases e105
       replace hx105_0 := (HB.out.cell (World.block_lt_of_cell? w _ hx105_0)).trans hx105_0
       replace hx105_1 := (HB.out.cell (World.block_lt_of_cell? w _ hx105_1)).trans hx105_1
       replace p105 := eq_true p105
       replace q105 := eq_true q105
       try go_wp2_with (first | ((with_reducible refine gate_dst (N := 4) rfl ?_); refine box_event ?hg (N := 4) ?hd (cs := #[.int .i64 0, .int .i64 0]) (t := 36) ?hr ?_; (case hd => rfl); (case hg => rfl); (case hr => first | (go_simp; done) | (go_simp; rfl)); intro gb106 hg w33 hbox hb; have n0_ := Aside0.mk (below_step Q64 hb); have n1_ := Aside0.mk (hbox); have n2_ := Aside0.mk ((Q105 : w.heap.size ≤ gb106)); have n3_ := n2_; clear HB; have HB := n0_; have BK106 := n1_; have GW106 := n2_; have GE106 := n3_; clear n0_ n1_ n2_ n3_; clear hb hbox hg; have hcz34_0 : w33.cell? ⟨gb106, 0, none⟩ = some (.int .i64 0) := (blk_cell BK106.out 0).trans rfl; have hcz34_1 : w33.cell? ⟨gb106, 1, none⟩ = some (.int .i64 0) := (blk_cell BK106.out 1).trans rfl; have hfz34_0 := blk_frozen BK106.out 0; have hfz34_1 := blk_frozen BK106.out 1))
       have n0_ : Aside0 (((w33.setCell ⟨gb106, 0, none⟩ (.int .i64 ((rd_T36 l0 x7_1).f0))).setCell ⟨gb106, 1, none⟩ (.int .i64 ((rd_T36 l0 x7_1).f1))).heap[gb106]? = some (.cells #[.int .i64 ((rd_T36 l0 x7_1).f0), .int .i64 ((rd_T36 l0 x7_1).f1)] 36 (0, 0))) := ⟨Q102⟩
       have n1_ : Aside0 (Below w.heap.size w ((w33.setCell ⟨gb106, 0, none⟩ (.int .i64 ((rd_T36 l0 x7_1).f0))).setCell ⟨gb106, 1, none⟩ (.int .i64 ((rd_T36 l0 x7_1).f1)))) := ⟨Q68⟩
       (try clear BK106)
       (try clear HB)
       generalize ((w33.setCell ⟨gb106, 0, none⟩ (.int .i64 ((rd_T36 l0 x7_1).f0))).setCell ⟨gb106, 1, none⟩ (.int .i64 ((rd_T36 l0 x7_1).f1))) = w35 at n0_ n1_ ⊢
       have BK106 := n0_
       have HB := n1_
       clear n0_ n1_
       have n0_ := Aside0.mk (blk_drew BK106.out)
       have n1_ := Aside0.mk (below_drew1 HB.out)
       clear BK106
       clear HB
       have BK106 := n0_
       have HB := n1_
       clear n0_ n1_
       refine start_ (n := 29) (S := fun w' => w'.cell? ⟨gb106, 0, none⟩ = some (.int .i64 ((rd_T36 l0 x7_1).f0)) ∧ w'.cell? ⟨gb106, 1, none⟩ = some (.int .i64 ((rd_T36 l0 x7_1).f1))) (ds := []) b29_0 Q1 rfl rfl ⟨(blk_cell BK106.out 0).trans rfl, (blk_cell BK106.out 1).trans rfl⟩ (fun hHeld => ?_); refine with_tabW impl_FrontOk.tab4 impl_FrontOk.bits4 (fun HT_ HW_ => ?_)
       generalize w35.drew = w36 at BK106 HB hHeld ⊢
       refine tU_ 0 12 b29_1 hHeld ?_
       refine one_ (i := 1) (N := some 13) b29_2 rfl rfl (one_of HT_.out Q1) Q0 (fun K hK => ?_)
       refine goes_ Try.func62 Q1 rfl #[.agg #[.int .i64 ((rd_T36 l0 x7_1).f0), .int .i64 ((rd_T36 l0 x7_1).f1)]] (by rfl) rfl rfl Q65 ?_
       with_reducible refine (impl_TimeOk.calls ((rd_T36 l0 x7_1).f0) ((rd_T36 l0 x7_1).f1) false _ A5.out).mono ?_
       rintro e w37 ⟨rfl, hb⟩
       refine ⟨_, rfl, ?_⟩
       have n0_ := Aside0.mk (blk_below (g := gb106) (o := .cells #[.int .i64 ((rd_T36 l0 x7_1).f0), .int .i64 ((rd_T36 l0 x7_1).f1)] 36 (0, 0)) Q31 hb)
       have n1_ := Aside0.mk (below_step Q68 hb)
       clear BK106
       clear HB
       have BK106 := n0_
       have HB := n1_
       clear n0_ n1_
       (try clear hb)
       (try clear hb2)
       (try clear hk)
       (try clear hi)
       refine hK.out _ _ ⟨(blk_cell BK106.out 0).trans rfl, (blk_cell BK106.out 1).trans rfl⟩ (fun hHeld => ?_)
       clear hK K
       refine norm_ (a' := ?_) ?_ ?_
       rotate_left
       ·show Act.put _ (some 13) _ = _
        simp only [Act.put, List.setIfInBounds_toArray, List.set_cons_zero, List.set_cons_succ, i64_w, i32_w]
        rfl
       refine pU_ 2 14 b29_3 ?_
       refine pU_ 3 15 b29_4 ?_
       refine pV_ 4 16 b29_5 ?_
       refine pV_ 5 17 b29_6 ?_
       refine pV_ 6 18 b29_7 ?_
       refine pV_ 7 19 b29_8 ?_
       refine pV_ 8 20 b29_9 ?_
       refine pV_ 9 21 b29_10 ?_
       refine pV_ 10 22 b29_11 ?_
       refine pV_ 11 23 b29_12 ?_
       refine pV_ 12 24 b29_13 ?_
       refine pV_ 13 25 b29_14 ?_
       refine pV_ 14 26 b29_15 ?_
       refine pV_ 15 27 b29_16 ?_
       refine pV_ 16 28 b29_17 ?_
       refine pV_ 17 29 b29_18 ?_
       refine pV_ 18 30 b29_19 ?_
       refine pV_ 19 31 b29_20 ?_
       refine pV_ 20 32 b29_21 ?_
       refine pV_ 21 33 b29_22 ?_
       refine pV_ 22 34 b29_23 ?_
       refine pV_ 23 35 b29_24 ?_
       refine pV_ 24 36 b29_25 ?_
       refine pV_ 25 37 b29_26 ?_
       refine pV_ 26 38 b29_27 ?_
       refine pV_ 27 39 b29_28 ?_
       refine pU_ 28 40 b29_29 ?_
       refine done_ (done_of HT_.out Q1) ?_
       try go_wp2
       go_ret
       exact ⟨Q12, Q68⟩
     ·rw [if_neg c4] at H
      exact absurd H (by simp)
    ·rw [if_neg c3] at H
     exact absurd H (by simp)
   ·rw [if_neg c2] at H
    have c2b0 : decide (x7_1 < (l0.length : Int)) = false := decide_eq_false c2
    clear c2
    obtain rfl := Option.some.inj H
    go_wp2
    go_ret
    exact ⟨Q12, Q64⟩
def impl_ahead.f (a0_0 : Int) (a0_1 : Int) (a1_0 : Int) (a1_1 : Int) : Option (Bool) := if a0_0 < a1_0 then (some true) else (if a0_0 = a1_0 then (some (decide (a0_1 < a1_1))) else (some false))
set_option maxHeartbeats 8000000 in
set_option maxRecDepth 100000 in
theorem impl_ahead.calls (a0_0 : Int) (a0_1 : Int) (a1_0 : Int) (a1_1 : Int) (r : Bool) (w : World) (h : impl_ahead.f a0_0 a0_1 a1_0 a1_1 = some r) :
  Calls Try.prog 91 #[.agg #[.int .i64 a0_0, .int .i64 a0_1], .agg #[.int .i64 a1_0, .int .i64 a1_1]] w fun e w' => e = .returned (.bool r) ∧ Below w.heap.size w w' := by
 have hu36 := Try.underlying36
 have HB := Aside0.mk (Below.refl w.heap.size w)
 have H : (if a0_0 < a1_0 then (some true) else (if a0_0 = a1_0 then (some (decide (a0_1 < a1_1))) else (some false))) = some r := h
 clear h
 by_cases c3 : a0_0 < a1_0
 ·rw [if_pos c3] at H
  have c3b0 : decide (a0_0 < a1_0) = true := decide_eq_true c3
  clear c3
  obtain rfl := Option.some.inj H
  go_enter Try.func91, Try.ntmps91
  go_wp2_with (first | ((with_reducible refine gate_dst (N := 2) rfl ?_); refine box_event ?hg (N := 2) ?hd (cs := #[.int .i64 a0_0, .int .i64 a0_1]) (t := 36) ?hr ?_; (case hd => rfl); (case hg => rfl); (case hr => first | (go_simp; done) | (go_simp; rfl)); intro gb110 hg w4 hbox hb; have n0_ := Aside0.mk (below_step Q64 hb); have n1_ := Aside0.mk (hbox); have n2_ := Aside0.mk ((Q105 : w.heap.size ≤ gb110)); have n3_ := n2_; clear HB; have HB := n0_; have BK110 := n1_; have GW110 := n2_; have GE110 := n3_; clear n0_ n1_ n2_ n3_; clear hb hbox hg) | ((with_reducible refine gate_dst (N := 3) rfl ?_); refine box_event ?hg (N := 3) ?hd (cs := #[.int .i64 a1_0, .int .i64 a1_1]) (t := 36) ?hr ?_; (case hd => rfl); (case hg => rfl); (case hr => first | (go_simp; done) | (go_simp; rfl)); intro gb111 hg w5 hbox hb; have n0_ := Aside0.mk (blk_below (g := gb110) (o := .cells #[.int .i64 a0_0, .int .i64 a0_1] 36 (0, 0)) Q32 hb); have n1_ := Aside0.mk (below_step Q69 hb); have n2_ := Aside0.mk (hbox); have n3_ := Aside0.mk ((by rw [hg]; exact (below_size Q69) : w.heap.size ≤ gb111)); have n4_ := n3_; have n5_ := Aside0.mk ((Q108 : gb110 ≠ gb111)); have n6_ := Aside0.mk ((Q109 : gb111 ≠ gb110)); clear BK110; clear HB; have BK110 := n0_; have HB := n1_; have BK111 := n2_; have GW111 := n3_; have GE111 := n4_; have NB110_111 := n5_; have NB111_110 := n6_; clear n0_ n1_ n2_ n3_ n4_ n5_ n6_; clear hb hbox hg; have hnb6 := NB110_111.out; have hnc6 := NB111_110.out; have hcz7_0 : w5.cell? ⟨gb110, 0, none⟩ = some (.int .i64 a0_0) := (blk_cell BK110.out 0).trans rfl; have hcz7_1 : w5.cell? ⟨gb110, 1, none⟩ = some (.int .i64 a0_1) := (blk_cell BK110.out 1).trans rfl; have hfz7_0 := blk_frozen BK110.out 0; have hfz7_1 := blk_frozen BK110.out 1; have hcz8_0 : w5.cell? ⟨gb111, 0, none⟩ = some (.int .i64 a1_0) := (blk_cell BK111.out 0).trans rfl; have hcz8_1 : w5.cell? ⟨gb111, 1, none⟩ = some (.int .i64 a1_1) := (blk_cell BK111.out 1).trans rfl; have hfz8_0 := blk_frozen BK111.out 0; have hfz8_1 := blk_frozen BK111.out 1))
  go_ret
  exact ⟨Q12, Q84⟩
 ·rw [if_neg c3] at H
  have c3b0 : decide (a0_0 < a1_0) = false := decide_eq_false c3
  clear c3
  by_cases c9 : a0_0 = a1_0
  ·rw [if_pos c9] at H
   have c9b0 : (a0_0 == a1_0) = true := beq_iff_eq.mpr c9
   have c9b1 : (a0_0 != a1_0) = false := bne_eq_false_iff_eq.mpr c9
   clear c9
   obtain rfl := Option.some.inj H
   go_enter Try.func91, Try.ntmps91
   go_wp2_with (first | ((with_reducible refine gate_dst (N := 2) rfl ?_); refine box_event ?hg (N := 2) ?hd (cs := #[.int .i64 a0_0, .int .i64 a0_1]) (t := 36) ?hr ?_; (case hd => rfl); (case hg => rfl); (case hr => first | (go_simp; done) | (go_simp; rfl)); intro gb110 hg w10 hbox hb; have n0_ := Aside0.mk (below_step Q64 hb); have n1_ := Aside0.mk (hbox); have n2_ := Aside0.mk ((Q105 : w.heap.size ≤ gb110)); have n3_ := n2_; clear HB; have HB := n0_; have BK110 := n1_; have GW110 := n2_; have GE110 := n3_; clear n0_ n1_ n2_ n3_; clear hb hbox hg) | ((with_reducible refine gate_dst (N := 3) rfl ?_); refine box_event ?hg (N := 3) ?hd (cs := #[.int .i64 a1_0, .int .i64 a1_1]) (t := 36) ?hr ?_; (case hd => rfl); (case hg => rfl); (case hr => first | (go_simp; done) | (go_simp; rfl)); intro gb111 hg w11 hbox hb; have n0_ := Aside0.mk (blk_below (g := gb110) (o := .cells #[.int .i64 a0_0, .int .i64 a0_1] 36 (0, 0)) Q32 hb); have n1_ := Aside0.mk (below_step Q69 hb); have n2_ := Aside0.mk (hbox); have n3_ := Aside0.mk ((by rw [hg]; exact (below_size Q69) : w.heap.size ≤ gb111)); have n4_ := n3_; have n5_ := Aside0.mk ((Q108 : gb110 ≠ gb111)); have n6_ := Aside0.mk ((Q109 : gb111 ≠ gb110)); clear BK110; clear HB; have BK110 := n0_; have HB := n1_; have BK111 := n2_; have GW111 := n3_; have GE111 := n4_; have NB110_111 := n5_; have NB111_110 := n6_; clear n0_ n1_ n2_ n3_ n4_ n5_ n6_; clear hb hbox hg; have hnb12 := NB110_111.out; have hnc12 := NB111_110.out; have hcz13_0 : w11.cell? ⟨gb110, 0, none⟩ = some (.int .i64 a0_0) := (blk_cell BK110.out 0).trans rfl; have hcz13_1 : w11.cell? ⟨gb110, 1, none⟩ = some (.int .i64 a0_1) := (blk_cell BK110.out 1).trans rfl; have hfz13_0 := blk_frozen BK110.out 0; have hfz13_1 := blk_frozen BK110.out 1; have hcz14_0 : w11.cell? ⟨gb111, 0, none⟩ = some (.int .i64 a1_0) := (blk_cell BK111.out 0).trans rfl; have hcz14_1 : w11.cell? ⟨gb111, 1, none⟩ = some (.int .i64 a1_1) := (blk_cell BK111.out 1).trans rfl; have hfz14_0 := blk_frozen BK111.out 0; have hfz14_1 := blk_frozen BK111.out 1))
   go_ret
   exact ⟨Q12, Q84⟩
  ·rw [if_neg c9] at H
   have c9b0 : (a0_0 == a1_0) = false := beq_eq_false_iff_ne.mpr c9
   have c9b1 : (a0_0 != a1_0) = true := bne_iff_ne.mpr c9
   obtain rfl := Option.some.inj H
   go_enter Try.func91, Try.ntmps91
   go_wp2_with (first | ((with_reducible refine gate_dst (N := 2) rfl ?_); refine box_event ?hg (N := 2) ?hd (cs := #[.int .i64 a0_0, .int .i64 a0_1]) (t := 36) ?hr ?_; (case hd => rfl); (case hg => rfl); (case hr => first | (go_simp; done) | (go_simp; rfl)); intro gb110 hg w15 hbox hb; have n0_ := Aside0.mk (below_step Q64 hb); have n1_ := Aside0.mk (hbox); have n2_ := Aside0.mk ((Q105 : w.heap.size ≤ gb110)); have n3_ := n2_; clear HB; have HB := n0_; have BK110 := n1_; have GW110 := n2_; have GE110 := n3_; clear n0_ n1_ n2_ n3_; clear hb hbox hg) | ((with_reducible refine gate_dst (N := 3) rfl ?_); refine box_event ?hg (N := 3) ?hd (cs := #[.int .i64 a1_0, .int .i64 a1_1]) (t := 36) ?hr ?_; (case hd => rfl); (case hg => rfl); (case hr => first | (go_simp; done) | (go_simp; rfl)); intro gb111 hg w16 hbox hb; have n0_ := Aside0.mk (blk_below (g := gb110) (o := .cells #[.int .i64 a0_0, .int .i64 a0_1] 36 (0, 0)) Q32 hb); have n1_ := Aside0.mk (below_step Q69 hb); have n2_ := Aside0.mk (hbox); have n3_ := Aside0.mk ((by rw [hg]; exact (below_size Q69) : w.heap.size ≤ gb111)); have n4_ := n3_; have n5_ := Aside0.mk ((Q108 : gb110 ≠ gb111)); have n6_ := Aside0.mk ((Q109 : gb111 ≠ gb110)); clear BK110; clear HB; have BK110 := n0_; have HB := n1_; have BK111 := n2_; have GW111 := n3_; have GE111 := n4_; have NB110_111 := n5_; have NB111_110 := n6_; clear n0_ n1_ n2_ n3_ n4_ n5_ n6_; clear hb hbox hg; have hnb17 := NB110_111.out; have hnc17 := NB111_110.out; have hcz18_0 : w16.cell? ⟨gb110, 0, none⟩ = some (.int .i64 a0_0) := (blk_cell BK110.out 0).trans rfl; have hcz18_1 : w16.cell? ⟨gb110, 1, none⟩ = some (.int .i64 a0_1) := (blk_cell BK110.out 1).trans rfl; have hfz18_0 := blk_frozen BK110.out 0; have hfz18_1 := blk_frozen BK110.out 1; have hcz19_0 : w16.cell? ⟨gb111, 0, none⟩ = some (.int .i64 a1_0) := (blk_cell BK111.out 0).trans rfl; have hcz19_1 : w16.cell? ⟨gb111, 1, none⟩ = some (.int .i64 a1_1) := (blk_cell BK111.out 1).trans rfl; have hfz19_0 := blk_frozen BK111.out 0; have hfz19_1 := blk_frozen BK111.out 1))
   go_ret
   exact ⟨Q12, Q84⟩
def impl_rowAhead.f (a0_0 : Int) (a0_1 : Int) (a0_2 : Int) (a0_3 : Int) (a0_4 : Int) (a1_0 : Int) (a1_1 : Int) (a1_2 : Int) (a1_3 : Int) (a1_4 : Int) : Option (Bool) := if a0_0 = a1_0 then (if a0_1 = a1_1 then ((impl_ahead.f a0_2 a0_3 a1_2 a1_3).bind fun t114 => (some t114)) else (some (decide (a0_1 < a1_1)))) else (some (decide (a0_0 < a1_0)))
set_option maxHeartbeats 8000000 in
set_option maxRecDepth 100000 in
theorem impl_rowAhead.calls (a0_0 : Int) (a0_1 : Int) (a0_2 : Int) (a0_3 : Int) (a0_4 : Int) (a1_0 : Int) (a1_1 : Int) (a1_2 : Int) (a1_3 : Int) (a1_4 : Int) (r : Bool) (w : World) (h : impl_rowAhead.f a0_0 a0_1 a0_2 a0_3 a0_4 a1_0 a1_1 a1_2 a1_3 a1_4 = some r) :
  Calls Try.prog 64 #[.agg #[.int .i64 a0_0, .int .i64 a0_1, .int .i64 a0_2, .int .i64 a0_3, .int .i64 a0_4], .agg #[.int .i64 a1_0, .int .i64 a1_1, .int .i64 a1_2, .int .i64 a1_3, .int .i64 a1_4]] w fun e w' => e = .returned (.bool r) ∧ Below w.heap.size w w' := by
 have hu38 := Try.underlying38
 have hu36 := Try.underlying36
 have HB := Aside0.mk (Below.refl w.heap.size w)
 have H : (if a0_0 = a1_0 then (if a0_1 = a1_1 then ((impl_ahead.f a0_2 a0_3 a1_2 a1_3).bind fun t114 => (some t114)) else (some (decide (a0_1 < a1_1)))) else (some (decide (a0_0 < a1_0)))) = some r := h
 clear h
 by_cases c3 : a0_0 = a1_0
 ·rw [if_pos c3] at H
  have c3b0 : (a0_0 == a1_0) = true := beq_iff_eq.mpr c3
  have c3b1 : (a0_0 != a1_0) = false := bne_eq_false_iff_eq.mpr c3
  clear c3
  by_cases c4 : a0_1 = a1_1
  ·rw [if_pos c4] at H
   have c4b0 : (a0_1 == a1_1) = true := beq_iff_eq.mpr c4
   have c4b1 : (a0_1 != a1_1) = false := bne_eq_false_iff_eq.mpr c4
   clear c4
   replace H := Option.bind_eq_some_iff.mp H
   obtain ⟨t114, A50, H⟩ := H
   replace H : (some t114) = some r := H
   have A5 := Aside0.mk A50
   clear A50
   obtain rfl := Option.some.inj H
   go_enter Try.func64, Try.ntmps64
   go_wp2_with (first | ((with_reducible refine gate_dst (N := 2) rfl ?_); refine box_event ?hg (N := 2) ?hd (cs := #[.int .i64 a0_0, .int .i64 a0_1, .int .i64 a0_2, .int .i64 a0_3, .int .i64 a0_4]) (t := 38) ?hr ?_; (case hd => rfl); (case hg => rfl); (case hr => first | (go_simp; done) | (go_simp; rfl)); intro gb112 hg w6 hbox hb; have n0_ := Aside0.mk (below_step Q64 hb); have n1_ := Aside0.mk (hbox); have n2_ := Aside0.mk ((Q105 : w.heap.size ≤ gb112)); have n3_ := n2_; clear HB; have HB := n0_; have BK112 := n1_; have GW112 := n2_; have GE112 := n3_; clear n0_ n1_ n2_ n3_; clear hb hbox hg) | ((with_reducible refine gate_dst (N := 3) rfl ?_); refine box_event ?hg (N := 3) ?hd (cs := #[.int .i64 a1_0, .int .i64 a1_1, .int .i64 a1_2, .int .i64 a1_3, .int .i64 a1_4]) (t := 38) ?hr ?_; (case hd => rfl); (case hg => rfl); (case hr => first | (go_simp; done) | (go_simp; rfl)); intro gb113 hg w7 hbox hb; have n0_ := Aside0.mk (blk_below (g := gb112) (o := .cells #[.int .i64 a0_0, .int .i64 a0_1, .int .i64 a0_2, .int .i64 a0_3, .int .i64 a0_4] 38 (0, 0)) Q33 hb); have n1_ := Aside0.mk (below_step Q70 hb); have n2_ := Aside0.mk (hbox); have n3_ := Aside0.mk ((by rw [hg]; exact (below_size Q70) : w.heap.size ≤ gb113)); have n4_ := n3_; have n5_ := Aside0.mk ((Q132 : gb112 ≠ gb113)); have n6_ := Aside0.mk ((Q133 : gb113 ≠ gb112)); clear BK112; clear HB; have BK112 := n0_; have HB := n1_; have BK113 := n2_; have GW113 := n3_; have GE113 := n4_; have NB112_113 := n5_; have NB113_112 := n6_; clear n0_ n1_ n2_ n3_ n4_ n5_ n6_; clear hb hbox hg; have hnb8 := NB112_113.out; have hnc8 := NB113_112.out; have hcz9_0 : w7.cell? ⟨gb112, 0, none⟩ = some (.int .i64 a0_0) := (blk_cell BK112.out 0).trans rfl; have hcz9_1 : w7.cell? ⟨gb112, 1, none⟩ = some (.int .i64 a0_1) := (blk_cell BK112.out 1).trans rfl; have hcz9_2 : w7.cell? ⟨gb112, 2, none⟩ = some (.int .i64 a0_2) := (blk_cell BK112.out 2).trans rfl; have hcz9_3 : w7.cell? ⟨gb112, 3, none⟩ = some (.int .i64 a0_3) := (blk_cell BK112.out 3).trans rfl; have hcz9_4 : w7.cell? ⟨gb112, 4, none⟩ = some (.int .i64 a0_4) := (blk_cell BK112.out 4).trans rfl; have hfz9_0 := blk_frozen BK112.out 0; have hfz9_1 := blk_frozen BK112.out 1; have hfz9_2 := blk_frozen BK112.out 2; have hfz9_3 := blk_frozen BK112.out 3; have hfz9_4 := blk_frozen BK112.out 4; have hcz10_0 : w7.cell? ⟨gb113, 0, none⟩ = some (.int .i64 a1_0) := (blk_cell BK113.out 0).trans rfl; have hcz10_1 : w7.cell? ⟨gb113, 1, none⟩ = some (.int .i64 a1_1) := (blk_cell BK113.out 1).trans rfl; have hcz10_2 : w7.cell? ⟨gb113, 2, none⟩ = some (.int .i64 a1_2) := (blk_cell BK113.out 2).trans rfl; have hcz10_3 : w7.cell? ⟨gb113, 3, none⟩ = some (.int .i64 a1_3) := (blk_cell BK113.out 3).trans rfl; have hcz10_4 : w7.cell? ⟨gb113, 4, none⟩ = some (.int .i64 a1_4) := (blk_cell BK113.out 4).trans rfl; have hfz10_0 := blk_frozen BK113.out 0; have hfz10_1 := blk_frozen BK113.out 1; have hfz10_2 := blk_frozen BK113.out 2; have hfz10_3 := blk_frozen BK113.out 3; have hfz10_4 := blk_frozen BK113.out 4) | ((with_reducible refine gate_callee (f := 91) rfl ?_); refine goesL_ (some 31) rfl rfl Try.func91 Q1 rfl #[.agg #[.int .i64 a0_2, .int .i64 a0_3], .agg #[.int .i64 a1_2, .int .i64 a1_3]] rfl Q65 ?_; (with_reducible refine (impl_ahead.calls a0_2 a0_3 a1_2 a1_3 t114 _ A5.out).mono ?_); rintro e w11 ⟨rfl, hb⟩; refine ⟨_, rfl, ?_⟩; have n0_ := Aside0.mk (blk_below (g := gb112) (o := .cells #[.int .i64 a0_0, .int .i64 a0_1, .int .i64 a0_2, .int .i64 a0_3, .int .i64 a0_4] 38 (0, 0)) Q33 hb); have n1_ := Aside0.mk (blk_below (g := gb113) (o := .cells #[.int .i64 a1_0, .int .i64 a1_1, .int .i64 a1_2, .int .i64 a1_3, .int .i64 a1_4] 38 (0, 0)) (by (with_reducible repeat (first | refine blk_drewN ?_ _ | refine blk_drew ?_ | refine blk_alloc ?_ _)); exact BK113.out) hb); have n2_ := Aside0.mk (below_step Q85 hb); clear BK112; clear BK113; clear HB; have BK112 := n0_; have BK113 := n1_; have HB := n2_; clear n0_ n1_ n2_; (try clear hb); (try clear hb2); (try clear hk); (try clear hi)))
   go_ret
   exact ⟨Q12, Q85⟩
  ·rw [if_neg c4] at H
   have c4b0 : (a0_1 == a1_1) = false := beq_eq_false_iff_ne.mpr c4
   have c4b1 : (a0_1 != a1_1) = true := bne_iff_ne.mpr c4
   obtain rfl := Option.some.inj H
   go_enter Try.func64, Try.ntmps64
   go_wp2_with (first | ((with_reducible refine gate_dst (N := 2) rfl ?_); refine box_event ?hg (N := 2) ?hd (cs := #[.int .i64 a0_0, .int .i64 a0_1, .int .i64 a0_2, .int .i64 a0_3, .int .i64 a0_4]) (t := 38) ?hr ?_; (case hd => rfl); (case hg => rfl); (case hr => first | (go_simp; done) | (go_simp; rfl)); intro gb112 hg w12 hbox hb; have n0_ := Aside0.mk (below_step Q64 hb); have n1_ := Aside0.mk (hbox); have n2_ := Aside0.mk ((Q105 : w.heap.size ≤ gb112)); have n3_ := n2_; clear HB; have HB := n0_; have BK112 := n1_; have GW112 := n2_; have GE112 := n3_; clear n0_ n1_ n2_ n3_; clear hb hbox hg) | ((with_reducible refine gate_dst (N := 3) rfl ?_); refine box_event ?hg (N := 3) ?hd (cs := #[.int .i64 a1_0, .int .i64 a1_1, .int .i64 a1_2, .int .i64 a1_3, .int .i64 a1_4]) (t := 38) ?hr ?_; (case hd => rfl); (case hg => rfl); (case hr => first | (go_simp; done) | (go_simp; rfl)); intro gb113 hg w13 hbox hb; have n0_ := Aside0.mk (blk_below (g := gb112) (o := .cells #[.int .i64 a0_0, .int .i64 a0_1, .int .i64 a0_2, .int .i64 a0_3, .int .i64 a0_4] 38 (0, 0)) Q33 hb); have n1_ := Aside0.mk (below_step Q70 hb); have n2_ := Aside0.mk (hbox); have n3_ := Aside0.mk ((by rw [hg]; exact (below_size Q70) : w.heap.size ≤ gb113)); have n4_ := n3_; have n5_ := Aside0.mk ((Q132 : gb112 ≠ gb113)); have n6_ := Aside0.mk ((Q133 : gb113 ≠ gb112)); clear BK112; clear HB; have BK112 := n0_; have HB := n1_; have BK113 := n2_; have GW113 := n3_; have GE113 := n4_; have NB112_113 := n5_; have NB113_112 := n6_; clear n0_ n1_ n2_ n3_ n4_ n5_ n6_; clear hb hbox hg; have hnb14 := NB112_113.out; have hnc14 := NB113_112.out; have hcz15_0 : w13.cell? ⟨gb112, 0, none⟩ = some (.int .i64 a0_0) := (blk_cell BK112.out 0).trans rfl; have hcz15_1 : w13.cell? ⟨gb112, 1, none⟩ = some (.int .i64 a0_1) := (blk_cell BK112.out 1).trans rfl; have hcz15_2 : w13.cell? ⟨gb112, 2, none⟩ = some (.int .i64 a0_2) := (blk_cell BK112.out 2).trans rfl; have hcz15_3 : w13.cell? ⟨gb112, 3, none⟩ = some (.int .i64 a0_3) := (blk_cell BK112.out 3).trans rfl; have hcz15_4 : w13.cell? ⟨gb112, 4, none⟩ = some (.int .i64 a0_4) := (blk_cell BK112.out 4).trans rfl; have hfz15_0 := blk_frozen BK112.out 0; have hfz15_1 := blk_frozen BK112.out 1; have hfz15_2 := blk_frozen BK112.out 2; have hfz15_3 := blk_frozen BK112.out 3; have hfz15_4 := blk_frozen BK112.out 4; have hcz16_0 : w13.cell? ⟨gb113, 0, none⟩ = some (.int .i64 a1_0) := (blk_cell BK113.out 0).trans rfl; have hcz16_1 : w13.cell? ⟨gb113, 1, none⟩ = some (.int .i64 a1_1) := (blk_cell BK113.out 1).trans rfl; have hcz16_2 : w13.cell? ⟨gb113, 2, none⟩ = some (.int .i64 a1_2) := (blk_cell BK113.out 2).trans rfl; have hcz16_3 : w13.cell? ⟨gb113, 3, none⟩ = some (.int .i64 a1_3) := (blk_cell BK113.out 3).trans rfl; have hcz16_4 : w13.cell? ⟨gb113, 4, none⟩ = some (.int .i64 a1_4) := (blk_cell BK113.out 4).trans rfl; have hfz16_0 := blk_frozen BK113.out 0; have hfz16_1 := blk_frozen BK113.out 1; have hfz16_2 := blk_frozen BK113.out 2; have hfz16_3 := blk_frozen BK113.out 3; have hfz16_4 := blk_frozen BK113.out 4))
   go_ret
   exact ⟨Q12, Q85⟩
 ·rw [if_neg c3] at H
  have c3b0 : (a0_0 == a1_0) = false := beq_eq_false_iff_ne.mpr c3
  have c3b1 : (a0_0 != a1_0) = true := bne_iff_ne.mpr c3
  obtain rfl := Option.some.inj H
  go_enter Try.func64, Try.ntmps64
  go_wp2_with (first | ((with_reducible refine gate_dst (N := 2) rfl ?_); refine box_event ?hg (N := 2) ?hd (cs := #[.int .i64 a0_0, .int .i64 a0_1, .int .i64 a0_2, .int .i64 a0_3, .int .i64 a0_4]) (t := 38) ?hr ?_; (case hd => rfl); (case hg => rfl); (case hr => first | (go_simp; done) | (go_simp; rfl)); intro gb112 hg w17 hbox hb; have n0_ := Aside0.mk (below_step Q64 hb); have n1_ := Aside0.mk (hbox); have n2_ := Aside0.mk ((Q105 : w.heap.size ≤ gb112)); have n3_ := n2_; clear HB; have HB := n0_; have BK112 := n1_; have GW112 := n2_; have GE112 := n3_; clear n0_ n1_ n2_ n3_; clear hb hbox hg) | ((with_reducible refine gate_dst (N := 3) rfl ?_); refine box_event ?hg (N := 3) ?hd (cs := #[.int .i64 a1_0, .int .i64 a1_1, .int .i64 a1_2, .int .i64 a1_3, .int .i64 a1_4]) (t := 38) ?hr ?_; (case hd => rfl); (case hg => rfl); (case hr => first | (go_simp; done) | (go_simp; rfl)); intro gb113 hg w18 hbox hb; have n0_ := Aside0.mk (blk_below (g := gb112) (o := .cells #[.int .i64 a0_0, .int .i64 a0_1, .int .i64 a0_2, .int .i64 a0_3, .int .i64 a0_4] 38 (0, 0)) Q33 hb); have n1_ := Aside0.mk (below_step Q70 hb); have n2_ := Aside0.mk (hbox); have n3_ := Aside0.mk ((by rw [hg]; exact (below_size Q70) : w.heap.size ≤ gb113)); have n4_ := n3_; have n5_ := Aside0.mk ((Q132 : gb112 ≠ gb113)); have n6_ := Aside0.mk ((Q133 : gb113 ≠ gb112)); clear BK112; clear HB; have BK112 := n0_; have HB := n1_; have BK113 := n2_; have GW113 := n3_; have GE113 := n4_; have NB112_113 := n5_; have NB113_112 := n6_; clear n0_ n1_ n2_ n3_ n4_ n5_ n6_; clear hb hbox hg; have hnb19 := NB112_113.out; have hnc19 := NB113_112.out; have hcz20_0 : w18.cell? ⟨gb112, 0, none⟩ = some (.int .i64 a0_0) := (blk_cell BK112.out 0).trans rfl; have hcz20_1 : w18.cell? ⟨gb112, 1, none⟩ = some (.int .i64 a0_1) := (blk_cell BK112.out 1).trans rfl; have hcz20_2 : w18.cell? ⟨gb112, 2, none⟩ = some (.int .i64 a0_2) := (blk_cell BK112.out 2).trans rfl; have hcz20_3 : w18.cell? ⟨gb112, 3, none⟩ = some (.int .i64 a0_3) := (blk_cell BK112.out 3).trans rfl; have hcz20_4 : w18.cell? ⟨gb112, 4, none⟩ = some (.int .i64 a0_4) := (blk_cell BK112.out 4).trans rfl; have hfz20_0 := blk_frozen BK112.out 0; have hfz20_1 := blk_frozen BK112.out 1; have hfz20_2 := blk_frozen BK112.out 2; have hfz20_3 := blk_frozen BK112.out 3; have hfz20_4 := blk_frozen BK112.out 4; have hcz21_0 : w18.cell? ⟨gb113, 0, none⟩ = some (.int .i64 a1_0) := (blk_cell BK113.out 0).trans rfl; have hcz21_1 : w18.cell? ⟨gb113, 1, none⟩ = some (.int .i64 a1_1) := (blk_cell BK113.out 1).trans rfl; have hcz21_2 : w18.cell? ⟨gb113, 2, none⟩ = some (.int .i64 a1_2) := (blk_cell BK113.out 2).trans rfl; have hcz21_3 : w18.cell? ⟨gb113, 3, none⟩ = some (.int .i64 a1_3) := (blk_cell BK113.out 3).trans rfl; have hcz21_4 : w18.cell? ⟨gb113, 4, none⟩ = some (.int .i64 a1_4) := (blk_cell BK113.out 4).trans rfl; have hfz21_0 := blk_frozen BK113.out 0; have hfz21_1 := blk_frozen BK113.out 1; have hfz21_2 := blk_frozen BK113.out 2; have hfz21_3 := blk_frozen BK113.out 3; have hfz21_4 := blk_frozen BK113.out 4))
  go_ret
  exact ⟨Q12, Q85⟩
def impl_BatchOk.l0 : Nat → List (S38) → List (S38) → Int → Int → Option (Bool)
 | 0, _, _, _, _ => none
 | k + 1, x0, x5, x6, x7 => if x7 < x6 then (if 0 ≤ x7 then (if x7 < (x5.length : Int) then (if ((rd_T38 x5 x7).f3) = 0 then (some false) else (if x7 > 0 then (if 0 ≤ (wrap64 (x7 - 1)) then (if (wrap64 (x7 - 1)) < (x0.length : Int) then ((impl_rowAhead.f ((rd_T38 x0 (wrap64 (x7 - 1))).f0) ((rd_T38 x0 (wrap64 (x7 - 1))).f1) ((rd_T38 x0 (wrap64 (x7 - 1))).f2.f0) ((rd_T38 x0 (wrap64 (x7 - 1))).f2.f1) ((rd_T38 x0 (wrap64 (x7 - 1))).f3) ((rd_T38 x5 x7).f0) ((rd_T38 x5 x7).f1) ((rd_T38 x5 x7).f2.f0) ((rd_T38 x5 x7).f2.f1) ((rd_T38 x5 x7).f3)).bind fun t118 => (if t118 = true then (impl_BatchOk.l0 k x0 x5 x6 (wrap64 (x7 + 1))) else (some false))) else (none)) else (none)) else (impl_BatchOk.l0 k x0 x5 x6 (wrap64 (x7 + 1))))) else (none)) else (none)) else ((impl_RowsOk.f k x0).bind fun t119 => (some t119))
def impl_BatchOk.f (k : Nat) (l0 : List (S38)) : Option (Bool) := impl_BatchOk.l0 k l0 l0 (l0.length : Int) 0
theorem impl_BatchOk.mono_l : ∀ k, (∀ y0 y1 y2 y3, LeO (impl_BatchOk.l0 k y0 y1 y2 y3) (impl_BatchOk.l0 (k + 1) y0 y1 y2 y3))
 | 0 => fun _ _ _ _ r h => by simp [impl_BatchOk.l0] at h
 | k + 1 => by
  have ih0 := impl_BatchOk.mono_l k
  ·intro y0 y1 y2 y3
   unfold impl_BatchOk.l0
   repeat' first
   | (with_reducible exact ih0 _ _ _ _)
   | (with_reducible exact impl_RowsOk.mono _ _)
   | (with_reducible exact LeO.refl _)
   | (with_reducible exact LeO.none _)
   | (with_reducible refine LeO.ite ?_ ?_)
   | (with_reducible refine LeO.bind ?_ (fun _ => ?_))
   | exact ih0 _ _ _ _
   | exact impl_RowsOk.mono _ _
   | exact LeO.none _
   | refine LeO.ite ?_ ?_
   | refine LeO.bind ?_ (fun _ => ?_)
theorem impl_BatchOk.mono : ∀ a0 k, LeO (impl_BatchOk.f k a0) (impl_BatchOk.f (k + 1) a0) := by
 intro a0 k
 have ih0 := impl_BatchOk.mono_l k
 unfold impl_BatchOk.f
 repeat' first
   | (with_reducible exact ih0 _ _ _ _)
   | (with_reducible exact impl_RowsOk.mono _ _)
   | (with_reducible exact LeO.refl _)
   | (with_reducible exact LeO.none _)
   | (with_reducible refine LeO.ite ?_ ?_)
   | (with_reducible refine LeO.bind ?_ (fun _ => ?_))
   | exact ih0 _ _ _ _
   | exact impl_RowsOk.mono _ _
   | exact LeO.none _
   | refine LeO.ite ?_ ?_
   | refine LeO.bind ?_ (fun _ => ?_)
def impl_BatchOk.T4 : Bool × List (List Nat × List Nat) := (true, [([], []), ([0], [0]), ([1], [1]), ([2], [2]), ([3], [3]), ([4, 3], [3, 4]), ([5, 3, 3], [3, 5]), ([6], [6]), ([6], [6]), ([8, 6], [6, 8]), ([7, 9, 6], [6, 7, 9]), ([10, 6], [6, 10]), ([6], [6]), ([11, 12, 6, 6], [6, 11, 12]), ([13, 6], [6, 13]), ([6, 14, 3], [3, 6, 14]), ([3, 15], [3, 15])])
def impl_BatchOk.B4 : List Nat := [0, 1, 3, 7, 15, 31, 63, 127, 127, 383, 1023, 2047, 127, 8191, 16383, 32767, 65535]
theorem impl_BatchOk.tab4 : rtab .any (opsOf Try.f24 4) = impl_BatchOk.T4 := by kernel_rfl
theorem impl_BatchOk.bits4 : waitsOk impl_BatchOk.T4.2 impl_BatchOk.B4 = true := by kernel_rfl
set_option maxHeartbeats 8000000 in
set_option maxRecDepth 100000 in
theorem impl_BatchOk.calls (k : Nat) (A0 : Option Addr) (c0 : Nat) (l0 : List (S38)) (r : Bool) (w : World) (hr0 : Kd.C k38 w A0 l0.length l0) (hc0 : l0.length ≤ c0) (h : impl_BatchOk.f k l0 = some r) :
  Calls Try.prog 24 #[.slice A0 l0.length c0] w fun e w' => e = .returned (.bool r) ∧ Below w.heap.size w w' := by
 have hu38 := Try.underlying38
 have HR0 := Aside0.mk hr0
 have HC0 := Aside0.mk hc0
 clear hr0 hc0
 have HB := Aside0.mk (Below.refl w.heap.size w)
 have H : (impl_BatchOk.l0 k l0 l0 (l0.length : Int) 0) = some r := h
 clear h
 have H' := Aside0.mk H
 clear H
 go_enter Try.func24, Try.ntmps24
 go_wp2
 go_loopg [7] k (fun kq v7 w' => ∃ (x7_1 : Int), v7 = .int .i64 x7_1 ∧ Aside0 (impl_BatchOk.l0 kq l0 l0 (l0.length : Int) x7_1 = some r) ∧ Aside0 (kq ≤ k) ∧ Aside0 (Below w.heap.size w w'))
 case atStart => exact ⟨(0), Q4, H', ⟨Nat.le_refl _⟩, ⟨Q64⟩⟩
 case round =>
  clear H'
  obtain ⟨x7_1, rfl, HA, HK1, HB⟩ := hrel
  cases gk with
  | zero => exact absurd HA.out (by simp [impl_BatchOk.l0])
  | succ k1 =>
   have H := HA.out
   clear HA
   simp only [impl_BatchOk.l0] at H
   by_cases c2 : x7_1 < (l0.length : Int)
   ·rw [if_pos c2] at H
    have c2b0 : decide (x7_1 < (l0.length : Int)) = true := decide_eq_true c2
    clear c2
    by_cases c3 : 0 ≤ x7_1
    ·rw [if_pos c3] at H
     have c3b0 : decide (0 ≤ x7_1) = true := decide_eq_true c3
     clear c3
     by_cases c4 : x7_1 < (l0.length : Int)
     ·rw [if_pos c4] at H
      have c4b0 : decide (x7_1 < (l0.length : Int)) = true := decide_eq_true c4
      clear c4
      by_cases c5 : ((rd_T38 l0 x7_1).f3) = 0
      ·rw [if_pos c5] at H
       have c5b0 : (((rd_T38 l0 x7_1).f3) == 0) = true := beq_iff_eq.mpr c5
       have c5b1 : (((rd_T38 l0 x7_1).f3) != 0) = false := bne_eq_false_iff_eq.mpr c5
       clear c5
       obtain rfl := Option.some.inj H
       have p115 : 0 ≤ (x7_1 : Int) := of_decide_eq_true Q5
       have q115 : x7_1 < (l0.length : Int) := of_decide_eq_true Q5
       obtain ⟨ad115, e115, hx115_0, hx115_1, hx115_2, hx115_3, hx115_4⟩ := at_T38 HR0.out x7_1 p115 q115
       cases e115
       replace hx115_0 := (HB.out.cell (World.block_lt_of_cell? w _ hx115_0)).trans hx115_0
       replace hx115_1 := (HB.out.cell (World.block_lt_of_cell? w _ hx115_1)).trans hx115_1
       replace hx115_2 := (HB.out.cell (World.block_lt_of_cell? w _ hx115_2)).trans hx115_2
       replace hx115_3 := (HB.out.cell (World.block_lt_of_cell? w _ hx115_3)).trans hx115_3
       replace hx115_4 := (HB.out.cell (World.block_lt_of_cell? w _ hx115_4)).trans hx115_4
       replace p115 := eq_true p115
       replace q115 := eq_true q115
       try go_wp2_with (first | ((with_reducible refine gate_dst (N := 4) rfl ?_); refine box_event ?hg (N := 4) ?hd (cs := #[.int .i64 0, .int .i64 0, .int .i64 0, .int .i64 0, .int .i64 0]) (t := 38) ?hr ?_; (case hd => rfl); (case hg => rfl); (case hr => first | (go_simp; done) | (go_simp; rfl)); intro gb116 hg w6 hbox hb; have n0_ := Aside0.mk (below_step Q64 hb); have n1_ := Aside0.mk (hbox); have n2_ := Aside0.mk ((Q105 : w.heap.size ≤ gb116)); have n3_ := n2_; clear HB; have HB := n0_; have BK116 := n1_; have GW116 := n2_; have GE116 := n3_; clear n0_ n1_ n2_ n3_; clear hb hbox hg; have hcz7_0 : w6.cell? ⟨gb116, 0, none⟩ = some (.int .i64 0) := (blk_cell BK116.out 0).trans rfl; have hcz7_1 : w6.cell? ⟨gb116, 1, none⟩ = some (.int .i64 0) := (blk_cell BK116.out 1).trans rfl; have hcz7_2 : w6.cell? ⟨gb116, 2, none⟩ = some (.int .i64 0) := (blk_cell BK116.out 2).trans rfl; have hcz7_3 : w6.cell? ⟨gb116, 3, none⟩ = some (.int .i64 0) := (blk_cell BK116.out 3).trans rfl; have hcz7_4 : w6.cell? ⟨gb116, 4, none⟩ = some (.int .i64 0) := (blk_cell BK116.out 4).trans rfl; have hfz7_0 := blk_frozen BK116.out 0; have hfz7_1 := blk_frozen BK116.out 1; have hfz7_2 := blk_frozen BK116.out 2; have hfz7_3 := blk_frozen BK116.out 3; have hfz7_4 := blk_frozen BK116.out 4))
       have n0_ : Aside0 ((((((w6.setCell ⟨gb116, 0, none⟩ (.int .i64 ((rd_T38 l0 x7_1).f0))).setCell ⟨gb116, 1, none⟩ (.int .i64 ((rd_T38 l0 x7_1).f1))).setCell ⟨gb116, 2, none⟩ (.int .i64 ((rd_T38 l0 x7_1).f2.f0))).setCell ⟨gb116, 3, none⟩ (.int .i64 ((rd_T38 l0 x7_1).f2.f1))).setCell ⟨gb116, 4, none⟩ (.int .i64 ((rd_T38 l0 x7_1).f3))).heap[gb116]? = some (.cells #[.int .i64 ((rd_T38 l0 x7_1).f0), .int .i64 ((rd_T38 l0 x7_1).f1), .int .i64 ((rd_T38 l0 x7_1).f2.f0), .int .i64 ((rd_T38 l0 x7_1).f2.f1), .int .i64 ((rd_T38 l0 x7_1).f3)] 38 (0, 0))) := ⟨Q104⟩
       have n1_ : Aside0 (Below w.heap.size w (((((w6.setCell ⟨gb116, 0, none⟩ (.int .i64 ((rd_T38 l0 x7_1).f0))).setCell ⟨gb116, 1, none⟩ (.int .i64 ((rd_T38 l0 x7_1).f1))).setCell ⟨gb116, 2, none⟩ (.int .i64 ((rd_T38 l0 x7_1).f2.f0))).setCell ⟨gb116, 3, none⟩ (.int .i64 ((rd_T38 l0 x7_1).f2.f1))).setCell ⟨gb116, 4, none⟩ (.int .i64 ((rd_T38 l0 x7_1).f3)))) := ⟨Q71⟩
       (try clear BK116)
       (try clear HB)
       generalize (((((w6.setCell ⟨gb116, 0, none⟩ (.int .i64 ((rd_T38 l0 x7_1).f0))).setCell ⟨gb116, 1, none⟩ (.int .i64 ((rd_T38 l0 x7_1).f1))).setCell ⟨gb116, 2, none⟩ (.int .i64 ((rd_T38 l0 x7_1).f2.f0))).setCell ⟨gb116, 3, none⟩ (.int .i64 ((rd_T38 l0 x7_1).f2.f1))).setCell ⟨gb116, 4, none⟩ (.int .i64 ((rd_T38 l0 x7_1).f3))) = w8 at n0_ n1_ ⊢
       have BK116 := n0_
       have HB := n1_
       clear n0_ n1_
       have n0_ := Aside0.mk (blk_drew BK116.out)
       have n1_ := Aside0.mk (below_drew1 HB.out)
       clear BK116
       clear HB
       have BK116 := n0_
       have HB := n1_
       clear n0_ n1_
       refine start_ (n := 17) (S := fun w' => w'.cell? ⟨gb116, 0, none⟩ = some (.int .i64 ((rd_T38 l0 x7_1).f0)) ∧ w'.cell? ⟨gb116, 1, none⟩ = some (.int .i64 ((rd_T38 l0 x7_1).f1)) ∧ w'.cell? ⟨gb116, 2, none⟩ = some (.int .i64 ((rd_T38 l0 x7_1).f2.f0)) ∧ w'.cell? ⟨gb116, 3, none⟩ = some (.int .i64 ((rd_T38 l0 x7_1).f2.f1)) ∧ w'.cell? ⟨gb116, 4, none⟩ = some (.int .i64 ((rd_T38 l0 x7_1).f3))) (ds := []) b17_0 Q1 rfl rfl ⟨(blk_cell BK116.out 0).trans rfl, (blk_cell BK116.out 1).trans rfl, (blk_cell BK116.out 2).trans rfl, (blk_cell BK116.out 3).trans rfl, (blk_cell BK116.out 4).trans rfl⟩ (fun hHeld => ?_); refine with_tabW impl_BatchOk.tab4 impl_BatchOk.bits4 (fun HT_ HW_ => ?_)
       generalize w8.drew = w9 at BK116 HB hHeld ⊢
       refine pU_ 0 12 b17_1 ?_
       refine tU_ 1 13 b17_2 hHeld ?_
       refine pU_ 2 14 b17_3 ?_
       refine pU_ 3 15 b17_4 ?_
       refine pV_ 4 16 b17_5 ?_
       refine pV_ 5 17 b17_6 ?_
       refine pV_ 6 18 b17_7 ?_
       refine pV_ 7 19 b17_8 ?_
       refine pV_ 8 20 b17_9 ?_
       refine pV_ 9 21 b17_10 ?_
       refine pV_ 10 22 b17_11 ?_
       refine pV_ 11 23 b17_12 ?_
       refine pV_ 12 24 b17_13 ?_
       refine pV_ 13 25 b17_14 ?_
       refine pV_ 14 26 b17_15 ?_
       refine pV_ 15 27 b17_16 ?_
       refine pU_ 16 28 b17_17 ?_
       refine done_ (done_of HT_.out Q1) ?_
       try go_wp2
       go_ret
       exact ⟨Q12, Q71⟩
      ·rw [if_neg c5] at H
       have c5b0 : (((rd_T38 l0 x7_1).f3) == 0) = false := beq_eq_false_iff_ne.mpr c5
       have c5b1 : (((rd_T38 l0 x7_1).f3) != 0) = true := bne_iff_ne.mpr c5
       by_cases c10 : x7_1 > 0
       ·rw [if_pos c10] at H
        have c10b0 : decide (0 < x7_1) = true := decide_eq_true c10
        clear c10
        obtain ⟨ji11, hji11⟩ : ∃ j_ : Int, (wrap64 (x7_1 - 1)) = j_ := ⟨_, rfl⟩
        replace H : (if 0 ≤ (ji11) then (if (ji11) < (l0.length : Int) then ((impl_rowAhead.f ((rd_T38 l0 (ji11)).f0) ((rd_T38 l0 (ji11)).f1) ((rd_T38 l0 (ji11)).f2.f0) ((rd_T38 l0 (ji11)).f2.f1) ((rd_T38 l0 (ji11)).f3) ((rd_T38 l0 x7_1).f0) ((rd_T38 l0 x7_1).f1) ((rd_T38 l0 x7_1).f2.f0) ((rd_T38 l0 x7_1).f2.f1) ((rd_T38 l0 x7_1).f3)).bind fun t118 => (if t118 = true then (impl_BatchOk.l0 k1 l0 l0 (l0.length : Int) (wrap64 (x7_1 + 1))) else (some false))) else (none)) else (none)) = some r := by first | (rw [hji11] at H; exact H) | (simp only [hji11] at H ⊢; exact H)
        have hji11w : (IntKind.i64.wrap (x7_1 - 1)) = ji11 := (i64_w _).trans hji11
        by_cases c12 : 0 ≤ (ji11)
        ·rw [if_pos c12] at H
         have c12b0 : decide (0 ≤ (ji11)) = true := decide_eq_true c12
         clear c12
         by_cases c13 : (ji11) < (l0.length : Int)
         ·rw [if_pos c13] at H
          have c13b0 : decide ((ji11) < (l0.length : Int)) = true := decide_eq_true c13
          clear c13
          replace H := Option.bind_eq_some_iff.mp H
          obtain ⟨t118, A140, H⟩ := H
          replace H : (if t118 = true then (impl_BatchOk.l0 k1 l0 l0 (l0.length : Int) (wrap64 (x7_1 + 1))) else (some false)) = some r := H
          have A14 := Aside0.mk A140
          clear A140
          by_cases c15 : t118 = true
          ·subst c15
           have H1 : (impl_BatchOk.l0 k1 l0 l0 (l0.length : Int) (wrap64 (x7_1 + 1))) = some r := by rw [if_pos rfl] at H; exact H
           clear H
           have H := H1
           clear H1
           have H' := Aside0.mk H
           clear H
           have p115 : 0 ≤ (x7_1 : Int) := of_decide_eq_true Q5
           have q115 : x7_1 < (l0.length : Int) := of_decide_eq_true Q5
           obtain ⟨ad115, e115, hx115_0, hx115_1, hx115_2, hx115_3, hx115_4⟩ := at_T38 HR0.out x7_1 p115 q115
           cases e115
           replace hx115_0 := (HB.out.cell (World.block_lt_of_cell? w _ hx115_0)).trans hx115_0
           replace hx115_1 := (HB.out.cell (World.block_lt_of_cell? w _ hx115_1)).trans hx115_1
           replace hx115_2 := (HB.out.cell (World.block_lt_of_cell? w _ hx115_2)).trans hx115_2
           replace hx115_3 := (HB.out.cell (World.block_lt_of_cell? w _ hx115_3)).trans hx115_3
           replace hx115_4 := (HB.out.cell (World.block_lt_of_cell? w _ hx115_4)).trans hx115_4
           replace p115 := eq_true p115
           replace q115 := eq_true q115
           try go_wp2_with (first | ((with_reducible refine gate_dst (N := 4) rfl ?_); refine box_event ?hg (N := 4) ?hd (cs := #[.int .i64 0, .int .i64 0, .int .i64 0, .int .i64 0, .int .i64 0]) (t := 38) ?hr ?_; (case hd => rfl); (case hg => rfl); (case hr => first | (go_simp; done) | (go_simp; rfl)); intro gb116 hg w16 hbox hb; have n0_ := Aside0.mk (below_step Q64 hb); have n1_ := Aside0.mk (hbox); have n2_ := Aside0.mk ((Q105 : w.heap.size ≤ gb116)); have n3_ := n2_; clear HB; have HB := n0_; have BK116 := n1_; have GW116 := n2_; have GE116 := n3_; clear n0_ n1_ n2_ n3_; clear hb hbox hg; have hcz17_0 : w16.cell? ⟨gb116, 0, none⟩ = some (.int .i64 0) := (blk_cell BK116.out 0).trans rfl; have hcz17_1 : w16.cell? ⟨gb116, 1, none⟩ = some (.int .i64 0) := (blk_cell BK116.out 1).trans rfl; have hcz17_2 : w16.cell? ⟨gb116, 2, none⟩ = some (.int .i64 0) := (blk_cell BK116.out 2).trans rfl; have hcz17_3 : w16.cell? ⟨gb116, 3, none⟩ = some (.int .i64 0) := (blk_cell BK116.out 3).trans rfl; have hcz17_4 : w16.cell? ⟨gb116, 4, none⟩ = some (.int .i64 0) := (blk_cell BK116.out 4).trans rfl; have hfz17_0 := blk_frozen BK116.out 0; have hfz17_1 := blk_frozen BK116.out 1; have hfz17_2 := blk_frozen BK116.out 2; have hfz17_3 := blk_frozen BK116.out 3; have hfz17_4 := blk_frozen BK116.out 4))
           have n0_ : Aside0 ((((((w16.setCell ⟨gb116, 0, none⟩ (.int .i64 ((rd_T38 l0 x7_1).f0))).setCell ⟨gb116, 1, none⟩ (.int .i64 ((rd_T38 l0 x7_1).f1))).setCell ⟨gb116, 2, none⟩ (.int .i64 ((rd_T38 l0 x7_1).f2.f0))).setCell ⟨gb116, 3, none⟩ (.int .i64 ((rd_T38 l0 x7_1).f2.f1))).setCell ⟨gb116, 4, none⟩ (.int .i64 ((rd_T38 l0 x7_1).f3))).heap[gb116]? = some (.cells #[.int .i64 ((rd_T38 l0 x7_1).f0), .int .i64 ((rd_T38 l0 x7_1).f1), .int .i64 ((rd_T38 l0 x7_1).f2.f0), .int .i64 ((rd_T38 l0 x7_1).f2.f1), .int .i64 ((rd_T38 l0 x7_1).f3)] 38 (0, 0))) := ⟨Q104⟩
           have n1_ : Aside0 (Below w.heap.size w (((((w16.setCell ⟨gb116, 0, none⟩ (.int .i64 ((rd_T38 l0 x7_1).f0))).setCell ⟨gb116, 1, none⟩ (.int .i64 ((rd_T38 l0 x7_1).f1))).setCell ⟨gb116, 2, none⟩ (.int .i64 ((rd_T38 l0 x7_1).f2.f0))).setCell ⟨gb116, 3, none⟩ (.int .i64 ((rd_T38 l0 x7_1).f2.f1))).setCell ⟨gb116, 4, none⟩ (.int .i64 ((rd_T38 l0 x7_1).f3)))) := ⟨Q71⟩
           (try clear BK116)
           (try clear HB)
           generalize (((((w16.setCell ⟨gb116, 0, none⟩ (.int .i64 ((rd_T38 l0 x7_1).f0))).setCell ⟨gb116, 1, none⟩ (.int .i64 ((rd_T38 l0 x7_1).f1))).setCell ⟨gb116, 2, none⟩ (.int .i64 ((rd_T38 l0 x7_1).f2.f0))).setCell ⟨gb116, 3, none⟩ (.int .i64 ((rd_T38 l0 x7_1).f2.f1))).setCell ⟨gb116, 4, none⟩ (.int .i64 ((rd_T38 l0 x7_1).f3))) = w18 at n0_ n1_ ⊢
           have BK116 := n0_
           have HB := n1_
           clear n0_ n1_
           have n0_ := Aside0.mk (blk_drew BK116.out)
           have n1_ := Aside0.mk (below_drew1 HB.out)
           clear BK116
           clear HB
           have BK116 := n0_
           have HB := n1_
           clear n0_ n1_
           have p117 : 0 ≤ ((ji11) : Int) := of_decide_eq_true Q5
           have q117 : (ji11) < (l0.length : Int) := of_decide_eq_true Q5
           obtain ⟨ad117, e117, hx117_0, hx117_1, hx117_2, hx117_3, hx117_4⟩ := at_T38 HR0.out (ji11) p117 q117
           have hw117_4 := hx117_4
           have hw117_3 := hx117_3
           have hw117_2 := hx117_2
           have hw117_1 := hx117_1
           have hw117_0 := hx117_0
           obtain rfl : ad115 = ad117 := (by injection e117)
           replace hx117_0 := (HB.out.cell (World.block_lt_of_cell? w _ hx117_0)).trans hx117_0
           replace hx117_1 := (HB.out.cell (World.block_lt_of_cell? w _ hx117_1)).trans hx117_1
           replace hx117_2 := (HB.out.cell (World.block_lt_of_cell? w _ hx117_2)).trans hx117_2
           replace hx117_3 := (HB.out.cell (World.block_lt_of_cell? w _ hx117_3)).trans hx117_3
           replace hx117_4 := (HB.out.cell (World.block_lt_of_cell? w _ hx117_4)).trans hx117_4
           replace p117 := eq_true p117
           replace q117 := eq_true q117
           refine start_ (n := 17) (S := fun w' => w'.cell? ⟨gb116, 0, none⟩ = some (.int .i64 ((rd_T38 l0 x7_1).f0)) ∧ w'.cell? ⟨gb116, 1, none⟩ = some (.int .i64 ((rd_T38 l0 x7_1).f1)) ∧ w'.cell? ⟨gb116, 2, none⟩ = some (.int .i64 ((rd_T38 l0 x7_1).f2.f0)) ∧ w'.cell? ⟨gb116, 3, none⟩ = some (.int .i64 ((rd_T38 l0 x7_1).f2.f1)) ∧ w'.cell? ⟨gb116, 4, none⟩ = some (.int .i64 ((rd_T38 l0 x7_1).f3)) ∧ w'.cell? (ad115.add (((ji11)).toNat * 5)) = some (.int .i64 ((rd_T38 l0 (ji11)).f0)) ∧ w'.cell? ⟨(ad115.add (((ji11)).toNat * 5)).block, (ad115.add (((ji11)).toNat * 5)).off + 1, none⟩ = some (.int .i64 ((rd_T38 l0 (ji11)).f1)) ∧ w'.cell? ⟨(ad115.add (((ji11)).toNat * 5)).block, (ad115.add (((ji11)).toNat * 5)).off + 2, none⟩ = some (.int .i64 ((rd_T38 l0 (ji11)).f2.f0)) ∧ w'.cell? ⟨(ad115.add (((ji11)).toNat * 5)).block, (ad115.add (((ji11)).toNat * 5)).off + 3, none⟩ = some (.int .i64 ((rd_T38 l0 (ji11)).f2.f1)) ∧ w'.cell? ⟨(ad115.add (((ji11)).toNat * 5)).block, (ad115.add (((ji11)).toNat * 5)).off + 4, none⟩ = some (.int .i64 ((rd_T38 l0 (ji11)).f3))) (ds := []) b17_0 Q1 rfl rfl ⟨(blk_cell BK116.out 0).trans rfl, (blk_cell BK116.out 1).trans rfl, (blk_cell BK116.out 2).trans rfl, (blk_cell BK116.out 3).trans rfl, (blk_cell BK116.out 4).trans rfl, ((HB.out.cell (World.block_lt_of_cell? w _ hw117_0)).trans hw117_0), ((HB.out.cell (World.block_lt_of_cell? w _ hw117_1)).trans hw117_1), ((HB.out.cell (World.block_lt_of_cell? w _ hw117_2)).trans hw117_2), ((HB.out.cell (World.block_lt_of_cell? w _ hw117_3)).trans hw117_3), ((HB.out.cell (World.block_lt_of_cell? w _ hw117_4)).trans hw117_4)⟩ (fun hHeld => ?_); refine with_tabW impl_BatchOk.tab4 impl_BatchOk.bits4 (fun HT_ HW_ => ?_)
           generalize w18.drew = w19 at BK116 HB hx117_0 hx117_1 hx117_2 hx117_3 hx117_4 hHeld ⊢
           refine pU_ 0 12 b17_1 ?_
           refine tU_ 1 13 b17_2 hHeld ?_
           refine pU_ 2 14 b17_3 ?_
           refine pU_ 3 15 b17_4 ?_
           refine pU_ 4 16 b17_5 ?_
           refine pU_ 5 17 b17_6 ?_
           refine pU_ 6 18 b17_7 ?_
           refine pU_ 7 19 b17_8 ?_
           refine pU_ 8 20 b17_9 ?_
           refine pU_ 9 21 b17_10 ?_
           refine pU_ 10 22 b17_11 ?_
           refine tU_ 11 23 b17_12 hHeld ?_
           refine tU_ 12 24 b17_13 hHeld ?_
           refine one_ (i := 13) (N := some 25) b17_14 rfl rfl (one_of HT_.out Q1) Q0 (fun K hK => ?_)
           refine goes_ Try.func64 Q1 rfl #[.agg #[.int .i64 ((rd_T38 l0 (ji11)).f0), .int .i64 ((rd_T38 l0 (ji11)).f1), .int .i64 ((rd_T38 l0 (ji11)).f2.f0), .int .i64 ((rd_T38 l0 (ji11)).f2.f1), .int .i64 ((rd_T38 l0 (ji11)).f3)], .agg #[.int .i64 ((rd_T38 l0 x7_1).f0), .int .i64 ((rd_T38 l0 x7_1).f1), .int .i64 ((rd_T38 l0 x7_1).f2.f0), .int .i64 ((rd_T38 l0 x7_1).f2.f1), .int .i64 ((rd_T38 l0 x7_1).f3)]] (by rfl) rfl rfl (by (try simp only [List.map_toArray, List.map_cons, List.map_nil]); first | done | (simp only [hji11]; rfl) | rfl | (simp only [List.length_drop, List.length_take]; rfl)) ?_
           with_reducible refine (impl_rowAhead.calls ((rd_T38 l0 (ji11)).f0) ((rd_T38 l0 (ji11)).f1) ((rd_T38 l0 (ji11)).f2.f0) ((rd_T38 l0 (ji11)).f2.f1) ((rd_T38 l0 (ji11)).f3) ((rd_T38 l0 x7_1).f0) ((rd_T38 l0 x7_1).f1) ((rd_T38 l0 x7_1).f2.f0) ((rd_T38 l0 x7_1).f2.f1) ((rd_T38 l0 x7_1).f3) true _ A14.out).mono ?_
           rintro e w20 ⟨rfl, hb⟩
           refine ⟨_, rfl, ?_⟩
           have n0_ := Aside0.mk (blk_below (g := gb116) (o := .cells #[.int .i64 ((rd_T38 l0 x7_1).f0), .int .i64 ((rd_T38 l0 x7_1).f1), .int .i64 ((rd_T38 l0 x7_1).f2.f0), .int .i64 ((rd_T38 l0 x7_1).f2.f1), .int .i64 ((rd_T38 l0 x7_1).f3)] 38 (0, 0)) (by (with_reducible repeat (first | refine blk_drewN ?_ _ | refine blk_drew ?_ | refine blk_alloc ?_ _)); exact BK116.out) hb)
           have n1_ := Aside0.mk (below_step Q71 hb)
           clear BK116
           clear HB
           have BK116 := n0_
           have HB := n1_
           clear n0_ n1_
           (try clear hb)
           (try clear hb2)
           (try clear hk)
           (try clear hi)
           refine hK.out _ _ ⟨(blk_cell BK116.out 0).trans rfl, (blk_cell BK116.out 1).trans rfl, (blk_cell BK116.out 2).trans rfl, (blk_cell BK116.out 3).trans rfl, (blk_cell BK116.out 4).trans rfl, ((HB.out.cell (World.block_lt_of_cell? w _ hw117_0)).trans hw117_0), ((HB.out.cell (World.block_lt_of_cell? w _ hw117_1)).trans hw117_1), ((HB.out.cell (World.block_lt_of_cell? w _ hw117_2)).trans hw117_2), ((HB.out.cell (World.block_lt_of_cell? w _ hw117_3)).trans hw117_3), ((HB.out.cell (World.block_lt_of_cell? w _ hw117_4)).trans hw117_4)⟩ (fun hHeld => ?_)
           clear hK K
           refine norm_ (a' := ?_) ?_ ?_
           rotate_left
           ·show Act.put _ (some 25) _ = _
            simp only [Act.put, List.setIfInBounds_toArray, List.set_cons_zero, List.set_cons_succ, i64_w, i32_w]
            rfl
           refine pU_ 14 26 b17_15 ?_
           refine pU_ 15 27 b17_16 ?_
           refine pU_ 16 28 b17_17 ?_
           refine done_ (done_of HT_.out Q1) ?_
           try go_wp2
           go_roundg k1
           case measure => have := HK1.out; omega
           case rel => exact ⟨(wrap64 (x7_1 + 1)), Q4, H', ⟨Q2⟩, ⟨Q71⟩⟩
          ·replace c15 := Bool.eq_false_iff.mpr c15
           subst c15
           have H1 : (some false) = some r := by rw [if_neg (show ¬ (false = true) by decide)] at H; exact H
           clear H
           have H := H1
           clear H1
           obtain rfl := Option.some.inj H
           have p115 : 0 ≤ (x7_1 : Int) := of_decide_eq_true Q5
           have q115 : x7_1 < (l0.length : Int) := of_decide_eq_true Q5
           obtain ⟨ad115, e115, hx115_0, hx115_1, hx115_2, hx115_3, hx115_4⟩ := at_T38 HR0.out x7_1 p115 q115
           cases e115
           replace hx115_0 := (HB.out.cell (World.block_lt_of_cell? w _ hx115_0)).trans hx115_0
           replace hx115_1 := (HB.out.cell (World.block_lt_of_cell? w _ hx115_1)).trans hx115_1
           replace hx115_2 := (HB.out.cell (World.block_lt_of_cell? w _ hx115_2)).trans hx115_2
           replace hx115_3 := (HB.out.cell (World.block_lt_of_cell? w _ hx115_3)).trans hx115_3
           replace hx115_4 := (HB.out.cell (World.block_lt_of_cell? w _ hx115_4)).trans hx115_4
           replace p115 := eq_true p115
           replace q115 := eq_true q115
           try go_wp2_with (first | ((with_reducible refine gate_dst (N := 4) rfl ?_); refine box_event ?hg (N := 4) ?hd (cs := #[.int .i64 0, .int .i64 0, .int .i64 0, .int .i64 0, .int .i64 0]) (t := 38) ?hr ?_; (case hd => rfl); (case hg => rfl); (case hr => first | (go_simp; done) | (go_simp; rfl)); intro gb116 hg w21 hbox hb; have n0_ := Aside0.mk (below_step Q64 hb); have n1_ := Aside0.mk (hbox); have n2_ := Aside0.mk ((Q105 : w.heap.size ≤ gb116)); have n3_ := n2_; clear HB; have HB := n0_; have BK116 := n1_; have GW116 := n2_; have GE116 := n3_; clear n0_ n1_ n2_ n3_; clear hb hbox hg; have hcz22_0 : w21.cell? ⟨gb116, 0, none⟩ = some (.int .i64 0) := (blk_cell BK116.out 0).trans rfl; have hcz22_1 : w21.cell? ⟨gb116, 1, none⟩ = some (.int .i64 0) := (blk_cell BK116.out 1).trans rfl; have hcz22_2 : w21.cell? ⟨gb116, 2, none⟩ = some (.int .i64 0) := (blk_cell BK116.out 2).trans rfl; have hcz22_3 : w21.cell? ⟨gb116, 3, none⟩ = some (.int .i64 0) := (blk_cell BK116.out 3).trans rfl; have hcz22_4 : w21.cell? ⟨gb116, 4, none⟩ = some (.int .i64 0) := (blk_cell BK116.out 4).trans rfl; have hfz22_0 := blk_frozen BK116.out 0; have hfz22_1 := blk_frozen BK116.out 1; have hfz22_2 := blk_frozen BK116.out 2; have hfz22_3 := blk_frozen BK116.out 3; have hfz22_4 := blk_frozen BK116.out 4))
           have n0_ : Aside0 ((((((w21.setCell ⟨gb116, 0, none⟩ (.int .i64 ((rd_T38 l0 x7_1).f0))).setCell ⟨gb116, 1, none⟩ (.int .i64 ((rd_T38 l0 x7_1).f1))).setCell ⟨gb116, 2, none⟩ (.int .i64 ((rd_T38 l0 x7_1).f2.f0))).setCell ⟨gb116, 3, none⟩ (.int .i64 ((rd_T38 l0 x7_1).f2.f1))).setCell ⟨gb116, 4, none⟩ (.int .i64 ((rd_T38 l0 x7_1).f3))).heap[gb116]? = some (.cells #[.int .i64 ((rd_T38 l0 x7_1).f0), .int .i64 ((rd_T38 l0 x7_1).f1), .int .i64 ((rd_T38 l0 x7_1).f2.f0), .int .i64 ((rd_T38 l0 x7_1).f2.f1), .int .i64 ((rd_T38 l0 x7_1).f3)] 38 (0, 0))) := ⟨Q104⟩
           have n1_ : Aside0 (Below w.heap.size w (((((w21.setCell ⟨gb116, 0, none⟩ (.int .i64 ((rd_T38 l0 x7_1).f0))).setCell ⟨gb116, 1, none⟩ (.int .i64 ((rd_T38 l0 x7_1).f1))).setCell ⟨gb116, 2, none⟩ (.int .i64 ((rd_T38 l0 x7_1).f2.f0))).setCell ⟨gb116, 3, none⟩ (.int .i64 ((rd_T38 l0 x7_1).f2.f1))).setCell ⟨gb116, 4, none⟩ (.int .i64 ((rd_T38 l0 x7_1).f3)))) := ⟨Q71⟩
           (try clear BK116)
           (try clear HB)
           generalize (((((w21.setCell ⟨gb116, 0, none⟩ (.int .i64 ((rd_T38 l0 x7_1).f0))).setCell ⟨gb116, 1, none⟩ (.int .i64 ((rd_T38 l0 x7_1).f1))).setCell ⟨gb116, 2, none⟩ (.int .i64 ((rd_T38 l0 x7_1).f2.f0))).setCell ⟨gb116, 3, none⟩ (.int .i64 ((rd_T38 l0 x7_1).f2.f1))).setCell ⟨gb116, 4, none⟩ (.int .i64 ((rd_T38 l0 x7_1).f3))) = w23 at n0_ n1_ ⊢
           have BK116 := n0_
           have HB := n1_
           clear n0_ n1_
           have n0_ := Aside0.mk (blk_drew BK116.out)
           have n1_ := Aside0.mk (below_drew1 HB.out)
           clear BK116
           clear HB
           have BK116 := n0_
           have HB := n1_
           clear n0_ n1_
           have p117 : 0 ≤ ((ji11) : Int) := of_decide_eq_true Q5
           have q117 : (ji11) < (l0.length : Int) := of_decide_eq_true Q5
           obtain ⟨ad117, e117, hx117_0, hx117_1, hx117_2, hx117_3, hx117_4⟩ := at_T38 HR0.out (ji11) p117 q117
           have hw117_4 := hx117_4
           have hw117_3 := hx117_3
           have hw117_2 := hx117_2
           have hw117_1 := hx117_1
           have hw117_0 := hx117_0
           obtain rfl : ad115 = ad117 := (by injection e117)
           replace hx117_0 := (HB.out.cell (World.block_lt_of_cell? w _ hx117_0)).trans hx117_0
           replace hx117_1 := (HB.out.cell (World.block_lt_of_cell? w _ hx117_1)).trans hx117_1
           replace hx117_2 := (HB.out.cell (World.block_lt_of_cell? w _ hx117_2)).trans hx117_2
           replace hx117_3 := (HB.out.cell (World.block_lt_of_cell? w _ hx117_3)).trans hx117_3
           replace hx117_4 := (HB.out.cell (World.block_lt_of_cell? w _ hx117_4)).trans hx117_4
           replace p117 := eq_true p117
           replace q117 := eq_true q117
           refine start_ (n := 17) (S := fun w' => w'.cell? ⟨gb116, 0, none⟩ = some (.int .i64 ((rd_T38 l0 x7_1).f0)) ∧ w'.cell? ⟨gb116, 1, none⟩ = some (.int .i64 ((rd_T38 l0 x7_1).f1)) ∧ w'.cell? ⟨gb116, 2, none⟩ = some (.int .i64 ((rd_T38 l0 x7_1).f2.f0)) ∧ w'.cell? ⟨gb116, 3, none⟩ = some (.int .i64 ((rd_T38 l0 x7_1).f2.f1)) ∧ w'.cell? ⟨gb116, 4, none⟩ = some (.int .i64 ((rd_T38 l0 x7_1).f3)) ∧ w'.cell? (ad115.add (((ji11)).toNat * 5)) = some (.int .i64 ((rd_T38 l0 (ji11)).f0)) ∧ w'.cell? ⟨(ad115.add (((ji11)).toNat * 5)).block, (ad115.add (((ji11)).toNat * 5)).off + 1, none⟩ = some (.int .i64 ((rd_T38 l0 (ji11)).f1)) ∧ w'.cell? ⟨(ad115.add (((ji11)).toNat * 5)).block, (ad115.add (((ji11)).toNat * 5)).off + 2, none⟩ = some (.int .i64 ((rd_T38 l0 (ji11)).f2.f0)) ∧ w'.cell? ⟨(ad115.add (((ji11)).toNat * 5)).block, (ad115.add (((ji11)).toNat * 5)).off + 3, none⟩ = some (.int .i64 ((rd_T38 l0 (ji11)).f2.f1)) ∧ w'.cell? ⟨(ad115.add (((ji11)).toNat * 5)).block, (ad115.add (((ji11)).toNat * 5)).off + 4, none⟩ = some (.int .i64 ((rd_T38 l0 (ji11)).f3))) (ds := []) b17_0 Q1 rfl rfl ⟨(blk_cell BK116.out 0).trans rfl, (blk_cell BK116.out 1).trans rfl, (blk_cell BK116.out 2).trans rfl, (blk_cell BK116.out 3).trans rfl, (blk_cell BK116.out 4).trans rfl, ((HB.out.cell (World.block_lt_of_cell? w _ hw117_0)).trans hw117_0), ((HB.out.cell (World.block_lt_of_cell? w _ hw117_1)).trans hw117_1), ((HB.out.cell (World.block_lt_of_cell? w _ hw117_2)).trans hw117_2), ((HB.out.cell (World.block_lt_of_cell? w _ hw117_3)).trans hw117_3), ((HB.out.cell (World.block_lt_of_cell? w _ hw117_4)).trans hw117_4)⟩ (fun hHeld => ?_); refine with_tabW impl_BatchOk.tab4 impl_BatchOk.bits4 (fun HT_ HW_ => ?_)
           generalize w23.drew = w24 at BK116 HB hx117_0 hx117_1 hx117_2 hx117_3 hx117_4 hHeld ⊢
           refine pU_ 0 12 b17_1 ?_
           refine tU_ 1 13 b17_2 hHeld ?_
           refine pU_ 2 14 b17_3 ?_
           refine pU_ 3 15 b17_4 ?_
           refine pU_ 4 16 b17_5 ?_
           refine pU_ 5 17 b17_6 ?_
           refine pU_ 6 18 b17_7 ?_
           refine pU_ 7 19 b17_8 ?_
           refine pU_ 8 20 b17_9 ?_
           refine pU_ 9 21 b17_10 ?_
           refine pU_ 10 22 b17_11 ?_
           refine tU_ 11 23 b17_12 hHeld ?_
           refine tU_ 12 24 b17_13 hHeld ?_
           refine one_ (i := 13) (N := some 25) b17_14 rfl rfl (one_of HT_.out Q1) Q0 (fun K hK => ?_)
           refine goes_ Try.func64 Q1 rfl #[.agg #[.int .i64 ((rd_T38 l0 (ji11)).f0), .int .i64 ((rd_T38 l0 (ji11)).f1), .int .i64 ((rd_T38 l0 (ji11)).f2.f0), .int .i64 ((rd_T38 l0 (ji11)).f2.f1), .int .i64 ((rd_T38 l0 (ji11)).f3)], .agg #[.int .i64 ((rd_T38 l0 x7_1).f0), .int .i64 ((rd_T38 l0 x7_1).f1), .int .i64 ((rd_T38 l0 x7_1).f2.f0), .int .i64 ((rd_T38 l0 x7_1).f2.f1), .int .i64 ((rd_T38 l0 x7_1).f3)]] (by rfl) rfl rfl (by (try simp only [List.map_toArray, List.map_cons, List.map_nil]); first | done | (simp only [hji11]; rfl) | rfl | (simp only [List.length_drop, List.length_take]; rfl)) ?_
           with_reducible refine (impl_rowAhead.calls ((rd_T38 l0 (ji11)).f0) ((rd_T38 l0 (ji11)).f1) ((rd_T38 l0 (ji11)).f2.f0) ((rd_T38 l0 (ji11)).f2.f1) ((rd_T38 l0 (ji11)).f3) ((rd_T38 l0 x7_1).f0) ((rd_T38 l0 x7_1).f1) ((rd_T38 l0 x7_1).f2.f0) ((rd_T38 l0 x7_1).f2.f1) ((rd_T38 l0 x7_1).f3) false _ A14.out).mono ?_
           rintro e w25 ⟨rfl, hb⟩
           refine ⟨_, rfl, ?_⟩
           have n0_ := Aside0.mk (blk_below (g := gb116) (o := .cells #[.int .i64 ((rd_T38 l0 x7_1).f0), .int .i64 ((rd_T38 l0 x7_1).f1), .int .i64 ((rd_T38 l0 x7_1).f2.f0), .int .i64 ((rd_T38 l0 x7_1).f2.f1), .int .i64 ((rd_T38 l0 x7_1).f3)] 38 (0, 0)) (by (with_reducible repeat (first | refine blk_drewN ?_ _ | refine blk_drew ?_ | refine blk_alloc ?_ _)); exact BK116.out) hb)
           have n1_ := Aside0.mk (below_step Q71 hb)
           clear BK116
           clear HB
           have BK116 := n0_
           have HB := n1_
           clear n0_ n1_
           (try clear hb)
           (try clear hb2)
           (try clear hk)
           (try clear hi)
           refine hK.out _ _ ⟨(blk_cell BK116.out 0).trans rfl, (blk_cell BK116.out 1).trans rfl, (blk_cell BK116.out 2).trans rfl, (blk_cell BK116.out 3).trans rfl, (blk_cell BK116.out 4).trans rfl, ((HB.out.cell (World.block_lt_of_cell? w _ hw117_0)).trans hw117_0), ((HB.out.cell (World.block_lt_of_cell? w _ hw117_1)).trans hw117_1), ((HB.out.cell (World.block_lt_of_cell? w _ hw117_2)).trans hw117_2), ((HB.out.cell (World.block_lt_of_cell? w _ hw117_3)).trans hw117_3), ((HB.out.cell (World.block_lt_of_cell? w _ hw117_4)).trans hw117_4)⟩ (fun hHeld => ?_)
           clear hK K
           refine norm_ (a' := ?_) ?_ ?_
           rotate_left
           ·show Act.put _ (some 25) _ = _
            simp only [Act.put, List.setIfInBounds_toArray, List.set_cons_zero, List.set_cons_succ, i64_w, i32_w]
            rfl
           refine pU_ 14 26 b17_15 ?_
           refine pU_ 15 27 b17_16 ?_
           refine pU_ 16 28 b17_17 ?_
           refine done_ (done_of HT_.out Q1) ?_
           try go_wp2
           go_ret
           exact ⟨by first | rfl | (simp [errW_none, errW_some] <;> rfl) | (simp only [← hji11]; first | rfl | (simp [errW_none, errW_some] <;> rfl)) | (simp [*, errW_none, errW_some] <;> rfl), Q71⟩
         ·rw [if_neg c13] at H
          exact absurd H (by simp)
        ·rw [if_neg c12] at H
         exact absurd H (by simp)
       ·rw [if_neg c10] at H
        have c10b0 : decide (0 < x7_1) = false := decide_eq_false c10
        clear c10
        have H' := Aside0.mk H
        clear H
        have p115 : 0 ≤ (x7_1 : Int) := of_decide_eq_true Q5
        have q115 : x7_1 < (l0.length : Int) := of_decide_eq_true Q5
        obtain ⟨ad115, e115, hx115_0, hx115_1, hx115_2, hx115_3, hx115_4⟩ := at_T38 HR0.out x7_1 p115 q115
        cases e115
        replace hx115_0 := (HB.out.cell (World.block_lt_of_cell? w _ hx115_0)).trans hx115_0
        replace hx115_1 := (HB.out.cell (World.block_lt_of_cell? w _ hx115_1)).trans hx115_1
        replace hx115_2 := (HB.out.cell (World.block_lt_of_cell? w _ hx115_2)).trans hx115_2
        replace hx115_3 := (HB.out.cell (World.block_lt_of_cell? w _ hx115_3)).trans hx115_3
        replace hx115_4 := (HB.out.cell (World.block_lt_of_cell? w _ hx115_4)).trans hx115_4
        replace p115 := eq_true p115
        replace q115 := eq_true q115
        try go_wp2_with (first | ((with_reducible refine gate_dst (N := 4) rfl ?_); refine box_event ?hg (N := 4) ?hd (cs := #[.int .i64 0, .int .i64 0, .int .i64 0, .int .i64 0, .int .i64 0]) (t := 38) ?hr ?_; (case hd => rfl); (case hg => rfl); (case hr => first | (go_simp; done) | (go_simp; rfl)); intro gb116 hg w26 hbox hb; have n0_ := Aside0.mk (below_step Q64 hb); have n1_ := Aside0.mk (hbox); have n2_ := Aside0.mk ((Q105 : w.heap.size ≤ gb116)); have n3_ := n2_; clear HB; have HB := n0_; have BK116 := n1_; have GW116 := n2_; have GE116 := n3_; clear n0_ n1_ n2_ n3_; clear hb hbox hg; have hcz27_0 : w26.cell? ⟨gb116, 0, none⟩ = some (.int .i64 0) := (blk_cell BK116.out 0).trans rfl; have hcz27_1 : w26.cell? ⟨gb116, 1, none⟩ = some (.int .i64 0) := (blk_cell BK116.out 1).trans rfl; have hcz27_2 : w26.cell? ⟨gb116, 2, none⟩ = some (.int .i64 0) := (blk_cell BK116.out 2).trans rfl; have hcz27_3 : w26.cell? ⟨gb116, 3, none⟩ = some (.int .i64 0) := (blk_cell BK116.out 3).trans rfl; have hcz27_4 : w26.cell? ⟨gb116, 4, none⟩ = some (.int .i64 0) := (blk_cell BK116.out 4).trans rfl; have hfz27_0 := blk_frozen BK116.out 0; have hfz27_1 := blk_frozen BK116.out 1; have hfz27_2 := blk_frozen BK116.out 2; have hfz27_3 := blk_frozen BK116.out 3; have hfz27_4 := blk_frozen BK116.out 4))
        have n0_ : Aside0 ((((((w26.setCell ⟨gb116, 0, none⟩ (.int .i64 ((rd_T38 l0 x7_1).f0))).setCell ⟨gb116, 1, none⟩ (.int .i64 ((rd_T38 l0 x7_1).f1))).setCell ⟨gb116, 2, none⟩ (.int .i64 ((rd_T38 l0 x7_1).f2.f0))).setCell ⟨gb116, 3, none⟩ (.int .i64 ((rd_T38 l0 x7_1).f2.f1))).setCell ⟨gb116, 4, none⟩ (.int .i64 ((rd_T38 l0 x7_1).f3))).heap[gb116]? = some (.cells #[.int .i64 ((rd_T38 l0 x7_1).f0), .int .i64 ((rd_T38 l0 x7_1).f1), .int .i64 ((rd_T38 l0 x7_1).f2.f0), .int .i64 ((rd_T38 l0 x7_1).f2.f1), .int .i64 ((rd_T38 l0 x7_1).f3)] 38 (0, 0))) := ⟨Q104⟩
        have n1_ : Aside0 (Below w.heap.size w (((((w26.setCell ⟨gb116, 0, none⟩ (.int .i64 ((rd_T38 l0 x7_1).f0))).setCell ⟨gb116, 1, none⟩ (.int .i64 ((rd_T38 l0 x7_1).f1))).setCell ⟨gb116, 2, none⟩ (.int .i64 ((rd_T38 l0 x7_1).f2.f0))).setCell ⟨gb116, 3, none⟩ (.int .i64 ((rd_T38 l0 x7_1).f2.f1))).setCell ⟨gb116, 4, none⟩ (.int .i64 ((rd_T38 l0 x7_1).f3)))) := ⟨Q71⟩
        (try clear BK116)
        (try clear HB)
        generalize (((((w26.setCell ⟨gb116, 0, none⟩ (.int .i64 ((rd_T38 l0 x7_1).f0))).setCell ⟨gb116, 1, none⟩ (.int .i64 ((rd_T38 l0 x7_1).f1))).setCell ⟨gb116, 2, none⟩ (.int .i64 ((rd_T38 l0 x7_1).f2.f0))).setCell ⟨gb116, 3, none⟩ (.int .i64 ((rd_T38 l0 x7_1).f2.f1))).setCell ⟨gb116, 4, none⟩ (.int .i64 ((rd_T38 l0 x7_1).f3))) = w28 at n0_ n1_ ⊢
        have BK116 := n0_
        have HB := n1_
        clear n0_ n1_
        have n0_ := Aside0.mk (blk_drew BK116.out)
        have n1_ := Aside0.mk (below_drew1 HB.out)
        clear BK116
        clear HB
        have BK116 := n0_
        have HB := n1_
        clear n0_ n1_
        refine start_ (n := 17) (S := fun w' => w'.cell? ⟨gb116, 0, none⟩ = some (.int .i64 ((rd_T38 l0 x7_1).f0)) ∧ w'.cell? ⟨gb116, 1, none⟩ = some (.int .i64 ((rd_T38 l0 x7_1).f1)) ∧ w'.cell? ⟨gb116, 2, none⟩ = some (.int .i64 ((rd_T38 l0 x7_1).f2.f0)) ∧ w'.cell? ⟨gb116, 3, none⟩ = some (.int .i64 ((rd_T38 l0 x7_1).f2.f1)) ∧ w'.cell? ⟨gb116, 4, none⟩ = some (.int .i64 ((rd_T38 l0 x7_1).f3))) (ds := []) b17_0 Q1 rfl rfl ⟨(blk_cell BK116.out 0).trans rfl, (blk_cell BK116.out 1).trans rfl, (blk_cell BK116.out 2).trans rfl, (blk_cell BK116.out 3).trans rfl, (blk_cell BK116.out 4).trans rfl⟩ (fun hHeld => ?_); refine with_tabW impl_BatchOk.tab4 impl_BatchOk.bits4 (fun HT_ HW_ => ?_)
        generalize w28.drew = w29 at BK116 HB hHeld ⊢
        refine pU_ 0 12 b17_1 ?_
        refine tU_ 1 13 b17_2 hHeld ?_
        refine pU_ 2 14 b17_3 ?_
        refine pU_ 3 15 b17_4 ?_
        refine pU_ 4 16 b17_5 ?_
        refine pU_ 5 17 b17_6 ?_
        refine pU_ 6 18 b17_7 ?_
        refine pV_ 7 19 b17_8 ?_
        refine pV_ 8 20 b17_9 ?_
        refine pV_ 9 21 b17_10 ?_
        refine pV_ 10 22 b17_11 ?_
        refine pV_ 11 23 b17_12 ?_
        refine pV_ 12 24 b17_13 ?_
        refine pV_ 13 25 b17_14 ?_
        refine pV_ 14 26 b17_15 ?_
        refine pU_ 15 27 b17_16 ?_
        refine pU_ 16 28 b17_17 ?_
        refine done_ (done_of HT_.out Q1) ?_
        try go_wp2
        go_roundg k1
        case measure => have := HK1.out; omega
        case rel => exact ⟨(wrap64 (x7_1 + 1)), Q4, H', ⟨Q2⟩, ⟨Q71⟩⟩
     ·rw [if_neg c4] at H
      exact absurd H (by simp)
    ·rw [if_neg c3] at H
     exact absurd H (by simp)
   ·rw [if_neg c2] at H
    have c2b0 : decide (x7_1 < (l0.length : Int)) = false := decide_eq_false c2
    clear c2
    replace H := Option.bind_eq_some_iff.mp H
    obtain ⟨t119, A300, H⟩ := H
    replace H : (some t119) = some r := H
    have A30 := Aside0.mk A300
    clear A300
    obtain rfl := Option.some.inj H
    go_wp2_with (first | ((with_reducible refine gate_callee (f := 39) rfl ?_); refine goesL_ (some 31) rfl rfl Try.func39 Q1 rfl #[.slice A0 l0.length c0] rfl Q65 ?_; (with_reducible refine (impl_RowsOk.calls k1 _ _ l0 t119 _ ?side1 ?side2 A30.out).mono ?_); (case side1 => repeat (first | exact (Kd.C_below HR0.out HB.out) | (with_reducible refine Kd.C_alloc ?_ _) | (with_reducible refine Kd.C_drewN ?_ _) | (with_reducible refine Kd.C_drew ?_))); (case side2 => exact HC0.out); rintro e w31 ⟨rfl, hb⟩; refine ⟨_, rfl, ?_⟩; have n0_ := Aside0.mk (below_step Q64 hb); clear HB; have HB := n0_; clear n0_; (try clear hb); (try clear hb2); (try clear hk); (try clear hi)))
    go_ret
    exact ⟨Q12, Q64⟩
noncomputable def impl_batch.f (k : Nat) (l0 : List (S38)) : Option ((List (S38)) × Bool) := (impl_consolidated.f l0).bind fun t122 => ((impl_BatchOk.f k t122).bind fun t125 => (if t125 = true then (some (t122, true)) else (some (([] : List (S38)), false))))
theorem impl_batch.mono : ∀ a0 k, LeO (impl_batch.f k a0) (impl_batch.f (k + 1) a0) := by
 intro a0 k
 unfold impl_batch.f
 repeat' first
   | (with_reducible exact impl_BatchOk.mono _ _)
   | (with_reducible exact LeO.refl _)
   | (with_reducible exact LeO.none _)
   | (with_reducible refine LeO.ite ?_ ?_)
   | (with_reducible refine LeO.bind ?_ (fun _ => ?_))
   | exact impl_BatchOk.mono _ _
   | exact LeO.none _
   | refine LeO.ite ?_ ?_
   | refine LeO.bind ?_ (fun _ => ?_)
set_option maxHeartbeats 8000000 in
set_option maxRecDepth 100000 in
theorem impl_batch.calls (k : Nat) (A0 : Option Addr) (c0 : Nat) (l0 : List (S38)) (r1 : List (S38)) (r2 : Bool) (w : World) (hr0 : Kd.C k38 w A0 l0.length l0) (hc0 : l0.length ≤ c0) (h : impl_batch.f k l0 = some (r1, r2)) :
  Calls Try.prog 54 #[.slice A0 l0.length c0] w fun e w' => ∃ v0_ : Value, e = .returned (.tuple #[v0_, .bool r2]) ∧ Kd.R k38 38 w' w.heap.size (fun _ => True) v0_ r1 ∧ Below w.heap.size w w' := by
 have HR0 := Aside0.mk hr0
 have HC0 := Aside0.mk hc0
 clear hr0 hc0
 have HB := Aside0.mk (Below.refl w.heap.size w)
 have H : ((impl_consolidated.f l0).bind fun t122 => ((impl_BatchOk.f k t122).bind fun t125 => (if t125 = true then (some (t122, true)) else (some (([] : List (S38)), false))))) = some (r1, r2) := h
 clear h
 replace H := Option.bind_eq_some_iff.mp H
 obtain ⟨t122, A20, H⟩ := H
 replace H : ((impl_BatchOk.f k t122).bind fun t125 => (if t125 = true then (some (t122, true)) else (some (([] : List (S38)), false)))) = some (r1, r2) := H
 have A2 := Aside0.mk A20
 clear A20
 replace H := Option.bind_eq_some_iff.mp H
 obtain ⟨t125, A30, H⟩ := H
 replace H : (if t125 = true then (some (t122, true)) else (some (([] : List (S38)), false))) = some (r1, r2) := H
 have A3 := Aside0.mk A30
 clear A30
 by_cases c4 : t125 = true
 ·subst c4
  have H1 : (some (t122, true)) = some (r1, r2) := by rw [if_pos rfl] at H; exact H
  clear H
  have H := H1
  clear H1
  simp only [Option.some.injEq, Prod.mk.injEq] at H
  obtain ⟨rfl, rfl⟩ := H
  go_enter Try.func54, Try.ntmps54
  go_wp2_with (first | ((with_reducible refine gate_callee (f := 84) rfl ?_); refine goesL_ (some 6) rfl rfl Try.func84 Q1 rfl #[.slice A0 l0.length c0] rfl Q65 ?_; (with_reducible refine (impl_consolidated.calls _ _ l0 t122 _ ?side1 ?side2 A2.out).mono ?_); (case side1 => repeat (first | exact HR0.out | (with_reducible refine Kd.C_alloc ?_ _) | (with_reducible refine Kd.C_drewN ?_ _) | (with_reducible refine Kd.C_drew ?_))); (case side2 => exact HC0.out); rintro e w5 ⟨v123, rfl, ho0, hb⟩; refine ⟨_, rfl, ?_⟩; have n0_ := Aside0.mk (Kd.R_lower ho0 (below_size Q64)); have n1_ := Aside0.mk (below_step Q64 hb); clear HB; have HO124 := n0_; have HB := n1_; clear n0_ n1_; (try clear hb); (try clear hb2); (try clear hk); (try clear hi); (try clear ho0); obtain ⟨Ao6, co6, eo6⟩ := Kd.R_slice HO124.out; subst eo6) | ((with_reducible refine gate_callee (f := 24) rfl ?_); refine goesL_ (some 8) rfl rfl Try.func24 Q1 rfl #[.slice Ao6 t122.length co6] rfl Q65 ?_; (with_reducible refine (impl_BatchOk.calls k _ _ t122 true _ ?side1 ?side2 A3.out).mono ?_); (case side1 => repeat (first | exact (Kd.R_reads' HO124.out).2.2 | (with_reducible refine Kd.C_alloc ?_ _) | (with_reducible refine Kd.C_drewN ?_ _) | (with_reducible refine Kd.C_drew ?_))); (case side2 => exact (Kd.R_reads' HO124.out).2.1); rintro e w7 ⟨rfl, hb⟩; refine ⟨_, rfl, ?_⟩; have n0_ := Aside0.mk (Kd.R_below Q20 hb); have n1_ := Aside0.mk (below_step Q64 hb); clear HO124; clear HB; have HO124 := n0_; have HB := n1_; clear n0_ n1_; (try clear hb); (try clear hb2); (try clear hk); (try clear hi)))
  go_ret2
  exact ⟨_, Q12, Q20, Q64⟩
 ·replace c4 := Bool.eq_false_iff.mpr c4
  subst c4
  have H1 : (some (([] : List (S38)), false)) = some (r1, r2) := by rw [if_neg (show ¬ (false = true) by decide)] at H; exact H
  clear H
  have H := H1
  clear H1
  simp only [Option.some.injEq, Prod.mk.injEq] at H
  obtain ⟨rfl, rfl⟩ := H
  go_enter Try.func54, Try.ntmps54
  go_wp2_with (first | ((with_reducible refine gate_callee (f := 84) rfl ?_); refine goesL_ (some 6) rfl rfl Try.func84 Q1 rfl #[.slice A0 l0.length c0] rfl Q65 ?_; (with_reducible refine (impl_consolidated.calls _ _ l0 t122 _ ?side1 ?side2 A2.out).mono ?_); (case side1 => repeat (first | exact HR0.out | (with_reducible refine Kd.C_alloc ?_ _) | (with_reducible refine Kd.C_drewN ?_ _) | (with_reducible refine Kd.C_drew ?_))); (case side2 => exact HC0.out); rintro e w8 ⟨v123, rfl, ho0, hb⟩; refine ⟨_, rfl, ?_⟩; have n0_ := Aside0.mk (Kd.R_lower ho0 (below_size Q64)); have n1_ := Aside0.mk (below_step Q64 hb); clear HB; have HO124 := n0_; have HB := n1_; clear n0_ n1_; (try clear hb); (try clear hb2); (try clear hk); (try clear hi); (try clear ho0); obtain ⟨Ao9, co9, eo9⟩ := Kd.R_slice HO124.out; subst eo9) | ((with_reducible refine gate_callee (f := 24) rfl ?_); refine goesL_ (some 8) rfl rfl Try.func24 Q1 rfl #[.slice Ao9 t122.length co9] rfl Q65 ?_; (with_reducible refine (impl_BatchOk.calls k _ _ t122 false _ ?side1 ?side2 A3.out).mono ?_); (case side1 => repeat (first | exact (Kd.R_reads' HO124.out).2.2 | (with_reducible refine Kd.C_alloc ?_ _) | (with_reducible refine Kd.C_drewN ?_ _) | (with_reducible refine Kd.C_drew ?_))); (case side2 => exact (Kd.R_reads' HO124.out).2.1); rintro e w10 ⟨rfl, hb⟩; refine ⟨_, rfl, ?_⟩; have n0_ := Aside0.mk (Kd.R_below Q20 hb); have n1_ := Aside0.mk (below_step Q64 hb); clear HO124; clear HB; have HO124 := n0_; have HB := n1_; clear n0_ n1_; (try clear hb); (try clear hb2); (try clear hk); (try clear hi)))
  go_ret2
  exact ⟨_, Q12, by first | exact Kd.R_nil _ _ _ _ _ | exact Kd.N_nil _ _ _ _ _ | exact Kd.V_nil _ _ _ _ _ | exact Kd.Q_nil _ _ _ _ _ | exact Kd.S_nil _ _ _ _ _, Q64⟩
def impl_TimeJoin.f (a0_0 : Int) (a0_1 : Int) (a1_0 : Int) (a1_1 : Int) : Option (Int × Int) := (impl_TimeOk.f a0_0 a0_1).bind fun t129 => (if t129 = true then ((impl_TimeOk.f a1_0 a1_1).bind fun t130 => (if t130 = true then (some (mx a0_0 a1_0, mx a0_1 a1_1)) else (some (0, 0)))) else (some (0, 0)))
set_option maxHeartbeats 8000000 in
set_option maxRecDepth 100000 in
theorem impl_TimeJoin.calls (a0_0 : Int) (a0_1 : Int) (a1_0 : Int) (a1_1 : Int) (r1 : Int) (r2 : Int) (w : World) (h : impl_TimeJoin.f a0_0 a0_1 a1_0 a1_1 = some (r1, r2)) :
  Calls Try.prog 98 #[.agg #[.int .i64 a0_0, .int .i64 a0_1], .agg #[.int .i64 a1_0, .int .i64 a1_1]] w fun e w' => e = .returned (.agg #[.int .i64 r1, .int .i64 r2]) ∧ Below w.heap.size w w' := by
 have hu36 := Try.underlying36
 have HB := Aside0.mk (Below.refl w.heap.size w)
 have H : ((impl_TimeOk.f a0_0 a0_1).bind fun t129 => (if t129 = true then ((impl_TimeOk.f a1_0 a1_1).bind fun t130 => (if t130 = true then (some (mx a0_0 a1_0, mx a0_1 a1_1)) else (some (0, 0)))) else (some (0, 0)))) = some (r1, r2) := h
 clear h
 replace H := Option.bind_eq_some_iff.mp H
 obtain ⟨t129, A30, H⟩ := H
 replace H : (if t129 = true then ((impl_TimeOk.f a1_0 a1_1).bind fun t130 => (if t130 = true then (some (mx a0_0 a1_0, mx a0_1 a1_1)) else (some (0, 0)))) else (some (0, 0))) = some (r1, r2) := H
 have A3 := Aside0.mk A30
 clear A30
 by_cases c4 : t129 = true
 ·subst c4
  have H1 : ((impl_TimeOk.f a1_0 a1_1).bind fun t130 => (if t130 = true then (some (mx a0_0 a1_0, mx a0_1 a1_1)) else (some (0, 0)))) = some (r1, r2) := by rw [if_pos rfl] at H; exact H
  clear H
  have H := H1
  clear H1
  replace H := Option.bind_eq_some_iff.mp H
  obtain ⟨t130, A50, H⟩ := H
  replace H : (if t130 = true then (some (mx a0_0 a1_0, mx a0_1 a1_1)) else (some (0, 0))) = some (r1, r2) := H
  have A5 := Aside0.mk A50
  clear A50
  by_cases c6 : t130 = true
  ·subst c6
   have H1 : (some (mx a0_0 a1_0, mx a0_1 a1_1)) = some (r1, r2) := by rw [if_pos rfl] at H; exact H
   clear H
   have H := H1
   clear H1
   obtain ⟨ji7, hji7⟩ : ∃ j_ : Int, (mx a0_0 a1_0) = j_ := ⟨_, rfl⟩
   replace H : (some (ji7, mx a0_1 a1_1)) = some (r1, r2) := by first | (rw [hji7] at H; exact H) | (simp only [hji7] at H ⊢; exact H)
   (try rw [hji7] at A3)
   (try rw [hji7] at A5)
   have hji7_ : (if a0_0 < a1_0 then a1_0 else a0_0) = ji7 := hji7
   obtain ⟨ji8, hji8⟩ : ∃ j_ : Int, (mx a0_1 a1_1) = j_ := ⟨_, rfl⟩
   replace H : (some (ji7, ji8)) = some (r1, r2) := by first | (rw [hji8] at H; exact H) | (simp only [hji8] at H ⊢; exact H)
   (try rw [hji8] at A3)
   (try rw [hji8] at A5)
   have hji8_ : (if a0_1 < a1_1 then a1_1 else a0_1) = ji8 := hji8
   simp only [Option.some.injEq, Prod.mk.injEq] at H
   obtain ⟨rfl, rfl⟩ := H
   go_enter Try.func98, Try.ntmps98
   go_wp2_with (first | ((with_reducible refine gate_dst (N := 2) rfl ?_); refine box_event ?hg (N := 2) ?hd (cs := #[.int .i64 a0_0, .int .i64 a0_1]) (t := 36) ?hr ?_; (case hd => rfl); (case hg => rfl); (case hr => first | (go_simp; done) | (go_simp; rfl)); intro gb126 hg w9 hbox hb; have n0_ := Aside0.mk (below_step Q64 hb); have n1_ := Aside0.mk (hbox); have n2_ := Aside0.mk ((Q105 : w.heap.size ≤ gb126)); have n3_ := n2_; clear HB; have HB := n0_; have BK126 := n1_; have GW126 := n2_; have GE126 := n3_; clear n0_ n1_ n2_ n3_; clear hb hbox hg) | ((with_reducible refine gate_dst (N := 3) rfl ?_); refine box_event ?hg (N := 3) ?hd (cs := #[.int .i64 a1_0, .int .i64 a1_1]) (t := 36) ?hr ?_; (case hd => rfl); (case hg => rfl); (case hr => first | (go_simp; done) | (go_simp; rfl)); intro gb127 hg w10 hbox hb; have n0_ := Aside0.mk (blk_below (g := gb126) (o := .cells #[.int .i64 a0_0, .int .i64 a0_1] 36 (0, 0)) Q34 hb); have n1_ := Aside0.mk (below_step Q72 hb); have n2_ := Aside0.mk (hbox); have n3_ := Aside0.mk ((by rw [hg]; exact (below_size Q72) : w.heap.size ≤ gb127)); have n4_ := n3_; have n5_ := Aside0.mk ((Q110 : gb126 ≠ gb127)); have n6_ := Aside0.mk ((Q111 : gb127 ≠ gb126)); clear BK126; clear HB; have BK126 := n0_; have HB := n1_; have BK127 := n2_; have GW127 := n3_; have GE127 := n4_; have NB126_127 := n5_; have NB127_126 := n6_; clear n0_ n1_ n2_ n3_ n4_ n5_ n6_; clear hb hbox hg) | ((with_reducible refine gate_dst (N := 4) rfl ?_); refine box_event ?hg (N := 4) ?hd (cs := #[.int .i64 0, .int .i64 0]) (t := 36) ?hr ?_; (case hd => rfl); (case hg => rfl); (case hr => first | (go_simp; done) | (go_simp; rfl)); intro gb128 hg w11 hbox hb; have n0_ := Aside0.mk (blk_below (g := gb126) (o := .cells #[.int .i64 a0_0, .int .i64 a0_1] 36 (0, 0)) Q34 hb); have n1_ := Aside0.mk (blk_below (g := gb127) (o := .cells #[.int .i64 a1_0, .int .i64 a1_1] 36 (0, 0)) Q35 hb); have n2_ := Aside0.mk (below_step Q86 hb); have n3_ := Aside0.mk (hbox); have n4_ := Aside0.mk ((by rw [hg]; exact (below_size Q86) : w.heap.size ≤ gb128)); have n5_ := n4_; have n6_ := Aside0.mk ((Q110 : gb126 ≠ gb128)); have n7_ := Aside0.mk ((Q111 : gb128 ≠ gb126)); have n8_ := Aside0.mk ((Q112 : gb127 ≠ gb128)); have n9_ := Aside0.mk ((Q113 : gb128 ≠ gb127)); clear BK126; clear BK127; clear HB; have BK126 := n0_; have BK127 := n1_; have HB := n2_; have BK128 := n3_; have GW128 := n4_; have GE128 := n5_; have NB126_128 := n6_; have NB128_126 := n7_; have NB127_128 := n8_; have NB128_127 := n9_; clear n0_ n1_ n2_ n3_ n4_ n5_ n6_ n7_ n8_ n9_; clear hb hbox hg; have hnb12 := NB126_127.out; have hnc12 := NB127_126.out; have hnb13 := NB126_128.out; have hnc13 := NB128_126.out; have hcz14_0 : w11.cell? ⟨gb126, 0, none⟩ = some (.int .i64 a0_0) := (blk_cell BK126.out 0).trans rfl; have hcz14_1 : w11.cell? ⟨gb126, 1, none⟩ = some (.int .i64 a0_1) := (blk_cell BK126.out 1).trans rfl; have hfz14_0 := blk_frozen BK126.out 0; have hfz14_1 := blk_frozen BK126.out 1) | ((with_reducible refine gate_callee (f := 62) rfl ?_); refine goesL_ (some 6) rfl rfl Try.func62 Q1 rfl #[.agg #[.int .i64 a0_0, .int .i64 a0_1]] rfl Q65 ?_; (with_reducible refine (impl_TimeOk.calls a0_0 a0_1 true _ A3.out).mono ?_); rintro e w15 ⟨rfl, hb⟩; refine ⟨_, rfl, ?_⟩; have n0_ := Aside0.mk (blk_below (g := gb126) (o := .cells #[.int .i64 a0_0, .int .i64 a0_1] 36 (0, 0)) Q34 hb); have n1_ := Aside0.mk (blk_below (g := gb127) (o := .cells #[.int .i64 a1_0, .int .i64 a1_1] 36 (0, 0)) Q35 hb); have n2_ := Aside0.mk (blk_below (g := gb128) (o := .cells #[.int .i64 0, .int .i64 0] 36 (0, 0)) Q36 hb); have n3_ := Aside0.mk (below_step Q95 hb); clear BK126; clear BK127; clear BK128; clear HB; have BK126 := n0_; have BK127 := n1_; have BK128 := n2_; have HB := n3_; clear n0_ n1_ n2_ n3_; (try clear hb); (try clear hb2); (try clear hk); (try clear hi); have hnb16 := NB127_128.out; have hnc16 := NB128_127.out; have hcz17_0 : w15.cell? ⟨gb127, 0, none⟩ = some (.int .i64 a1_0) := (blk_cell BK127.out 0).trans rfl; have hcz17_1 : w15.cell? ⟨gb127, 1, none⟩ = some (.int .i64 a1_1) := (blk_cell BK127.out 1).trans rfl; have hfz17_0 := blk_frozen BK127.out 0; have hfz17_1 := blk_frozen BK127.out 1) | (go_at_call 62; (with_reducible refine (impl_TimeOk.calls a1_0 a1_1 true _ A5.out).mono ?_); rintro e w18 ⟨rfl, hb⟩; have n0_ := Aside0.mk (blk_below (g := gb126) (o := .cells #[.int .i64 a0_0, .int .i64 a0_1] 36 (0, 0)) Q34 hb); have n1_ := Aside0.mk (blk_below (g := gb127) (o := .cells #[.int .i64 a1_0, .int .i64 a1_1] 36 (0, 0)) Q35 hb); have n2_ := Aside0.mk (blk_below (g := gb128) (o := .cells #[.int .i64 0, .int .i64 0] 36 (0, 0)) Q36 hb); have n3_ := Aside0.mk (below_step Q95 hb); clear BK126; clear BK127; clear BK128; clear HB; have BK126 := n0_; have BK127 := n1_; have BK128 := n2_; have HB := n3_; clear n0_ n1_ n2_ n3_; (try clear hb); (try clear hb2); (try clear hk); (try clear hi); have hcz19_0 : w18.cell? ⟨gb126, 0, none⟩ = some (.int .i64 a0_0) := (blk_cell BK126.out 0).trans rfl; have hcz19_1 : w18.cell? ⟨gb126, 1, none⟩ = some (.int .i64 a0_1) := (blk_cell BK126.out 1).trans rfl; have hfz19_0 := blk_frozen BK126.out 0; have hfz19_1 := blk_frozen BK126.out 1; have hcz20_0 : w18.cell? ⟨gb127, 0, none⟩ = some (.int .i64 a1_0) := (blk_cell BK127.out 0).trans rfl; have hcz20_1 : w18.cell? ⟨gb127, 1, none⟩ = some (.int .i64 a1_1) := (blk_cell BK127.out 1).trans rfl; have hfz20_0 := blk_frozen BK127.out 0; have hfz20_1 := blk_frozen BK127.out 1; have hcz21_0 : w18.cell? ⟨gb128, 0, none⟩ = some (.int .i64 0) := (blk_cell BK128.out 0).trans rfl; have hcz21_1 : w18.cell? ⟨gb128, 1, none⟩ = some (.int .i64 0) := (blk_cell BK128.out 1).trans rfl; have hfz21_0 := blk_frozen BK128.out 0; have hfz21_1 := blk_frozen BK128.out 1))
   refine bodyPost_ret (results_cell_row rfl _ _ gb128 36 #[.int .i64 ji7, .int .i64 ji8] (0, 0) _ rfl (by (with_reducible repeat (first | refine blk_drewN ?_ _ | refine blk_drew ?_ | refine blk_alloc ?_ _)); refine blk_put (cs := #[.int .i64 ji7, .int .i64 0]) ?_ 1 _ rfl; (with_reducible repeat (first | refine blk_drewN ?_ _ | refine blk_drew ?_ | refine blk_alloc ?_ _)); refine blk_put (cs := #[.int .i64 0, .int .i64 0]) ?_ 0 _ rfl; (with_reducible repeat (first | refine blk_drewN ?_ _ | refine blk_drew ?_ | refine blk_alloc ?_ _)); exact BK128.out) Try.underlying36 rfl Q1) rfl ?_
   exact ⟨Q83, Q95⟩
  ·replace c6 := Bool.eq_false_iff.mpr c6
   subst c6
   have H1 : (some (0, 0)) = some (r1, r2) := by rw [if_neg (show ¬ (false = true) by decide)] at H; exact H
   clear H
   have H := H1
   clear H1
   simp only [Option.some.injEq, Prod.mk.injEq] at H
   obtain ⟨rfl, rfl⟩ := H
   go_enter Try.func98, Try.ntmps98
   go_wp2_with (first | ((with_reducible refine gate_dst (N := 2) rfl ?_); refine box_event ?hg (N := 2) ?hd (cs := #[.int .i64 a0_0, .int .i64 a0_1]) (t := 36) ?hr ?_; (case hd => rfl); (case hg => rfl); (case hr => first | (go_simp; done) | (go_simp; rfl)); intro gb126 hg w22 hbox hb; have n0_ := Aside0.mk (below_step Q64 hb); have n1_ := Aside0.mk (hbox); have n2_ := Aside0.mk ((Q105 : w.heap.size ≤ gb126)); have n3_ := n2_; clear HB; have HB := n0_; have BK126 := n1_; have GW126 := n2_; have GE126 := n3_; clear n0_ n1_ n2_ n3_; clear hb hbox hg) | ((with_reducible refine gate_dst (N := 3) rfl ?_); refine box_event ?hg (N := 3) ?hd (cs := #[.int .i64 a1_0, .int .i64 a1_1]) (t := 36) ?hr ?_; (case hd => rfl); (case hg => rfl); (case hr => first | (go_simp; done) | (go_simp; rfl)); intro gb127 hg w23 hbox hb; have n0_ := Aside0.mk (blk_below (g := gb126) (o := .cells #[.int .i64 a0_0, .int .i64 a0_1] 36 (0, 0)) Q34 hb); have n1_ := Aside0.mk (below_step Q72 hb); have n2_ := Aside0.mk (hbox); have n3_ := Aside0.mk ((by rw [hg]; exact (below_size Q72) : w.heap.size ≤ gb127)); have n4_ := n3_; have n5_ := Aside0.mk ((Q110 : gb126 ≠ gb127)); have n6_ := Aside0.mk ((Q111 : gb127 ≠ gb126)); clear BK126; clear HB; have BK126 := n0_; have HB := n1_; have BK127 := n2_; have GW127 := n3_; have GE127 := n4_; have NB126_127 := n5_; have NB127_126 := n6_; clear n0_ n1_ n2_ n3_ n4_ n5_ n6_; clear hb hbox hg) | ((with_reducible refine gate_dst (N := 4) rfl ?_); refine box_event ?hg (N := 4) ?hd (cs := #[.int .i64 0, .int .i64 0]) (t := 36) ?hr ?_; (case hd => rfl); (case hg => rfl); (case hr => first | (go_simp; done) | (go_simp; rfl)); intro gb128 hg w24 hbox hb; have n0_ := Aside0.mk (blk_below (g := gb126) (o := .cells #[.int .i64 a0_0, .int .i64 a0_1] 36 (0, 0)) Q34 hb); have n1_ := Aside0.mk (blk_below (g := gb127) (o := .cells #[.int .i64 a1_0, .int .i64 a1_1] 36 (0, 0)) Q35 hb); have n2_ := Aside0.mk (below_step Q86 hb); have n3_ := Aside0.mk (hbox); have n4_ := Aside0.mk ((by rw [hg]; exact (below_size Q86) : w.heap.size ≤ gb128)); have n5_ := n4_; have n6_ := Aside0.mk ((Q110 : gb126 ≠ gb128)); have n7_ := Aside0.mk ((Q111 : gb128 ≠ gb126)); have n8_ := Aside0.mk ((Q112 : gb127 ≠ gb128)); have n9_ := Aside0.mk ((Q113 : gb128 ≠ gb127)); clear BK126; clear BK127; clear HB; have BK126 := n0_; have BK127 := n1_; have HB := n2_; have BK128 := n3_; have GW128 := n4_; have GE128 := n5_; have NB126_128 := n6_; have NB128_126 := n7_; have NB127_128 := n8_; have NB128_127 := n9_; clear n0_ n1_ n2_ n3_ n4_ n5_ n6_ n7_ n8_ n9_; clear hb hbox hg; have hnb25 := NB126_127.out; have hnc25 := NB127_126.out; have hnb26 := NB126_128.out; have hnc26 := NB128_126.out; have hcz27_0 : w24.cell? ⟨gb126, 0, none⟩ = some (.int .i64 a0_0) := (blk_cell BK126.out 0).trans rfl; have hcz27_1 : w24.cell? ⟨gb126, 1, none⟩ = some (.int .i64 a0_1) := (blk_cell BK126.out 1).trans rfl; have hfz27_0 := blk_frozen BK126.out 0; have hfz27_1 := blk_frozen BK126.out 1) | ((with_reducible refine gate_callee (f := 62) rfl ?_); refine goesL_ (some 6) rfl rfl Try.func62 Q1 rfl #[.agg #[.int .i64 a0_0, .int .i64 a0_1]] rfl Q65 ?_; (with_reducible refine (impl_TimeOk.calls a0_0 a0_1 true _ A3.out).mono ?_); rintro e w28 ⟨rfl, hb⟩; refine ⟨_, rfl, ?_⟩; have n0_ := Aside0.mk (blk_below (g := gb126) (o := .cells #[.int .i64 a0_0, .int .i64 a0_1] 36 (0, 0)) Q34 hb); have n1_ := Aside0.mk (blk_below (g := gb127) (o := .cells #[.int .i64 a1_0, .int .i64 a1_1] 36 (0, 0)) Q35 hb); have n2_ := Aside0.mk (blk_below (g := gb128) (o := .cells #[.int .i64 0, .int .i64 0] 36 (0, 0)) Q36 hb); have n3_ := Aside0.mk (below_step Q95 hb); clear BK126; clear BK127; clear BK128; clear HB; have BK126 := n0_; have BK127 := n1_; have BK128 := n2_; have HB := n3_; clear n0_ n1_ n2_ n3_; (try clear hb); (try clear hb2); (try clear hk); (try clear hi); have hnb29 := NB127_128.out; have hnc29 := NB128_127.out; have hcz30_0 : w28.cell? ⟨gb127, 0, none⟩ = some (.int .i64 a1_0) := (blk_cell BK127.out 0).trans rfl; have hcz30_1 : w28.cell? ⟨gb127, 1, none⟩ = some (.int .i64 a1_1) := (blk_cell BK127.out 1).trans rfl; have hfz30_0 := blk_frozen BK127.out 0; have hfz30_1 := blk_frozen BK127.out 1) | (go_at_call 62; (with_reducible refine (impl_TimeOk.calls a1_0 a1_1 false _ A5.out).mono ?_); rintro e w31 ⟨rfl, hb⟩; have n0_ := Aside0.mk (blk_below (g := gb126) (o := .cells #[.int .i64 a0_0, .int .i64 a0_1] 36 (0, 0)) Q34 hb); have n1_ := Aside0.mk (blk_below (g := gb127) (o := .cells #[.int .i64 a1_0, .int .i64 a1_1] 36 (0, 0)) Q35 hb); have n2_ := Aside0.mk (blk_below (g := gb128) (o := .cells #[.int .i64 0, .int .i64 0] 36 (0, 0)) Q36 hb); have n3_ := Aside0.mk (below_step Q95 hb); clear BK126; clear BK127; clear BK128; clear HB; have BK126 := n0_; have BK127 := n1_; have BK128 := n2_; have HB := n3_; clear n0_ n1_ n2_ n3_; (try clear hb); (try clear hb2); (try clear hk); (try clear hi); have hcz32_0 : w31.cell? ⟨gb128, 0, none⟩ = some (.int .i64 0) := (blk_cell BK128.out 0).trans rfl; have hcz32_1 : w31.cell? ⟨gb128, 1, none⟩ = some (.int .i64 0) := (blk_cell BK128.out 1).trans rfl; have hfz32_0 := blk_frozen BK128.out 0; have hfz32_1 := blk_frozen BK128.out 1))
   refine bodyPost_ret (results_cell_row rfl _ _ gb128 36 #[.int .i64 0, .int .i64 0] (0, 0) _ rfl (by (with_reducible repeat (first | refine blk_drewN ?_ _ | refine blk_drew ?_ | refine blk_alloc ?_ _)); refine blk_put (cs := #[.int .i64 0, .int .i64 0]) ?_ 1 _ rfl; (with_reducible repeat (first | refine blk_drewN ?_ _ | refine blk_drew ?_ | refine blk_alloc ?_ _)); refine blk_put (cs := #[.int .i64 0, .int .i64 0]) ?_ 0 _ rfl; (with_reducible repeat (first | refine blk_drewN ?_ _ | refine blk_drew ?_ | refine blk_alloc ?_ _)); exact BK128.out) Try.underlying36 rfl Q1) rfl ?_
   exact ⟨Q12, Q95⟩
 ·replace c4 := Bool.eq_false_iff.mpr c4
  subst c4
  have H1 : (some (0, 0)) = some (r1, r2) := by rw [if_neg (show ¬ (false = true) by decide)] at H; exact H
  clear H
  have H := H1
  clear H1
  simp only [Option.some.injEq, Prod.mk.injEq] at H
  obtain ⟨rfl, rfl⟩ := H
  go_enter Try.func98, Try.ntmps98
  go_wp2_with (first | ((with_reducible refine gate_dst (N := 2) rfl ?_); refine box_event ?hg (N := 2) ?hd (cs := #[.int .i64 a0_0, .int .i64 a0_1]) (t := 36) ?hr ?_; (case hd => rfl); (case hg => rfl); (case hr => first | (go_simp; done) | (go_simp; rfl)); intro gb126 hg w33 hbox hb; have n0_ := Aside0.mk (below_step Q64 hb); have n1_ := Aside0.mk (hbox); have n2_ := Aside0.mk ((Q105 : w.heap.size ≤ gb126)); have n3_ := n2_; clear HB; have HB := n0_; have BK126 := n1_; have GW126 := n2_; have GE126 := n3_; clear n0_ n1_ n2_ n3_; clear hb hbox hg) | ((with_reducible refine gate_dst (N := 3) rfl ?_); refine box_event ?hg (N := 3) ?hd (cs := #[.int .i64 a1_0, .int .i64 a1_1]) (t := 36) ?hr ?_; (case hd => rfl); (case hg => rfl); (case hr => first | (go_simp; done) | (go_simp; rfl)); intro gb127 hg w34 hbox hb; have n0_ := Aside0.mk (blk_below (g := gb126) (o := .cells #[.int .i64 a0_0, .int .i64 a0_1] 36 (0, 0)) Q34 hb); have n1_ := Aside0.mk (below_step Q72 hb); have n2_ := Aside0.mk (hbox); have n3_ := Aside0.mk ((by rw [hg]; exact (below_size Q72) : w.heap.size ≤ gb127)); have n4_ := n3_; have n5_ := Aside0.mk ((Q110 : gb126 ≠ gb127)); have n6_ := Aside0.mk ((Q111 : gb127 ≠ gb126)); clear BK126; clear HB; have BK126 := n0_; have HB := n1_; have BK127 := n2_; have GW127 := n3_; have GE127 := n4_; have NB126_127 := n5_; have NB127_126 := n6_; clear n0_ n1_ n2_ n3_ n4_ n5_ n6_; clear hb hbox hg) | ((with_reducible refine gate_dst (N := 4) rfl ?_); refine box_event ?hg (N := 4) ?hd (cs := #[.int .i64 0, .int .i64 0]) (t := 36) ?hr ?_; (case hd => rfl); (case hg => rfl); (case hr => first | (go_simp; done) | (go_simp; rfl)); intro gb128 hg w35 hbox hb; have n0_ := Aside0.mk (blk_below (g := gb126) (o := .cells #[.int .i64 a0_0, .int .i64 a0_1] 36 (0, 0)) Q34 hb); have n1_ := Aside0.mk (blk_below (g := gb127) (o := .cells #[.int .i64 a1_0, .int .i64 a1_1] 36 (0, 0)) Q35 hb); have n2_ := Aside0.mk (below_step Q86 hb); have n3_ := Aside0.mk (hbox); have n4_ := Aside0.mk ((by rw [hg]; exact (below_size Q86) : w.heap.size ≤ gb128)); have n5_ := n4_; have n6_ := Aside0.mk ((Q110 : gb126 ≠ gb128)); have n7_ := Aside0.mk ((Q111 : gb128 ≠ gb126)); have n8_ := Aside0.mk ((Q112 : gb127 ≠ gb128)); have n9_ := Aside0.mk ((Q113 : gb128 ≠ gb127)); clear BK126; clear BK127; clear HB; have BK126 := n0_; have BK127 := n1_; have HB := n2_; have BK128 := n3_; have GW128 := n4_; have GE128 := n5_; have NB126_128 := n6_; have NB128_126 := n7_; have NB127_128 := n8_; have NB128_127 := n9_; clear n0_ n1_ n2_ n3_ n4_ n5_ n6_ n7_ n8_ n9_; clear hb hbox hg; have hnb36 := NB126_127.out; have hnc36 := NB127_126.out; have hnb37 := NB126_128.out; have hnc37 := NB128_126.out; have hcz38_0 : w35.cell? ⟨gb126, 0, none⟩ = some (.int .i64 a0_0) := (blk_cell BK126.out 0).trans rfl; have hcz38_1 : w35.cell? ⟨gb126, 1, none⟩ = some (.int .i64 a0_1) := (blk_cell BK126.out 1).trans rfl; have hfz38_0 := blk_frozen BK126.out 0; have hfz38_1 := blk_frozen BK126.out 1) | ((with_reducible refine gate_callee (f := 62) rfl ?_); refine goesL_ (some 6) rfl rfl Try.func62 Q1 rfl #[.agg #[.int .i64 a0_0, .int .i64 a0_1]] rfl Q65 ?_; (with_reducible refine (impl_TimeOk.calls a0_0 a0_1 false _ A3.out).mono ?_); rintro e w39 ⟨rfl, hb⟩; refine ⟨_, rfl, ?_⟩; have n0_ := Aside0.mk (blk_below (g := gb126) (o := .cells #[.int .i64 a0_0, .int .i64 a0_1] 36 (0, 0)) Q34 hb); have n1_ := Aside0.mk (blk_below (g := gb127) (o := .cells #[.int .i64 a1_0, .int .i64 a1_1] 36 (0, 0)) Q35 hb); have n2_ := Aside0.mk (blk_below (g := gb128) (o := .cells #[.int .i64 0, .int .i64 0] 36 (0, 0)) Q36 hb); have n3_ := Aside0.mk (below_step Q95 hb); clear BK126; clear BK127; clear BK128; clear HB; have BK126 := n0_; have BK127 := n1_; have BK128 := n2_; have HB := n3_; clear n0_ n1_ n2_ n3_; (try clear hb); (try clear hb2); (try clear hk); (try clear hi); have hnb40 := NB128_127.out; have hnc40 := NB127_128.out; have hcz41_0 : w39.cell? ⟨gb128, 0, none⟩ = some (.int .i64 0) := (blk_cell BK128.out 0).trans rfl; have hcz41_1 : w39.cell? ⟨gb128, 1, none⟩ = some (.int .i64 0) := (blk_cell BK128.out 1).trans rfl; have hfz41_0 := blk_frozen BK128.out 0; have hfz41_1 := blk_frozen BK128.out 1))
  refine bodyPost_ret (results_cell_row rfl _ _ gb128 36 #[.int .i64 0, .int .i64 0] (0, 0) _ rfl (by (with_reducible repeat (first | refine blk_drewN ?_ _ | refine blk_drew ?_ | refine blk_alloc ?_ _)); refine blk_put (cs := #[.int .i64 0, .int .i64 0]) ?_ 1 _ rfl; (with_reducible repeat (first | refine blk_drewN ?_ _ | refine blk_drew ?_ | refine blk_alloc ?_ _)); refine blk_put (cs := #[.int .i64 0, .int .i64 0]) ?_ 0 _ rfl; (with_reducible repeat (first | refine blk_drewN ?_ _ | refine blk_drew ?_ | refine blk_alloc ?_ _)); exact BK128.out) Try.underlying36 rfl Q1) rfl ?_
  exact ⟨Q12, Q95⟩
def impl_TimeMeet.f (a0_0 : Int) (a0_1 : Int) (a1_0 : Int) (a1_1 : Int) : Option (Int × Int) := (impl_TimeOk.f a0_0 a0_1).bind fun t134 => (if t134 = true then ((impl_TimeOk.f a1_0 a1_1).bind fun t135 => (if t135 = true then (some (mn a0_0 a1_0, mn a0_1 a1_1)) else (some (0, 0)))) else (some (0, 0)))
set_option maxHeartbeats 8000000 in
set_option maxRecDepth 100000 in
theorem impl_TimeMeet.calls (a0_0 : Int) (a0_1 : Int) (a1_0 : Int) (a1_1 : Int) (r1 : Int) (r2 : Int) (w : World) (h : impl_TimeMeet.f a0_0 a0_1 a1_0 a1_1 = some (r1, r2)) :
  Calls Try.prog 99 #[.agg #[.int .i64 a0_0, .int .i64 a0_1], .agg #[.int .i64 a1_0, .int .i64 a1_1]] w fun e w' => e = .returned (.agg #[.int .i64 r1, .int .i64 r2]) ∧ Below w.heap.size w w' := by
 have hu36 := Try.underlying36
 have HB := Aside0.mk (Below.refl w.heap.size w)
 have H : ((impl_TimeOk.f a0_0 a0_1).bind fun t134 => (if t134 = true then ((impl_TimeOk.f a1_0 a1_1).bind fun t135 => (if t135 = true then (some (mn a0_0 a1_0, mn a0_1 a1_1)) else (some (0, 0)))) else (some (0, 0)))) = some (r1, r2) := h
 clear h
 replace H := Option.bind_eq_some_iff.mp H
 obtain ⟨t134, A30, H⟩ := H
 replace H : (if t134 = true then ((impl_TimeOk.f a1_0 a1_1).bind fun t135 => (if t135 = true then (some (mn a0_0 a1_0, mn a0_1 a1_1)) else (some (0, 0)))) else (some (0, 0))) = some (r1, r2) := H
 have A3 := Aside0.mk A30
 clear A30
 by_cases c4 : t134 = true
 ·subst c4
  have H1 : ((impl_TimeOk.f a1_0 a1_1).bind fun t135 => (if t135 = true then (some (mn a0_0 a1_0, mn a0_1 a1_1)) else (some (0, 0)))) = some (r1, r2) := by rw [if_pos rfl] at H; exact H
  clear H
  have H := H1
  clear H1
  replace H := Option.bind_eq_some_iff.mp H
  obtain ⟨t135, A50, H⟩ := H
  replace H : (if t135 = true then (some (mn a0_0 a1_0, mn a0_1 a1_1)) else (some (0, 0))) = some (r1, r2) := H
  have A5 := Aside0.mk A50
  clear A50
  by_cases c6 : t135 = true
  ·subst c6
   have H1 : (some (mn a0_0 a1_0, mn a0_1 a1_1)) = some (r1, r2) := by rw [if_pos rfl] at H; exact H
   clear H
   have H := H1
   clear H1
   obtain ⟨ji7, hji7⟩ : ∃ j_ : Int, (mn a0_0 a1_0) = j_ := ⟨_, rfl⟩
   replace H : (some (ji7, mn a0_1 a1_1)) = some (r1, r2) := by first | (rw [hji7] at H; exact H) | (simp only [hji7] at H ⊢; exact H)
   (try rw [hji7] at A3)
   (try rw [hji7] at A5)
   have hji7_ : (if a1_0 < a0_0 then a1_0 else a0_0) = ji7 := hji7
   obtain ⟨ji8, hji8⟩ : ∃ j_ : Int, (mn a0_1 a1_1) = j_ := ⟨_, rfl⟩
   replace H : (some (ji7, ji8)) = some (r1, r2) := by first | (rw [hji8] at H; exact H) | (simp only [hji8] at H ⊢; exact H)
   (try rw [hji8] at A3)
   (try rw [hji8] at A5)
   have hji8_ : (if a1_1 < a0_1 then a1_1 else a0_1) = ji8 := hji8
   simp only [Option.some.injEq, Prod.mk.injEq] at H
   obtain ⟨rfl, rfl⟩ := H
   go_enter Try.func99, Try.ntmps99
   go_wp2_with (first | ((with_reducible refine gate_dst (N := 2) rfl ?_); refine box_event ?hg (N := 2) ?hd (cs := #[.int .i64 a0_0, .int .i64 a0_1]) (t := 36) ?hr ?_; (case hd => rfl); (case hg => rfl); (case hr => first | (go_simp; done) | (go_simp; rfl)); intro gb131 hg w9 hbox hb; have n0_ := Aside0.mk (below_step Q64 hb); have n1_ := Aside0.mk (hbox); have n2_ := Aside0.mk ((Q105 : w.heap.size ≤ gb131)); have n3_ := n2_; clear HB; have HB := n0_; have BK131 := n1_; have GW131 := n2_; have GE131 := n3_; clear n0_ n1_ n2_ n3_; clear hb hbox hg) | ((with_reducible refine gate_dst (N := 3) rfl ?_); refine box_event ?hg (N := 3) ?hd (cs := #[.int .i64 a1_0, .int .i64 a1_1]) (t := 36) ?hr ?_; (case hd => rfl); (case hg => rfl); (case hr => first | (go_simp; done) | (go_simp; rfl)); intro gb132 hg w10 hbox hb; have n0_ := Aside0.mk (blk_below (g := gb131) (o := .cells #[.int .i64 a0_0, .int .i64 a0_1] 36 (0, 0)) Q37 hb); have n1_ := Aside0.mk (below_step Q73 hb); have n2_ := Aside0.mk (hbox); have n3_ := Aside0.mk ((by rw [hg]; exact (below_size Q73) : w.heap.size ≤ gb132)); have n4_ := n3_; have n5_ := Aside0.mk ((Q114 : gb131 ≠ gb132)); have n6_ := Aside0.mk ((Q115 : gb132 ≠ gb131)); clear BK131; clear HB; have BK131 := n0_; have HB := n1_; have BK132 := n2_; have GW132 := n3_; have GE132 := n4_; have NB131_132 := n5_; have NB132_131 := n6_; clear n0_ n1_ n2_ n3_ n4_ n5_ n6_; clear hb hbox hg) | ((with_reducible refine gate_dst (N := 4) rfl ?_); refine box_event ?hg (N := 4) ?hd (cs := #[.int .i64 0, .int .i64 0]) (t := 36) ?hr ?_; (case hd => rfl); (case hg => rfl); (case hr => first | (go_simp; done) | (go_simp; rfl)); intro gb133 hg w11 hbox hb; have n0_ := Aside0.mk (blk_below (g := gb131) (o := .cells #[.int .i64 a0_0, .int .i64 a0_1] 36 (0, 0)) Q37 hb); have n1_ := Aside0.mk (blk_below (g := gb132) (o := .cells #[.int .i64 a1_0, .int .i64 a1_1] 36 (0, 0)) Q38 hb); have n2_ := Aside0.mk (below_step Q87 hb); have n3_ := Aside0.mk (hbox); have n4_ := Aside0.mk ((by rw [hg]; exact (below_size Q87) : w.heap.size ≤ gb133)); have n5_ := n4_; have n6_ := Aside0.mk ((Q114 : gb131 ≠ gb133)); have n7_ := Aside0.mk ((Q115 : gb133 ≠ gb131)); have n8_ := Aside0.mk ((Q116 : gb132 ≠ gb133)); have n9_ := Aside0.mk ((Q117 : gb133 ≠ gb132)); clear BK131; clear BK132; clear HB; have BK131 := n0_; have BK132 := n1_; have HB := n2_; have BK133 := n3_; have GW133 := n4_; have GE133 := n5_; have NB131_133 := n6_; have NB133_131 := n7_; have NB132_133 := n8_; have NB133_132 := n9_; clear n0_ n1_ n2_ n3_ n4_ n5_ n6_ n7_ n8_ n9_; clear hb hbox hg; have hnb12 := NB131_132.out; have hnc12 := NB132_131.out; have hnb13 := NB131_133.out; have hnc13 := NB133_131.out; have hcz14_0 : w11.cell? ⟨gb131, 0, none⟩ = some (.int .i64 a0_0) := (blk_cell BK131.out 0).trans rfl; have hcz14_1 : w11.cell? ⟨gb131, 1, none⟩ = some (.int .i64 a0_1) := (blk_cell BK131.out 1).trans rfl; have hfz14_0 := blk_frozen BK131.out 0; have hfz14_1 := blk_frozen BK131.out 1) | ((with_reducible refine gate_callee (f := 62) rfl ?_); refine goesL_ (some 6) rfl rfl Try.func62 Q1 rfl #[.agg #[.int .i64 a0_0, .int .i64 a0_1]] rfl Q65 ?_; (with_reducible refine (impl_TimeOk.calls a0_0 a0_1 true _ A3.out).mono ?_); rintro e w15 ⟨rfl, hb⟩; refine ⟨_, rfl, ?_⟩; have n0_ := Aside0.mk (blk_below (g := gb131) (o := .cells #[.int .i64 a0_0, .int .i64 a0_1] 36 (0, 0)) Q37 hb); have n1_ := Aside0.mk (blk_below (g := gb132) (o := .cells #[.int .i64 a1_0, .int .i64 a1_1] 36 (0, 0)) Q38 hb); have n2_ := Aside0.mk (blk_below (g := gb133) (o := .cells #[.int .i64 0, .int .i64 0] 36 (0, 0)) Q39 hb); have n3_ := Aside0.mk (below_step Q96 hb); clear BK131; clear BK132; clear BK133; clear HB; have BK131 := n0_; have BK132 := n1_; have BK133 := n2_; have HB := n3_; clear n0_ n1_ n2_ n3_; (try clear hb); (try clear hb2); (try clear hk); (try clear hi); have hnb16 := NB132_133.out; have hnc16 := NB133_132.out; have hcz17_0 : w15.cell? ⟨gb132, 0, none⟩ = some (.int .i64 a1_0) := (blk_cell BK132.out 0).trans rfl; have hcz17_1 : w15.cell? ⟨gb132, 1, none⟩ = some (.int .i64 a1_1) := (blk_cell BK132.out 1).trans rfl; have hfz17_0 := blk_frozen BK132.out 0; have hfz17_1 := blk_frozen BK132.out 1) | (go_at_call 62; (with_reducible refine (impl_TimeOk.calls a1_0 a1_1 true _ A5.out).mono ?_); rintro e w18 ⟨rfl, hb⟩; have n0_ := Aside0.mk (blk_below (g := gb131) (o := .cells #[.int .i64 a0_0, .int .i64 a0_1] 36 (0, 0)) Q37 hb); have n1_ := Aside0.mk (blk_below (g := gb132) (o := .cells #[.int .i64 a1_0, .int .i64 a1_1] 36 (0, 0)) Q38 hb); have n2_ := Aside0.mk (blk_below (g := gb133) (o := .cells #[.int .i64 0, .int .i64 0] 36 (0, 0)) Q39 hb); have n3_ := Aside0.mk (below_step Q96 hb); clear BK131; clear BK132; clear BK133; clear HB; have BK131 := n0_; have BK132 := n1_; have BK133 := n2_; have HB := n3_; clear n0_ n1_ n2_ n3_; (try clear hb); (try clear hb2); (try clear hk); (try clear hi); have hcz19_0 : w18.cell? ⟨gb131, 0, none⟩ = some (.int .i64 a0_0) := (blk_cell BK131.out 0).trans rfl; have hcz19_1 : w18.cell? ⟨gb131, 1, none⟩ = some (.int .i64 a0_1) := (blk_cell BK131.out 1).trans rfl; have hfz19_0 := blk_frozen BK131.out 0; have hfz19_1 := blk_frozen BK131.out 1; have hcz20_0 : w18.cell? ⟨gb132, 0, none⟩ = some (.int .i64 a1_0) := (blk_cell BK132.out 0).trans rfl; have hcz20_1 : w18.cell? ⟨gb132, 1, none⟩ = some (.int .i64 a1_1) := (blk_cell BK132.out 1).trans rfl; have hfz20_0 := blk_frozen BK132.out 0; have hfz20_1 := blk_frozen BK132.out 1; have hcz21_0 : w18.cell? ⟨gb133, 0, none⟩ = some (.int .i64 0) := (blk_cell BK133.out 0).trans rfl; have hcz21_1 : w18.cell? ⟨gb133, 1, none⟩ = some (.int .i64 0) := (blk_cell BK133.out 1).trans rfl; have hfz21_0 := blk_frozen BK133.out 0; have hfz21_1 := blk_frozen BK133.out 1))
   refine bodyPost_ret (results_cell_row rfl _ _ gb133 36 #[.int .i64 ji7, .int .i64 ji8] (0, 0) _ rfl (by (with_reducible repeat (first | refine blk_drewN ?_ _ | refine blk_drew ?_ | refine blk_alloc ?_ _)); refine blk_put (cs := #[.int .i64 ji7, .int .i64 0]) ?_ 1 _ rfl; (with_reducible repeat (first | refine blk_drewN ?_ _ | refine blk_drew ?_ | refine blk_alloc ?_ _)); refine blk_put (cs := #[.int .i64 0, .int .i64 0]) ?_ 0 _ rfl; (with_reducible repeat (first | refine blk_drewN ?_ _ | refine blk_drew ?_ | refine blk_alloc ?_ _)); exact BK133.out) Try.underlying36 rfl Q1) rfl ?_
   exact ⟨Q83, Q96⟩
  ·replace c6 := Bool.eq_false_iff.mpr c6
   subst c6
   have H1 : (some (0, 0)) = some (r1, r2) := by rw [if_neg (show ¬ (false = true) by decide)] at H; exact H
   clear H
   have H := H1
   clear H1
   simp only [Option.some.injEq, Prod.mk.injEq] at H
   obtain ⟨rfl, rfl⟩ := H
   go_enter Try.func99, Try.ntmps99
   go_wp2_with (first | ((with_reducible refine gate_dst (N := 2) rfl ?_); refine box_event ?hg (N := 2) ?hd (cs := #[.int .i64 a0_0, .int .i64 a0_1]) (t := 36) ?hr ?_; (case hd => rfl); (case hg => rfl); (case hr => first | (go_simp; done) | (go_simp; rfl)); intro gb131 hg w22 hbox hb; have n0_ := Aside0.mk (below_step Q64 hb); have n1_ := Aside0.mk (hbox); have n2_ := Aside0.mk ((Q105 : w.heap.size ≤ gb131)); have n3_ := n2_; clear HB; have HB := n0_; have BK131 := n1_; have GW131 := n2_; have GE131 := n3_; clear n0_ n1_ n2_ n3_; clear hb hbox hg) | ((with_reducible refine gate_dst (N := 3) rfl ?_); refine box_event ?hg (N := 3) ?hd (cs := #[.int .i64 a1_0, .int .i64 a1_1]) (t := 36) ?hr ?_; (case hd => rfl); (case hg => rfl); (case hr => first | (go_simp; done) | (go_simp; rfl)); intro gb132 hg w23 hbox hb; have n0_ := Aside0.mk (blk_below (g := gb131) (o := .cells #[.int .i64 a0_0, .int .i64 a0_1] 36 (0, 0)) Q37 hb); have n1_ := Aside0.mk (below_step Q73 hb); have n2_ := Aside0.mk (hbox); have n3_ := Aside0.mk ((by rw [hg]; exact (below_size Q73) : w.heap.size ≤ gb132)); have n4_ := n3_; have n5_ := Aside0.mk ((Q114 : gb131 ≠ gb132)); have n6_ := Aside0.mk ((Q115 : gb132 ≠ gb131)); clear BK131; clear HB; have BK131 := n0_; have HB := n1_; have BK132 := n2_; have GW132 := n3_; have GE132 := n4_; have NB131_132 := n5_; have NB132_131 := n6_; clear n0_ n1_ n2_ n3_ n4_ n5_ n6_; clear hb hbox hg) | ((with_reducible refine gate_dst (N := 4) rfl ?_); refine box_event ?hg (N := 4) ?hd (cs := #[.int .i64 0, .int .i64 0]) (t := 36) ?hr ?_; (case hd => rfl); (case hg => rfl); (case hr => first | (go_simp; done) | (go_simp; rfl)); intro gb133 hg w24 hbox hb; have n0_ := Aside0.mk (blk_below (g := gb131) (o := .cells #[.int .i64 a0_0, .int .i64 a0_1] 36 (0, 0)) Q37 hb); have n1_ := Aside0.mk (blk_below (g := gb132) (o := .cells #[.int .i64 a1_0, .int .i64 a1_1] 36 (0, 0)) Q38 hb); have n2_ := Aside0.mk (below_step Q87 hb); have n3_ := Aside0.mk (hbox); have n4_ := Aside0.mk ((by rw [hg]; exact (below_size Q87) : w.heap.size ≤ gb133)); have n5_ := n4_; have n6_ := Aside0.mk ((Q114 : gb131 ≠ gb133)); have n7_ := Aside0.mk ((Q115 : gb133 ≠ gb131)); have n8_ := Aside0.mk ((Q116 : gb132 ≠ gb133)); have n9_ := Aside0.mk ((Q117 : gb133 ≠ gb132)); clear BK131; clear BK132; clear HB; have BK131 := n0_; have BK132 := n1_; have HB := n2_; have BK133 := n3_; have GW133 := n4_; have GE133 := n5_; have NB131_133 := n6_; have NB133_131 := n7_; have NB132_133 := n8_; have NB133_132 := n9_; clear n0_ n1_ n2_ n3_ n4_ n5_ n6_ n7_ n8_ n9_; clear hb hbox hg; have hnb25 := NB131_132.out; have hnc25 := NB132_131.out; have hnb26 := NB131_133.out; have hnc26 := NB133_131.out; have hcz27_0 : w24.cell? ⟨gb131, 0, none⟩ = some (.int .i64 a0_0) := (blk_cell BK131.out 0).trans rfl; have hcz27_1 : w24.cell? ⟨gb131, 1, none⟩ = some (.int .i64 a0_1) := (blk_cell BK131.out 1).trans rfl; have hfz27_0 := blk_frozen BK131.out 0; have hfz27_1 := blk_frozen BK131.out 1) | ((with_reducible refine gate_callee (f := 62) rfl ?_); refine goesL_ (some 6) rfl rfl Try.func62 Q1 rfl #[.agg #[.int .i64 a0_0, .int .i64 a0_1]] rfl Q65 ?_; (with_reducible refine (impl_TimeOk.calls a0_0 a0_1 true _ A3.out).mono ?_); rintro e w28 ⟨rfl, hb⟩; refine ⟨_, rfl, ?_⟩; have n0_ := Aside0.mk (blk_below (g := gb131) (o := .cells #[.int .i64 a0_0, .int .i64 a0_1] 36 (0, 0)) Q37 hb); have n1_ := Aside0.mk (blk_below (g := gb132) (o := .cells #[.int .i64 a1_0, .int .i64 a1_1] 36 (0, 0)) Q38 hb); have n2_ := Aside0.mk (blk_below (g := gb133) (o := .cells #[.int .i64 0, .int .i64 0] 36 (0, 0)) Q39 hb); have n3_ := Aside0.mk (below_step Q96 hb); clear BK131; clear BK132; clear BK133; clear HB; have BK131 := n0_; have BK132 := n1_; have BK133 := n2_; have HB := n3_; clear n0_ n1_ n2_ n3_; (try clear hb); (try clear hb2); (try clear hk); (try clear hi); have hnb29 := NB132_133.out; have hnc29 := NB133_132.out; have hcz30_0 : w28.cell? ⟨gb132, 0, none⟩ = some (.int .i64 a1_0) := (blk_cell BK132.out 0).trans rfl; have hcz30_1 : w28.cell? ⟨gb132, 1, none⟩ = some (.int .i64 a1_1) := (blk_cell BK132.out 1).trans rfl; have hfz30_0 := blk_frozen BK132.out 0; have hfz30_1 := blk_frozen BK132.out 1) | (go_at_call 62; (with_reducible refine (impl_TimeOk.calls a1_0 a1_1 false _ A5.out).mono ?_); rintro e w31 ⟨rfl, hb⟩; have n0_ := Aside0.mk (blk_below (g := gb131) (o := .cells #[.int .i64 a0_0, .int .i64 a0_1] 36 (0, 0)) Q37 hb); have n1_ := Aside0.mk (blk_below (g := gb132) (o := .cells #[.int .i64 a1_0, .int .i64 a1_1] 36 (0, 0)) Q38 hb); have n2_ := Aside0.mk (blk_below (g := gb133) (o := .cells #[.int .i64 0, .int .i64 0] 36 (0, 0)) Q39 hb); have n3_ := Aside0.mk (below_step Q96 hb); clear BK131; clear BK132; clear BK133; clear HB; have BK131 := n0_; have BK132 := n1_; have BK133 := n2_; have HB := n3_; clear n0_ n1_ n2_ n3_; (try clear hb); (try clear hb2); (try clear hk); (try clear hi); have hcz32_0 : w31.cell? ⟨gb133, 0, none⟩ = some (.int .i64 0) := (blk_cell BK133.out 0).trans rfl; have hcz32_1 : w31.cell? ⟨gb133, 1, none⟩ = some (.int .i64 0) := (blk_cell BK133.out 1).trans rfl; have hfz32_0 := blk_frozen BK133.out 0; have hfz32_1 := blk_frozen BK133.out 1))
   refine bodyPost_ret (results_cell_row rfl _ _ gb133 36 #[.int .i64 0, .int .i64 0] (0, 0) _ rfl (by (with_reducible repeat (first | refine blk_drewN ?_ _ | refine blk_drew ?_ | refine blk_alloc ?_ _)); refine blk_put (cs := #[.int .i64 0, .int .i64 0]) ?_ 1 _ rfl; (with_reducible repeat (first | refine blk_drewN ?_ _ | refine blk_drew ?_ | refine blk_alloc ?_ _)); refine blk_put (cs := #[.int .i64 0, .int .i64 0]) ?_ 0 _ rfl; (with_reducible repeat (first | refine blk_drewN ?_ _ | refine blk_drew ?_ | refine blk_alloc ?_ _)); exact BK133.out) Try.underlying36 rfl Q1) rfl ?_
   exact ⟨Q12, Q96⟩
 ·replace c4 := Bool.eq_false_iff.mpr c4
  subst c4
  have H1 : (some (0, 0)) = some (r1, r2) := by rw [if_neg (show ¬ (false = true) by decide)] at H; exact H
  clear H
  have H := H1
  clear H1
  simp only [Option.some.injEq, Prod.mk.injEq] at H
  obtain ⟨rfl, rfl⟩ := H
  go_enter Try.func99, Try.ntmps99
  go_wp2_with (first | ((with_reducible refine gate_dst (N := 2) rfl ?_); refine box_event ?hg (N := 2) ?hd (cs := #[.int .i64 a0_0, .int .i64 a0_1]) (t := 36) ?hr ?_; (case hd => rfl); (case hg => rfl); (case hr => first | (go_simp; done) | (go_simp; rfl)); intro gb131 hg w33 hbox hb; have n0_ := Aside0.mk (below_step Q64 hb); have n1_ := Aside0.mk (hbox); have n2_ := Aside0.mk ((Q105 : w.heap.size ≤ gb131)); have n3_ := n2_; clear HB; have HB := n0_; have BK131 := n1_; have GW131 := n2_; have GE131 := n3_; clear n0_ n1_ n2_ n3_; clear hb hbox hg) | ((with_reducible refine gate_dst (N := 3) rfl ?_); refine box_event ?hg (N := 3) ?hd (cs := #[.int .i64 a1_0, .int .i64 a1_1]) (t := 36) ?hr ?_; (case hd => rfl); (case hg => rfl); (case hr => first | (go_simp; done) | (go_simp; rfl)); intro gb132 hg w34 hbox hb; have n0_ := Aside0.mk (blk_below (g := gb131) (o := .cells #[.int .i64 a0_0, .int .i64 a0_1] 36 (0, 0)) Q37 hb); have n1_ := Aside0.mk (below_step Q73 hb); have n2_ := Aside0.mk (hbox); have n3_ := Aside0.mk ((by rw [hg]; exact (below_size Q73) : w.heap.size ≤ gb132)); have n4_ := n3_; have n5_ := Aside0.mk ((Q114 : gb131 ≠ gb132)); have n6_ := Aside0.mk ((Q115 : gb132 ≠ gb131)); clear BK131; clear HB; have BK131 := n0_; have HB := n1_; have BK132 := n2_; have GW132 := n3_; have GE132 := n4_; have NB131_132 := n5_; have NB132_131 := n6_; clear n0_ n1_ n2_ n3_ n4_ n5_ n6_; clear hb hbox hg) | ((with_reducible refine gate_dst (N := 4) rfl ?_); refine box_event ?hg (N := 4) ?hd (cs := #[.int .i64 0, .int .i64 0]) (t := 36) ?hr ?_; (case hd => rfl); (case hg => rfl); (case hr => first | (go_simp; done) | (go_simp; rfl)); intro gb133 hg w35 hbox hb; have n0_ := Aside0.mk (blk_below (g := gb131) (o := .cells #[.int .i64 a0_0, .int .i64 a0_1] 36 (0, 0)) Q37 hb); have n1_ := Aside0.mk (blk_below (g := gb132) (o := .cells #[.int .i64 a1_0, .int .i64 a1_1] 36 (0, 0)) Q38 hb); have n2_ := Aside0.mk (below_step Q87 hb); have n3_ := Aside0.mk (hbox); have n4_ := Aside0.mk ((by rw [hg]; exact (below_size Q87) : w.heap.size ≤ gb133)); have n5_ := n4_; have n6_ := Aside0.mk ((Q114 : gb131 ≠ gb133)); have n7_ := Aside0.mk ((Q115 : gb133 ≠ gb131)); have n8_ := Aside0.mk ((Q116 : gb132 ≠ gb133)); have n9_ := Aside0.mk ((Q117 : gb133 ≠ gb132)); clear BK131; clear BK132; clear HB; have BK131 := n0_; have BK132 := n1_; have HB := n2_; have BK133 := n3_; have GW133 := n4_; have GE133 := n5_; have NB131_133 := n6_; have NB133_131 := n7_; have NB132_133 := n8_; have NB133_132 := n9_; clear n0_ n1_ n2_ n3_ n4_ n5_ n6_ n7_ n8_ n9_; clear hb hbox hg; have hnb36 := NB131_132.out; have hnc36 := NB132_131.out; have hnb37 := NB131_133.out; have hnc37 := NB133_131.out; have hcz38_0 : w35.cell? ⟨gb131, 0, none⟩ = some (.int .i64 a0_0) := (blk_cell BK131.out 0).trans rfl; have hcz38_1 : w35.cell? ⟨gb131, 1, none⟩ = some (.int .i64 a0_1) := (blk_cell BK131.out 1).trans rfl; have hfz38_0 := blk_frozen BK131.out 0; have hfz38_1 := blk_frozen BK131.out 1) | ((with_reducible refine gate_callee (f := 62) rfl ?_); refine goesL_ (some 6) rfl rfl Try.func62 Q1 rfl #[.agg #[.int .i64 a0_0, .int .i64 a0_1]] rfl Q65 ?_; (with_reducible refine (impl_TimeOk.calls a0_0 a0_1 false _ A3.out).mono ?_); rintro e w39 ⟨rfl, hb⟩; refine ⟨_, rfl, ?_⟩; have n0_ := Aside0.mk (blk_below (g := gb131) (o := .cells #[.int .i64 a0_0, .int .i64 a0_1] 36 (0, 0)) Q37 hb); have n1_ := Aside0.mk (blk_below (g := gb132) (o := .cells #[.int .i64 a1_0, .int .i64 a1_1] 36 (0, 0)) Q38 hb); have n2_ := Aside0.mk (blk_below (g := gb133) (o := .cells #[.int .i64 0, .int .i64 0] 36 (0, 0)) Q39 hb); have n3_ := Aside0.mk (below_step Q96 hb); clear BK131; clear BK132; clear BK133; clear HB; have BK131 := n0_; have BK132 := n1_; have BK133 := n2_; have HB := n3_; clear n0_ n1_ n2_ n3_; (try clear hb); (try clear hb2); (try clear hk); (try clear hi); have hnb40 := NB133_132.out; have hnc40 := NB132_133.out; have hcz41_0 : w39.cell? ⟨gb133, 0, none⟩ = some (.int .i64 0) := (blk_cell BK133.out 0).trans rfl; have hcz41_1 : w39.cell? ⟨gb133, 1, none⟩ = some (.int .i64 0) := (blk_cell BK133.out 1).trans rfl; have hfz41_0 := blk_frozen BK133.out 0; have hfz41_1 := blk_frozen BK133.out 1))
  refine bodyPost_ret (results_cell_row rfl _ _ gb133 36 #[.int .i64 0, .int .i64 0] (0, 0) _ rfl (by (with_reducible repeat (first | refine blk_drewN ?_ _ | refine blk_drew ?_ | refine blk_alloc ?_ _)); refine blk_put (cs := #[.int .i64 0, .int .i64 0]) ?_ 1 _ rfl; (with_reducible repeat (first | refine blk_drewN ?_ _ | refine blk_drew ?_ | refine blk_alloc ?_ _)); refine blk_put (cs := #[.int .i64 0, .int .i64 0]) ?_ 0 _ rfl; (with_reducible repeat (first | refine blk_drewN ?_ _ | refine blk_drew ?_ | refine blk_alloc ?_ _)); exact BK133.out) Try.underlying36 rfl Q1) rfl ?_
  exact ⟨Q12, Q96⟩
def impl_moved.l0 : Nat → List (S36) → Int → Int → Int → Int → Int → Int → Option (Int × Int)
 | 0, _, _, _, _, _, _, _ => none
 | k + 1, x17, x18, x19, x137000, x137001, x142000, x142001 => if x19 < x18 then (if 0 ≤ x19 then (if x19 < (x17.length : Int) then ((impl_TimeJoin.f ((rd_T36 x17 x19).f0) ((rd_T36 x17 x19).f1) x137000 x137001).bind fun bt144 => ((impl_TimeMeet.f x142000 x142001 bt144.1 bt144.2).bind fun bt146 => (impl_moved.l0 k x17 x18 (wrap64 (x19 + 1)) x137000 x137001 bt146.1 bt146.2))) else (none)) else (none)) else (some (x142000, x142001))
def impl_moved.f (k : Nat) (l0 : List (S36)) (a1_0 : Int) (a1_1 : Int) : Option (Int × Int) := if (l0.length : Int) = 0 then (some (a1_0, a1_1)) else (if 0 < (l0.length : Int) then ((impl_TimeJoin.f ((rd_T36 l0 0).f0) ((rd_T36 l0 0).f1) a1_0 a1_1).bind fun bt139 => (impl_moved.l0 k l0 (l0.length : Int) 0 a1_0 a1_1 bt139.1 bt139.2)) else (none))
theorem impl_moved.mono_l : ∀ k, (∀ y0 y1 y2 y3 y4 y5 y6, LeO (impl_moved.l0 k y0 y1 y2 y3 y4 y5 y6) (impl_moved.l0 (k + 1) y0 y1 y2 y3 y4 y5 y6))
 | 0 => fun _ _ _ _ _ _ _ r h => by simp [impl_moved.l0] at h
 | k + 1 => by
  have ih0 := impl_moved.mono_l k
  ·intro y0 y1 y2 y3 y4 y5 y6
   unfold impl_moved.l0
   repeat' first
   | (with_reducible exact ih0 _ _ _ _ _ _ _)
   | (with_reducible exact LeO.refl _)
   | (with_reducible exact LeO.none _)
   | (with_reducible refine LeO.ite ?_ ?_)
   | (with_reducible refine LeO.bind ?_ (fun _ => ?_))
   | exact ih0 _ _ _ _ _ _ _
   | exact LeO.none _
   | refine LeO.ite ?_ ?_
   | refine LeO.bind ?_ (fun _ => ?_)
theorem impl_moved.mono : ∀ a0 a1 a2 k, LeO (impl_moved.f k a0 a1 a2) (impl_moved.f (k + 1) a0 a1 a2) := by
 intro a0 a1 a2 k
 have ih0 := impl_moved.mono_l k
 unfold impl_moved.f
 repeat' first
   | (with_reducible exact ih0 _ _ _ _ _ _ _)
   | (with_reducible exact LeO.refl _)
   | (with_reducible exact LeO.none _)
   | (with_reducible refine LeO.ite ?_ ?_)
   | (with_reducible refine LeO.bind ?_ (fun _ => ?_))
   | exact ih0 _ _ _ _ _ _ _
   | exact LeO.none _
   | refine LeO.ite ?_ ?_
   | refine LeO.bind ?_ (fun _ => ?_)
end Go.Proofs.Ytjlkffmdmifahaa.PFnExactBatchMove
