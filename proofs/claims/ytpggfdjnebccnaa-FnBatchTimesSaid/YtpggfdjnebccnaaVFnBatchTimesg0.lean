/- A function of the program with a map and a sort: as a plain Lean function, with its contract. -/
import Derived.Maps.OwnOps
import Derived.Maps.Views
import Derived.WideKeyEntry
import Derived.DeepKeys4
import Derived.Lib.RowBridge
import Derived.Lib.SortBridge
import Derived.Shelf.GgSortFunc.Tiny
import Derived.Test.YtpggfdjnebccnaaVFnBatchTimesw
import Derived.Test.YtpggfdjnebccnaaVFnBatchTimesp0
namespace Go.Proofs.Ytpggfdjnebccnaa.PFnBatchTimes
open Go.RowKit Go.Proofs.YtpggfdjnebccnaaW.PrintWords Go.Proofs.YtpggfdjnebccnaaW.PrintLast Go.Proofs.YtpggfdjnebccnaaW.PrintMore
open Go.Sort Go.Shelf Go.Lib Go.ChangeMaps Go.ChangeShapes Go.WideShapes
attribute [local go_sem] max2_int min2_int max_two min_two max_three min_three max_four min_four
set_option linter.unusedVariables false
set_option linter.unusedSimpArgs false
theorem J0_0 {p : Prop} (h : p := by first | (with_reducible assumption) | assumption) : p := h
theorem J0_1 {p : Prop} (h : p := by first | rfl | (simp [errW_none, errW_some] <;> rfl) | (simp [*, errW_none, errW_some] <;> rfl)) : p := h
theorem J0_2 {p : Prop} (h : p := by repeat (first | (with_reducible first | exact HB.out | apply below_alloc | apply pw_below_drewN | apply below_drew1) | exact HB.out)) : p := h
theorem J0_3 {p : Prop} (h : p := by repeat (first | (with_reducible first | exact HB.out | apply below_alloc | apply pw_below_drewN | apply below_drew1 | refine below_set ?_ GE101.out) | exact HB.out)) : p := h
theorem J0_4 {p : Prop} (h : p := by repeat (first | (with_reducible first | exact HB.out | apply below_alloc | apply pw_below_drewN | apply below_drew1 | refine below_set ?_ GE147.out) | exact HB.out)) : p := h
theorem J0_5 {p : Prop} (h : p := by (with_reducible repeat (first | refine blk_drewN ?_ _ | refine blk_drew ?_ | refine blk_alloc ?_ _)); refine blk_put (cs := #[.int .i64 ((rd_T90 l0 x7_1).f0), .int .i64 ((rd_T90 l0 x7_1).f1), .int .i64 ((rd_T90 l0 x7_1).f2.f0), .int .i64 ((rd_T90 l0 x7_1).f2.f1), .int .i64 0]) ?_ 4 _ rfl; (with_reducible repeat (first | refine blk_drewN ?_ _ | refine blk_drew ?_ | refine blk_alloc ?_ _)); refine blk_put (cs := #[.int .i64 ((rd_T90 l0 x7_1).f0), .int .i64 ((rd_T90 l0 x7_1).f1), .int .i64 ((rd_T90 l0 x7_1).f2.f0), .int .i64 0, .int .i64 0]) ?_ 3 _ rfl; (with_reducible repeat (first | refine blk_drewN ?_ _ | refine blk_drew ?_ | refine blk_alloc ?_ _)); refine blk_put (cs := #[.int .i64 ((rd_T90 l0 x7_1).f0), .int .i64 ((rd_T90 l0 x7_1).f1), .int .i64 0, .int .i64 0, .int .i64 0]) ?_ 2 _ rfl; (with_reducible repeat (first | refine blk_drewN ?_ _ | refine blk_drew ?_ | refine blk_alloc ?_ _)); refine blk_put (cs := #[.int .i64 ((rd_T90 l0 x7_1).f0), .int .i64 0, .int .i64 0, .int .i64 0, .int .i64 0]) ?_ 1 _ rfl; (with_reducible repeat (first | refine blk_drewN ?_ _ | refine blk_drew ?_ | refine blk_alloc ?_ _)); refine blk_put (cs := #[.int .i64 0, .int .i64 0, .int .i64 0, .int .i64 0, .int .i64 0]) ?_ 0 _ rfl; (with_reducible repeat (first | refine blk_drewN ?_ _ | refine blk_drew ?_ | refine blk_alloc ?_ _)); exact BK147.out) : p := h
theorem J0_6 {p : Prop} (h : p := by rw [hg]; exact (below_size (J0_2))) : p := h
def bt_TimeOk.f (a0_0 : Int) (a0_1 : Int) : Option (Bool) := if a0_0 ≥ 0 then (if a0_0 ≤ 7 then (if a0_1 ≥ 0 then (some (decide (a0_1 ≤ 7))) else (some false)) else (some false)) else (some false)
set_option maxHeartbeats 8000000 in
set_option maxRecDepth 100000 in
theorem bt_TimeOk.calls (a0_0 : Int) (a0_1 : Int) (r : Bool) (w : World) (h : bt_TimeOk.f a0_0 a0_1 = some r) :
  Calls Try.prog 61 #[.agg #[.int .i64 a0_0, .int .i64 a0_1]] w fun e w' => e = .returned (.bool r) ∧ Below w.heap.size w w' := by
 have hu36 := Try.underlying36
 have HB := Aside0.mk (Below.refl w.heap.size w)
 have H : (if a0_0 ≥ 0 then (if a0_0 ≤ 7 then (if a0_1 ≥ 0 then (some (decide (a0_1 ≤ 7))) else (some false)) else (some false)) else (some false)) = some r := h
 clear h
 by_cases c2 : a0_0 ≥ 0
 ·rw [if_pos c2] at H
  have c2b0 : decide (0 ≤ a0_0) = true := decide_eq_true c2
  clear c2
  by_cases c3 : a0_0 ≤ 7
  ·rw [if_pos c3] at H
   have c3b0 : decide (a0_0 ≤ 7) = true := decide_eq_true c3
   clear c3
   by_cases c4 : a0_1 ≥ 0
   ·rw [if_pos c4] at H
    have c4b0 : decide (0 ≤ a0_1) = true := decide_eq_true c4
    clear c4
    obtain rfl := Option.some.inj H
    go_enter Try.func61, Try.ntmps61
    go_wp2_with (first | ((with_reducible refine gate_dst (N := 1) rfl ?_); refine box_event ?hg (N := 1) ?hd (cs := #[.int .i64 a0_0, .int .i64 a0_1]) (t := 36) ?hr ?_; (case hd => rfl); (case hg => rfl); (case hr => first | (go_simp; done) | (go_simp; rfl)); intro gb101 hg w5 hbox hb; have n0_ := Aside0.mk (below_step (J0_2) hb); have n1_ := Aside0.mk (hbox); have n2_ := Aside0.mk ((J0_6 : w.heap.size ≤ gb101)); have n3_ := Aside0.mk ((J0_6 : w.heap.size ≤ gb101)); clear HB; have HB := n0_; have BK101 := n1_; have GW101 := n2_; have GE101 := n3_; clear n0_ n1_ n2_ n3_; clear hb hbox hg; have hcz6_0 : w5.cell? ⟨gb101, 0, none⟩ = some (.int .i64 a0_0) := (blk_cell BK101.out 0).trans rfl; have hcz6_1 : w5.cell? ⟨gb101, 1, none⟩ = some (.int .i64 a0_1) := (blk_cell BK101.out 1).trans rfl; have hfz6_0 := blk_frozen BK101.out 0; have hfz6_1 := blk_frozen BK101.out 1))
    go_ret
    exact ⟨J0_1, J0_3⟩
   ·rw [if_neg c4] at H
    have c4b0 : decide (0 ≤ a0_1) = false := decide_eq_false c4
    clear c4
    obtain rfl := Option.some.inj H
    go_enter Try.func61, Try.ntmps61
    go_wp2_with (first | ((with_reducible refine gate_dst (N := 1) rfl ?_); refine box_event ?hg (N := 1) ?hd (cs := #[.int .i64 a0_0, .int .i64 a0_1]) (t := 36) ?hr ?_; (case hd => rfl); (case hg => rfl); (case hr => first | (go_simp; done) | (go_simp; rfl)); intro gb101 hg w7 hbox hb; have n0_ := Aside0.mk (below_step (J0_2) hb); have n1_ := Aside0.mk (hbox); have n2_ := Aside0.mk ((J0_6 : w.heap.size ≤ gb101)); have n3_ := Aside0.mk ((J0_6 : w.heap.size ≤ gb101)); clear HB; have HB := n0_; have BK101 := n1_; have GW101 := n2_; have GE101 := n3_; clear n0_ n1_ n2_ n3_; clear hb hbox hg; have hcz8_0 : w7.cell? ⟨gb101, 0, none⟩ = some (.int .i64 a0_0) := (blk_cell BK101.out 0).trans rfl; have hcz8_1 : w7.cell? ⟨gb101, 1, none⟩ = some (.int .i64 a0_1) := (blk_cell BK101.out 1).trans rfl; have hfz8_0 := blk_frozen BK101.out 0; have hfz8_1 := blk_frozen BK101.out 1))
    go_ret
    exact ⟨J0_1, J0_3⟩
  ·rw [if_neg c3] at H
   have c3b0 : decide (a0_0 ≤ 7) = false := decide_eq_false c3
   clear c3
   obtain rfl := Option.some.inj H
   go_enter Try.func61, Try.ntmps61
   go_wp2_with (first | ((with_reducible refine gate_dst (N := 1) rfl ?_); refine box_event ?hg (N := 1) ?hd (cs := #[.int .i64 a0_0, .int .i64 a0_1]) (t := 36) ?hr ?_; (case hd => rfl); (case hg => rfl); (case hr => first | (go_simp; done) | (go_simp; rfl)); intro gb101 hg w9 hbox hb; have n0_ := Aside0.mk (below_step (J0_2) hb); have n1_ := Aside0.mk (hbox); have n2_ := Aside0.mk ((J0_6 : w.heap.size ≤ gb101)); have n3_ := Aside0.mk ((J0_6 : w.heap.size ≤ gb101)); clear HB; have HB := n0_; have BK101 := n1_; have GW101 := n2_; have GE101 := n3_; clear n0_ n1_ n2_ n3_; clear hb hbox hg; have hcz10_0 : w9.cell? ⟨gb101, 0, none⟩ = some (.int .i64 a0_0) := (blk_cell BK101.out 0).trans rfl; have hcz10_1 : w9.cell? ⟨gb101, 1, none⟩ = some (.int .i64 a0_1) := (blk_cell BK101.out 1).trans rfl; have hfz10_0 := blk_frozen BK101.out 0; have hfz10_1 := blk_frozen BK101.out 1))
   go_ret
   exact ⟨J0_1, J0_3⟩
 ·rw [if_neg c2] at H
  have c2b0 : decide (0 ≤ a0_0) = false := decide_eq_false c2
  clear c2
  obtain rfl := Option.some.inj H
  go_enter Try.func61, Try.ntmps61
  go_wp2_with (first | ((with_reducible refine gate_dst (N := 1) rfl ?_); refine box_event ?hg (N := 1) ?hd (cs := #[.int .i64 a0_0, .int .i64 a0_1]) (t := 36) ?hr ?_; (case hd => rfl); (case hg => rfl); (case hr => first | (go_simp; done) | (go_simp; rfl)); intro gb101 hg w11 hbox hb; have n0_ := Aside0.mk (below_step (J0_2) hb); have n1_ := Aside0.mk (hbox); have n2_ := Aside0.mk ((J0_6 : w.heap.size ≤ gb101)); have n3_ := Aside0.mk ((J0_6 : w.heap.size ≤ gb101)); clear HB; have HB := n0_; have BK101 := n1_; have GW101 := n2_; have GE101 := n3_; clear n0_ n1_ n2_ n3_; clear hb hbox hg; have hcz12_0 : w11.cell? ⟨gb101, 0, none⟩ = some (.int .i64 a0_0) := (blk_cell BK101.out 0).trans rfl; have hcz12_1 : w11.cell? ⟨gb101, 1, none⟩ = some (.int .i64 a0_1) := (blk_cell BK101.out 1).trans rfl; have hfz12_0 := blk_frozen BK101.out 0; have hfz12_1 := blk_frozen BK101.out 1))
  go_ret
  exact ⟨J0_1, J0_3⟩
def bt_RowsOk.l0 : Nat → List (S90) → List (S90) → Int → Int → Option (Bool)
 | 0, _, _, _, _ => none
 | k + 1, x0, x5, x6, x7 => if x7 < x6 then (if 0 ≤ x7 then (if x7 < (x5.length : Int) then (if ((rd_T90 x5 x7).f0) < 0 then (some false) else (if ((rd_T90 x5 x7).f0) ≥ 4 then (some false) else (if ((rd_T90 x5 x7).f1) < 0 then (some false) else (if ((rd_T90 x5 x7).f1) ≥ 100 then (some false) else ((bt_TimeOk.f ((rd_T90 x5 x7).f2.f0) ((rd_T90 x5 x7).f2.f1)).bind fun t148 => (if t148 = true then (if ((rd_T90 x5 x7).f3) < (-99999) then (some false) else (if ((rd_T90 x5 x7).f3) > 99999 then (some false) else (bt_RowsOk.l0 k x0 x5 x6 (wrap64 (x7 + 1))))) else (some false))))))) else (none)) else (none)) else (some (decide ((x0.length : Int) ≤ 400)))
def bt_RowsOk.f (k : Nat) (l0 : List (S90)) : Option (Bool) := bt_RowsOk.l0 k l0 l0 (l0.length : Int) 0
set_option maxHeartbeats 8000000 in
set_option maxRecDepth 100000 in
theorem bt_RowsOk.calls (k : Nat) (A0 : Option Addr) (c0 : Nat) (l0 : List (S90)) (r : Bool) (w : World) (hr0 : Kd.C k90 w A0 l0.length l0) (hc0 : l0.length ≤ c0) (h : bt_RowsOk.f k l0 = some r) :
  Calls Try.prog 87 #[.slice A0 l0.length c0] w fun e w' => e = .returned (.bool r) ∧ Below w.heap.size w w' := by
 have hu90 := Try.underlying90
 have hu36 := Try.underlying36
 have HR0 := Aside0.mk hr0
 have HC0 := Aside0.mk hc0
 clear hr0 hc0
 have HB := Aside0.mk (Below.refl w.heap.size w)
 have H : (bt_RowsOk.l0 k l0 l0 (l0.length : Int) 0) = some r := h
 clear h
 have H' := Aside0.mk H
 clear H
 go_enter Try.func87, Try.ntmps87
 go_wp2
 go_loopg [7] k (fun kq v7 w' => ∃ (x7_1 : Int), v7 = .int .i64 x7_1 ∧ Aside0 (bt_RowsOk.l0 kq l0 l0 (l0.length : Int) x7_1 = some r) ∧ Aside0 (kq ≤ k) ∧ Aside0 (Below w.heap.size w w'))
 case atStart => exact ⟨(0), (by first | rfl | (simp; done) | (simp [*]; done)), H', ⟨Nat.le_refl _⟩, ⟨J0_2⟩⟩
 case round =>
  clear H'
  obtain ⟨x7_1, rfl, HA, HK1, HB⟩ := hrel
  cases gk with
  | zero => exact absurd HA.out (by simp [bt_RowsOk.l0])
  | succ k1 =>
   have H := HA.out
   clear HA
   simp only [bt_RowsOk.l0] at H
   by_cases c2 : x7_1 < (l0.length : Int)
   ·rw [if_pos c2] at H
    have c2b0 : decide (x7_1 < (l0.length : Int)) = true := decide_eq_true c2
    clear c2
    by_cases c3 : 0 ≤ x7_1
    ·rw [if_pos c3] at H
     have c3b0 : decide (0 ≤ x7_1) = true := decide_eq_true c3
     clear c3
     by_cases c4 : x7_1 < (l0.length : Int)
     ·rw [if_pos c4] at H
      have c4b0 : decide (x7_1 < (l0.length : Int)) = true := decide_eq_true c4
      clear c4
      by_cases c5 : ((rd_T90 l0 x7_1).f0) < 0
      ·rw [if_pos c5] at H
       have c5b0 : decide (((rd_T90 l0 x7_1).f0) < 0) = true := decide_eq_true c5
       clear c5
       obtain rfl := Option.some.inj H
       have p146 : 0 ≤ (x7_1 : Int) := of_decide_eq_true (J0_0)
       have q146 : x7_1 < (l0.length : Int) := of_decide_eq_true (J0_0)
       obtain ⟨ad146, e146, hx146_0, hx146_1, hx146_2, hx146_3, hx146_4⟩ := at_T90 HR0.out x7_1 p146 q146
       cases e146
       replace hx146_0 := (HB.out.cell (World.block_lt_of_cell? w _ hx146_0)).trans hx146_0
       replace hx146_1 := (HB.out.cell (World.block_lt_of_cell? w _ hx146_1)).trans hx146_1
       replace hx146_2 := (HB.out.cell (World.block_lt_of_cell? w _ hx146_2)).trans hx146_2
       replace hx146_3 := (HB.out.cell (World.block_lt_of_cell? w _ hx146_3)).trans hx146_3
       replace hx146_4 := (HB.out.cell (World.block_lt_of_cell? w _ hx146_4)).trans hx146_4
       replace p146 := eq_true p146
       replace q146 := eq_true q146
       go_wp2_with (first | ((with_reducible refine gate_dst (N := 4) rfl ?_); refine box_event ?hg (N := 4) ?hd (cs := #[.int .i64 0, .int .i64 0, .int .i64 0, .int .i64 0, .int .i64 0]) (t := 90) ?hr ?_; (case hd => rfl); (case hg => rfl); (case hr => first | (go_simp; done) | (go_simp; rfl)); intro gb147 hg w6 hbox hb; have n0_ := Aside0.mk (below_step (J0_2) hb); have n1_ := Aside0.mk (hbox); have n2_ := Aside0.mk ((J0_6 : w.heap.size ≤ gb147)); have n3_ := Aside0.mk ((J0_6 : w.heap.size ≤ gb147)); clear HB; have HB := n0_; have BK147 := n1_; have GW147 := n2_; have GE147 := n3_; clear n0_ n1_ n2_ n3_; clear hb hbox hg; have hcz7_0 : w6.cell? ⟨gb147, 0, none⟩ = some (.int .i64 0) := (blk_cell BK147.out 0).trans rfl; have hcz7_1 : w6.cell? ⟨gb147, 1, none⟩ = some (.int .i64 0) := (blk_cell BK147.out 1).trans rfl; have hcz7_2 : w6.cell? ⟨gb147, 2, none⟩ = some (.int .i64 0) := (blk_cell BK147.out 2).trans rfl; have hcz7_3 : w6.cell? ⟨gb147, 3, none⟩ = some (.int .i64 0) := (blk_cell BK147.out 3).trans rfl; have hcz7_4 : w6.cell? ⟨gb147, 4, none⟩ = some (.int .i64 0) := (blk_cell BK147.out 4).trans rfl; have hfz7_0 := blk_frozen BK147.out 0; have hfz7_1 := blk_frozen BK147.out 1; have hfz7_2 := blk_frozen BK147.out 2; have hfz7_3 := blk_frozen BK147.out 3; have hfz7_4 := blk_frozen BK147.out 4))
       go_ret
       exact ⟨J0_1, J0_4⟩
      ·rw [if_neg c5] at H
       have c5b0 : decide (((rd_T90 l0 x7_1).f0) < 0) = false := decide_eq_false c5
       clear c5
       by_cases c8 : ((rd_T90 l0 x7_1).f0) ≥ 4
       ·rw [if_pos c8] at H
        have c8b0 : decide (4 ≤ ((rd_T90 l0 x7_1).f0)) = true := decide_eq_true c8
        clear c8
        obtain rfl := Option.some.inj H
        have p146 : 0 ≤ (x7_1 : Int) := of_decide_eq_true (J0_0)
        have q146 : x7_1 < (l0.length : Int) := of_decide_eq_true (J0_0)
        obtain ⟨ad146, e146, hx146_0, hx146_1, hx146_2, hx146_3, hx146_4⟩ := at_T90 HR0.out x7_1 p146 q146
        cases e146
        replace hx146_0 := (HB.out.cell (World.block_lt_of_cell? w _ hx146_0)).trans hx146_0
        replace hx146_1 := (HB.out.cell (World.block_lt_of_cell? w _ hx146_1)).trans hx146_1
        replace hx146_2 := (HB.out.cell (World.block_lt_of_cell? w _ hx146_2)).trans hx146_2
        replace hx146_3 := (HB.out.cell (World.block_lt_of_cell? w _ hx146_3)).trans hx146_3
        replace hx146_4 := (HB.out.cell (World.block_lt_of_cell? w _ hx146_4)).trans hx146_4
        replace p146 := eq_true p146
        replace q146 := eq_true q146
        go_wp2_with (first | ((with_reducible refine gate_dst (N := 4) rfl ?_); refine box_event ?hg (N := 4) ?hd (cs := #[.int .i64 0, .int .i64 0, .int .i64 0, .int .i64 0, .int .i64 0]) (t := 90) ?hr ?_; (case hd => rfl); (case hg => rfl); (case hr => first | (go_simp; done) | (go_simp; rfl)); intro gb147 hg w9 hbox hb; have n0_ := Aside0.mk (below_step (J0_2) hb); have n1_ := Aside0.mk (hbox); have n2_ := Aside0.mk ((J0_6 : w.heap.size ≤ gb147)); have n3_ := Aside0.mk ((J0_6 : w.heap.size ≤ gb147)); clear HB; have HB := n0_; have BK147 := n1_; have GW147 := n2_; have GE147 := n3_; clear n0_ n1_ n2_ n3_; clear hb hbox hg; have hcz10_0 : w9.cell? ⟨gb147, 0, none⟩ = some (.int .i64 0) := (blk_cell BK147.out 0).trans rfl; have hcz10_1 : w9.cell? ⟨gb147, 1, none⟩ = some (.int .i64 0) := (blk_cell BK147.out 1).trans rfl; have hcz10_2 : w9.cell? ⟨gb147, 2, none⟩ = some (.int .i64 0) := (blk_cell BK147.out 2).trans rfl; have hcz10_3 : w9.cell? ⟨gb147, 3, none⟩ = some (.int .i64 0) := (blk_cell BK147.out 3).trans rfl; have hcz10_4 : w9.cell? ⟨gb147, 4, none⟩ = some (.int .i64 0) := (blk_cell BK147.out 4).trans rfl; have hfz10_0 := blk_frozen BK147.out 0; have hfz10_1 := blk_frozen BK147.out 1; have hfz10_2 := blk_frozen BK147.out 2; have hfz10_3 := blk_frozen BK147.out 3; have hfz10_4 := blk_frozen BK147.out 4))
        go_ret
        exact ⟨J0_1, J0_4⟩
       ·rw [if_neg c8] at H
        have c8b0 : decide (4 ≤ ((rd_T90 l0 x7_1).f0)) = false := decide_eq_false c8
        clear c8
        by_cases c11 : ((rd_T90 l0 x7_1).f1) < 0
        ·rw [if_pos c11] at H
         have c11b0 : decide (((rd_T90 l0 x7_1).f1) < 0) = true := decide_eq_true c11
         clear c11
         obtain rfl := Option.some.inj H
         have p146 : 0 ≤ (x7_1 : Int) := of_decide_eq_true (J0_0)
         have q146 : x7_1 < (l0.length : Int) := of_decide_eq_true (J0_0)
         obtain ⟨ad146, e146, hx146_0, hx146_1, hx146_2, hx146_3, hx146_4⟩ := at_T90 HR0.out x7_1 p146 q146
         cases e146
         replace hx146_0 := (HB.out.cell (World.block_lt_of_cell? w _ hx146_0)).trans hx146_0
         replace hx146_1 := (HB.out.cell (World.block_lt_of_cell? w _ hx146_1)).trans hx146_1
         replace hx146_2 := (HB.out.cell (World.block_lt_of_cell? w _ hx146_2)).trans hx146_2
         replace hx146_3 := (HB.out.cell (World.block_lt_of_cell? w _ hx146_3)).trans hx146_3
         replace hx146_4 := (HB.out.cell (World.block_lt_of_cell? w _ hx146_4)).trans hx146_4
         replace p146 := eq_true p146
         replace q146 := eq_true q146
         go_wp2_with (first | ((with_reducible refine gate_dst (N := 4) rfl ?_); refine box_event ?hg (N := 4) ?hd (cs := #[.int .i64 0, .int .i64 0, .int .i64 0, .int .i64 0, .int .i64 0]) (t := 90) ?hr ?_; (case hd => rfl); (case hg => rfl); (case hr => first | (go_simp; done) | (go_simp; rfl)); intro gb147 hg w12 hbox hb; have n0_ := Aside0.mk (below_step (J0_2) hb); have n1_ := Aside0.mk (hbox); have n2_ := Aside0.mk ((J0_6 : w.heap.size ≤ gb147)); have n3_ := Aside0.mk ((J0_6 : w.heap.size ≤ gb147)); clear HB; have HB := n0_; have BK147 := n1_; have GW147 := n2_; have GE147 := n3_; clear n0_ n1_ n2_ n3_; clear hb hbox hg; have hcz13_0 : w12.cell? ⟨gb147, 0, none⟩ = some (.int .i64 0) := (blk_cell BK147.out 0).trans rfl; have hcz13_1 : w12.cell? ⟨gb147, 1, none⟩ = some (.int .i64 0) := (blk_cell BK147.out 1).trans rfl; have hcz13_2 : w12.cell? ⟨gb147, 2, none⟩ = some (.int .i64 0) := (blk_cell BK147.out 2).trans rfl; have hcz13_3 : w12.cell? ⟨gb147, 3, none⟩ = some (.int .i64 0) := (blk_cell BK147.out 3).trans rfl; have hcz13_4 : w12.cell? ⟨gb147, 4, none⟩ = some (.int .i64 0) := (blk_cell BK147.out 4).trans rfl; have hfz13_0 := blk_frozen BK147.out 0; have hfz13_1 := blk_frozen BK147.out 1; have hfz13_2 := blk_frozen BK147.out 2; have hfz13_3 := blk_frozen BK147.out 3; have hfz13_4 := blk_frozen BK147.out 4))
         go_ret
         exact ⟨J0_1, J0_4⟩
        ·rw [if_neg c11] at H
         have c11b0 : decide (((rd_T90 l0 x7_1).f1) < 0) = false := decide_eq_false c11
         clear c11
         by_cases c14 : ((rd_T90 l0 x7_1).f1) ≥ 100
         ·rw [if_pos c14] at H
          have c14b0 : decide (100 ≤ ((rd_T90 l0 x7_1).f1)) = true := decide_eq_true c14
          clear c14
          obtain rfl := Option.some.inj H
          have p146 : 0 ≤ (x7_1 : Int) := of_decide_eq_true (J0_0)
          have q146 : x7_1 < (l0.length : Int) := of_decide_eq_true (J0_0)
          obtain ⟨ad146, e146, hx146_0, hx146_1, hx146_2, hx146_3, hx146_4⟩ := at_T90 HR0.out x7_1 p146 q146
          cases e146
          replace hx146_0 := (HB.out.cell (World.block_lt_of_cell? w _ hx146_0)).trans hx146_0
          replace hx146_1 := (HB.out.cell (World.block_lt_of_cell? w _ hx146_1)).trans hx146_1
          replace hx146_2 := (HB.out.cell (World.block_lt_of_cell? w _ hx146_2)).trans hx146_2
          replace hx146_3 := (HB.out.cell (World.block_lt_of_cell? w _ hx146_3)).trans hx146_3
          replace hx146_4 := (HB.out.cell (World.block_lt_of_cell? w _ hx146_4)).trans hx146_4
          replace p146 := eq_true p146
          replace q146 := eq_true q146
          go_wp2_with (first | ((with_reducible refine gate_dst (N := 4) rfl ?_); refine box_event ?hg (N := 4) ?hd (cs := #[.int .i64 0, .int .i64 0, .int .i64 0, .int .i64 0, .int .i64 0]) (t := 90) ?hr ?_; (case hd => rfl); (case hg => rfl); (case hr => first | (go_simp; done) | (go_simp; rfl)); intro gb147 hg w15 hbox hb; have n0_ := Aside0.mk (below_step (J0_2) hb); have n1_ := Aside0.mk (hbox); have n2_ := Aside0.mk ((J0_6 : w.heap.size ≤ gb147)); have n3_ := Aside0.mk ((J0_6 : w.heap.size ≤ gb147)); clear HB; have HB := n0_; have BK147 := n1_; have GW147 := n2_; have GE147 := n3_; clear n0_ n1_ n2_ n3_; clear hb hbox hg; have hcz16_0 : w15.cell? ⟨gb147, 0, none⟩ = some (.int .i64 0) := (blk_cell BK147.out 0).trans rfl; have hcz16_1 : w15.cell? ⟨gb147, 1, none⟩ = some (.int .i64 0) := (blk_cell BK147.out 1).trans rfl; have hcz16_2 : w15.cell? ⟨gb147, 2, none⟩ = some (.int .i64 0) := (blk_cell BK147.out 2).trans rfl; have hcz16_3 : w15.cell? ⟨gb147, 3, none⟩ = some (.int .i64 0) := (blk_cell BK147.out 3).trans rfl; have hcz16_4 : w15.cell? ⟨gb147, 4, none⟩ = some (.int .i64 0) := (blk_cell BK147.out 4).trans rfl; have hfz16_0 := blk_frozen BK147.out 0; have hfz16_1 := blk_frozen BK147.out 1; have hfz16_2 := blk_frozen BK147.out 2; have hfz16_3 := blk_frozen BK147.out 3; have hfz16_4 := blk_frozen BK147.out 4))
          go_ret
          exact ⟨J0_1, J0_4⟩
         ·rw [if_neg c14] at H
          have c14b0 : decide (100 ≤ ((rd_T90 l0 x7_1).f1)) = false := decide_eq_false c14
          clear c14
          replace H := Option.bind_eq_some_iff.mp H
          obtain ⟨t148, A170, H⟩ := H
          replace H : (if t148 = true then (if ((rd_T90 l0 x7_1).f3) < (-99999) then (some false) else (if ((rd_T90 l0 x7_1).f3) > 99999 then (some false) else (bt_RowsOk.l0 k1 l0 l0 (l0.length : Int) (wrap64 (x7_1 + 1))))) else (some false)) = some r := H
          have A17 := Aside0.mk A170
          clear A170
          by_cases c18 : t148 = true
          ·subst c18
           have H1 : (if ((rd_T90 l0 x7_1).f3) < (-99999) then (some false) else (if ((rd_T90 l0 x7_1).f3) > 99999 then (some false) else (bt_RowsOk.l0 k1 l0 l0 (l0.length : Int) (wrap64 (x7_1 + 1))))) = some r := by rw [if_pos rfl] at H; exact H
           clear H
           have H := H1
           clear H1
           by_cases c19 : ((rd_T90 l0 x7_1).f3) < (-99999)
           ·rw [if_pos c19] at H
            have c19b0 : decide (((rd_T90 l0 x7_1).f3) < (-99999)) = true := decide_eq_true c19
            clear c19
            obtain rfl := Option.some.inj H
            have p146 : 0 ≤ (x7_1 : Int) := of_decide_eq_true (J0_0)
            have q146 : x7_1 < (l0.length : Int) := of_decide_eq_true (J0_0)
            obtain ⟨ad146, e146, hx146_0, hx146_1, hx146_2, hx146_3, hx146_4⟩ := at_T90 HR0.out x7_1 p146 q146
            cases e146
            replace hx146_0 := (HB.out.cell (World.block_lt_of_cell? w _ hx146_0)).trans hx146_0
            replace hx146_1 := (HB.out.cell (World.block_lt_of_cell? w _ hx146_1)).trans hx146_1
            replace hx146_2 := (HB.out.cell (World.block_lt_of_cell? w _ hx146_2)).trans hx146_2
            replace hx146_3 := (HB.out.cell (World.block_lt_of_cell? w _ hx146_3)).trans hx146_3
            replace hx146_4 := (HB.out.cell (World.block_lt_of_cell? w _ hx146_4)).trans hx146_4
            replace p146 := eq_true p146
            replace q146 := eq_true q146
            go_wp2_with (first | ((with_reducible refine gate_dst (N := 4) rfl ?_); refine box_event ?hg (N := 4) ?hd (cs := #[.int .i64 0, .int .i64 0, .int .i64 0, .int .i64 0, .int .i64 0]) (t := 90) ?hr ?_; (case hd => rfl); (case hg => rfl); (case hr => first | (go_simp; done) | (go_simp; rfl)); intro gb147 hg w20 hbox hb; have n0_ := Aside0.mk (below_step (J0_2) hb); have n1_ := Aside0.mk (hbox); have n2_ := Aside0.mk ((J0_6 : w.heap.size ≤ gb147)); have n3_ := Aside0.mk ((J0_6 : w.heap.size ≤ gb147)); clear HB; have HB := n0_; have BK147 := n1_; have GW147 := n2_; have GE147 := n3_; clear n0_ n1_ n2_ n3_; clear hb hbox hg; have hcz21_0 : w20.cell? ⟨gb147, 0, none⟩ = some (.int .i64 0) := (blk_cell BK147.out 0).trans rfl; have hcz21_1 : w20.cell? ⟨gb147, 1, none⟩ = some (.int .i64 0) := (blk_cell BK147.out 1).trans rfl; have hcz21_2 : w20.cell? ⟨gb147, 2, none⟩ = some (.int .i64 0) := (blk_cell BK147.out 2).trans rfl; have hcz21_3 : w20.cell? ⟨gb147, 3, none⟩ = some (.int .i64 0) := (blk_cell BK147.out 3).trans rfl; have hcz21_4 : w20.cell? ⟨gb147, 4, none⟩ = some (.int .i64 0) := (blk_cell BK147.out 4).trans rfl; have hfz21_0 := blk_frozen BK147.out 0; have hfz21_1 := blk_frozen BK147.out 1; have hfz21_2 := blk_frozen BK147.out 2; have hfz21_3 := blk_frozen BK147.out 3; have hfz21_4 := blk_frozen BK147.out 4) | (go_at_call 61; (with_reducible refine (bt_TimeOk.calls ((rd_T90 l0 x7_1).f2.f0) ((rd_T90 l0 x7_1).f2.f1) true _ A17.out).mono ?_); rintro e w22 ⟨rfl, hb⟩; have n0_ := Aside0.mk (blk_below (g := gb147) (o := .cells #[.int .i64 ((rd_T90 l0 x7_1).f0), .int .i64 ((rd_T90 l0 x7_1).f1), .int .i64 ((rd_T90 l0 x7_1).f2.f0), .int .i64 ((rd_T90 l0 x7_1).f2.f1), .int .i64 ((rd_T90 l0 x7_1).f3)] 90 (0, 0)) (J0_5) hb); have n1_ := Aside0.mk (below_step (J0_4) hb); clear BK147; clear HB; have BK147 := n0_; have HB := n1_; clear n0_ n1_; (try clear hb); (try clear hb2); (try clear hk); (try clear hi); have hcz23_0 : w22.cell? ⟨gb147, 0, none⟩ = some (.int .i64 ((rd_T90 l0 x7_1).f0)) := (blk_cell BK147.out 0).trans rfl; have hcz23_1 : w22.cell? ⟨gb147, 1, none⟩ = some (.int .i64 ((rd_T90 l0 x7_1).f1)) := (blk_cell BK147.out 1).trans rfl; have hcz23_2 : w22.cell? ⟨gb147, 2, none⟩ = some (.int .i64 ((rd_T90 l0 x7_1).f2.f0)) := (blk_cell BK147.out 2).trans rfl; have hcz23_3 : w22.cell? ⟨gb147, 3, none⟩ = some (.int .i64 ((rd_T90 l0 x7_1).f2.f1)) := (blk_cell BK147.out 3).trans rfl; have hcz23_4 : w22.cell? ⟨gb147, 4, none⟩ = some (.int .i64 ((rd_T90 l0 x7_1).f3)) := (blk_cell BK147.out 4).trans rfl; have hfz23_0 := blk_frozen BK147.out 0; have hfz23_1 := blk_frozen BK147.out 1; have hfz23_2 := blk_frozen BK147.out 2; have hfz23_3 := blk_frozen BK147.out 3; have hfz23_4 := blk_frozen BK147.out 4))
            go_ret
            exact ⟨J0_1, J0_4⟩
           ·rw [if_neg c19] at H
            have c19b0 : decide (((rd_T90 l0 x7_1).f3) < (-99999)) = false := decide_eq_false c19
            clear c19
            by_cases c24 : ((rd_T90 l0 x7_1).f3) > 99999
            ·rw [if_pos c24] at H
             have c24b0 : decide (99999 < ((rd_T90 l0 x7_1).f3)) = true := decide_eq_true c24
             clear c24
             obtain rfl := Option.some.inj H
             have p146 : 0 ≤ (x7_1 : Int) := of_decide_eq_true (J0_0)
             have q146 : x7_1 < (l0.length : Int) := of_decide_eq_true (J0_0)
             obtain ⟨ad146, e146, hx146_0, hx146_1, hx146_2, hx146_3, hx146_4⟩ := at_T90 HR0.out x7_1 p146 q146
             cases e146
             replace hx146_0 := (HB.out.cell (World.block_lt_of_cell? w _ hx146_0)).trans hx146_0
             replace hx146_1 := (HB.out.cell (World.block_lt_of_cell? w _ hx146_1)).trans hx146_1
             replace hx146_2 := (HB.out.cell (World.block_lt_of_cell? w _ hx146_2)).trans hx146_2
             replace hx146_3 := (HB.out.cell (World.block_lt_of_cell? w _ hx146_3)).trans hx146_3
             replace hx146_4 := (HB.out.cell (World.block_lt_of_cell? w _ hx146_4)).trans hx146_4
             replace p146 := eq_true p146
             replace q146 := eq_true q146
             go_wp2_with (first | ((with_reducible refine gate_dst (N := 4) rfl ?_); refine box_event ?hg (N := 4) ?hd (cs := #[.int .i64 0, .int .i64 0, .int .i64 0, .int .i64 0, .int .i64 0]) (t := 90) ?hr ?_; (case hd => rfl); (case hg => rfl); (case hr => first | (go_simp; done) | (go_simp; rfl)); intro gb147 hg w25 hbox hb; have n0_ := Aside0.mk (below_step (J0_2) hb); have n1_ := Aside0.mk (hbox); have n2_ := Aside0.mk ((J0_6 : w.heap.size ≤ gb147)); have n3_ := Aside0.mk ((J0_6 : w.heap.size ≤ gb147)); clear HB; have HB := n0_; have BK147 := n1_; have GW147 := n2_; have GE147 := n3_; clear n0_ n1_ n2_ n3_; clear hb hbox hg; have hcz26_0 : w25.cell? ⟨gb147, 0, none⟩ = some (.int .i64 0) := (blk_cell BK147.out 0).trans rfl; have hcz26_1 : w25.cell? ⟨gb147, 1, none⟩ = some (.int .i64 0) := (blk_cell BK147.out 1).trans rfl; have hcz26_2 : w25.cell? ⟨gb147, 2, none⟩ = some (.int .i64 0) := (blk_cell BK147.out 2).trans rfl; have hcz26_3 : w25.cell? ⟨gb147, 3, none⟩ = some (.int .i64 0) := (blk_cell BK147.out 3).trans rfl; have hcz26_4 : w25.cell? ⟨gb147, 4, none⟩ = some (.int .i64 0) := (blk_cell BK147.out 4).trans rfl; have hfz26_0 := blk_frozen BK147.out 0; have hfz26_1 := blk_frozen BK147.out 1; have hfz26_2 := blk_frozen BK147.out 2; have hfz26_3 := blk_frozen BK147.out 3; have hfz26_4 := blk_frozen BK147.out 4) | (go_at_call 61; (with_reducible refine (bt_TimeOk.calls ((rd_T90 l0 x7_1).f2.f0) ((rd_T90 l0 x7_1).f2.f1) true _ A17.out).mono ?_); rintro e w27 ⟨rfl, hb⟩; have n0_ := Aside0.mk (blk_below (g := gb147) (o := .cells #[.int .i64 ((rd_T90 l0 x7_1).f0), .int .i64 ((rd_T90 l0 x7_1).f1), .int .i64 ((rd_T90 l0 x7_1).f2.f0), .int .i64 ((rd_T90 l0 x7_1).f2.f1), .int .i64 ((rd_T90 l0 x7_1).f3)] 90 (0, 0)) (J0_5) hb); have n1_ := Aside0.mk (below_step (J0_4) hb); clear BK147; clear HB; have BK147 := n0_; have HB := n1_; clear n0_ n1_; (try clear hb); (try clear hb2); (try clear hk); (try clear hi); have hcz28_0 : w27.cell? ⟨gb147, 0, none⟩ = some (.int .i64 ((rd_T90 l0 x7_1).f0)) := (blk_cell BK147.out 0).trans rfl; have hcz28_1 : w27.cell? ⟨gb147, 1, none⟩ = some (.int .i64 ((rd_T90 l0 x7_1).f1)) := (blk_cell BK147.out 1).trans rfl; have hcz28_2 : w27.cell? ⟨gb147, 2, none⟩ = some (.int .i64 ((rd_T90 l0 x7_1).f2.f0)) := (blk_cell BK147.out 2).trans rfl; have hcz28_3 : w27.cell? ⟨gb147, 3, none⟩ = some (.int .i64 ((rd_T90 l0 x7_1).f2.f1)) := (blk_cell BK147.out 3).trans rfl; have hcz28_4 : w27.cell? ⟨gb147, 4, none⟩ = some (.int .i64 ((rd_T90 l0 x7_1).f3)) := (blk_cell BK147.out 4).trans rfl; have hfz28_0 := blk_frozen BK147.out 0; have hfz28_1 := blk_frozen BK147.out 1; have hfz28_2 := blk_frozen BK147.out 2; have hfz28_3 := blk_frozen BK147.out 3; have hfz28_4 := blk_frozen BK147.out 4))
             go_ret
             exact ⟨J0_1, J0_4⟩
            ·rw [if_neg c24] at H
             have c24b0 : decide (99999 < ((rd_T90 l0 x7_1).f3)) = false := decide_eq_false c24
             clear c24
             have H' := Aside0.mk H
             clear H
             have p146 : 0 ≤ (x7_1 : Int) := of_decide_eq_true (J0_0)
             have q146 : x7_1 < (l0.length : Int) := of_decide_eq_true (J0_0)
             obtain ⟨ad146, e146, hx146_0, hx146_1, hx146_2, hx146_3, hx146_4⟩ := at_T90 HR0.out x7_1 p146 q146
             cases e146
             replace hx146_0 := (HB.out.cell (World.block_lt_of_cell? w _ hx146_0)).trans hx146_0
             replace hx146_1 := (HB.out.cell (World.block_lt_of_cell? w _ hx146_1)).trans hx146_1
             replace hx146_2 := (HB.out.cell (World.block_lt_of_cell? w _ hx146_2)).trans hx146_2
             replace hx146_3 := (HB.out.cell (World.block_lt_of_cell? w _ hx146_3)).trans hx146_3
             replace hx146_4 := (HB.out.cell (World.block_lt_of_cell? w _ hx146_4)).trans hx146_4
             replace p146 := eq_true p146
             replace q146 := eq_true q146
             go_wp2_with (first | ((with_reducible refine gate_dst (N := 4) rfl ?_); refine box_event ?hg (N := 4) ?hd (cs := #[.int .i64 0, .int .i64 0, .int .i64 0, .int .i64 0, .int .i64 0]) (t := 90) ?hr ?_; (case hd => rfl); (case hg => rfl); (case hr => first | (go_simp; done) | (go_simp; rfl)); intro gb147 hg w29 hbox hb; have n0_ := Aside0.mk (below_step (J0_2) hb); have n1_ := Aside0.mk (hbox); have n2_ := Aside0.mk ((J0_6 : w.heap.size ≤ gb147)); have n3_ := Aside0.mk ((J0_6 : w.heap.size ≤ gb147)); clear HB; have HB := n0_; have BK147 := n1_; have GW147 := n2_; have GE147 := n3_; clear n0_ n1_ n2_ n3_; clear hb hbox hg; have hcz30_0 : w29.cell? ⟨gb147, 0, none⟩ = some (.int .i64 0) := (blk_cell BK147.out 0).trans rfl; have hcz30_1 : w29.cell? ⟨gb147, 1, none⟩ = some (.int .i64 0) := (blk_cell BK147.out 1).trans rfl; have hcz30_2 : w29.cell? ⟨gb147, 2, none⟩ = some (.int .i64 0) := (blk_cell BK147.out 2).trans rfl; have hcz30_3 : w29.cell? ⟨gb147, 3, none⟩ = some (.int .i64 0) := (blk_cell BK147.out 3).trans rfl; have hcz30_4 : w29.cell? ⟨gb147, 4, none⟩ = some (.int .i64 0) := (blk_cell BK147.out 4).trans rfl; have hfz30_0 := blk_frozen BK147.out 0; have hfz30_1 := blk_frozen BK147.out 1; have hfz30_2 := blk_frozen BK147.out 2; have hfz30_3 := blk_frozen BK147.out 3; have hfz30_4 := blk_frozen BK147.out 4) | (go_at_call 61; (with_reducible refine (bt_TimeOk.calls ((rd_T90 l0 x7_1).f2.f0) ((rd_T90 l0 x7_1).f2.f1) true _ A17.out).mono ?_); rintro e w31 ⟨rfl, hb⟩; have n0_ := Aside0.mk (blk_below (g := gb147) (o := .cells #[.int .i64 ((rd_T90 l0 x7_1).f0), .int .i64 ((rd_T90 l0 x7_1).f1), .int .i64 ((rd_T90 l0 x7_1).f2.f0), .int .i64 ((rd_T90 l0 x7_1).f2.f1), .int .i64 ((rd_T90 l0 x7_1).f3)] 90 (0, 0)) (J0_5) hb); have n1_ := Aside0.mk (below_step (J0_4) hb); clear BK147; clear HB; have BK147 := n0_; have HB := n1_; clear n0_ n1_; (try clear hb); (try clear hb2); (try clear hk); (try clear hi); have hcz32_0 : w31.cell? ⟨gb147, 0, none⟩ = some (.int .i64 ((rd_T90 l0 x7_1).f0)) := (blk_cell BK147.out 0).trans rfl; have hcz32_1 : w31.cell? ⟨gb147, 1, none⟩ = some (.int .i64 ((rd_T90 l0 x7_1).f1)) := (blk_cell BK147.out 1).trans rfl; have hcz32_2 : w31.cell? ⟨gb147, 2, none⟩ = some (.int .i64 ((rd_T90 l0 x7_1).f2.f0)) := (blk_cell BK147.out 2).trans rfl; have hcz32_3 : w31.cell? ⟨gb147, 3, none⟩ = some (.int .i64 ((rd_T90 l0 x7_1).f2.f1)) := (blk_cell BK147.out 3).trans rfl; have hcz32_4 : w31.cell? ⟨gb147, 4, none⟩ = some (.int .i64 ((rd_T90 l0 x7_1).f3)) := (blk_cell BK147.out 4).trans rfl; have hfz32_0 := blk_frozen BK147.out 0; have hfz32_1 := blk_frozen BK147.out 1; have hfz32_2 := blk_frozen BK147.out 2; have hfz32_3 := blk_frozen BK147.out 3; have hfz32_4 := blk_frozen BK147.out 4))
             go_roundg k1
             case measure => have := HK1.out; omega
             case rel => exact ⟨(wrap64 (x7_1 + 1)), (by first | rfl | (simp; done) | (simp [*]; done)), H', ⟨by have := HK1.out; omega⟩, ⟨J0_4⟩⟩
          ·replace c18 := Bool.eq_false_iff.mpr c18
           subst c18
           have H1 : (some false) = some r := by rw [if_neg (show ¬ (false = true) by decide)] at H; exact H
           clear H
           have H := H1
           clear H1
           obtain rfl := Option.some.inj H
           have p146 : 0 ≤ (x7_1 : Int) := of_decide_eq_true (J0_0)
           have q146 : x7_1 < (l0.length : Int) := of_decide_eq_true (J0_0)
           obtain ⟨ad146, e146, hx146_0, hx146_1, hx146_2, hx146_3, hx146_4⟩ := at_T90 HR0.out x7_1 p146 q146
           cases e146
           replace hx146_0 := (HB.out.cell (World.block_lt_of_cell? w _ hx146_0)).trans hx146_0
           replace hx146_1 := (HB.out.cell (World.block_lt_of_cell? w _ hx146_1)).trans hx146_1
           replace hx146_2 := (HB.out.cell (World.block_lt_of_cell? w _ hx146_2)).trans hx146_2
           replace hx146_3 := (HB.out.cell (World.block_lt_of_cell? w _ hx146_3)).trans hx146_3
           replace hx146_4 := (HB.out.cell (World.block_lt_of_cell? w _ hx146_4)).trans hx146_4
           replace p146 := eq_true p146
           replace q146 := eq_true q146
           go_wp2_with (first | ((with_reducible refine gate_dst (N := 4) rfl ?_); refine box_event ?hg (N := 4) ?hd (cs := #[.int .i64 0, .int .i64 0, .int .i64 0, .int .i64 0, .int .i64 0]) (t := 90) ?hr ?_; (case hd => rfl); (case hg => rfl); (case hr => first | (go_simp; done) | (go_simp; rfl)); intro gb147 hg w33 hbox hb; have n0_ := Aside0.mk (below_step (J0_2) hb); have n1_ := Aside0.mk (hbox); have n2_ := Aside0.mk ((J0_6 : w.heap.size ≤ gb147)); have n3_ := Aside0.mk ((J0_6 : w.heap.size ≤ gb147)); clear HB; have HB := n0_; have BK147 := n1_; have GW147 := n2_; have GE147 := n3_; clear n0_ n1_ n2_ n3_; clear hb hbox hg; have hcz34_0 : w33.cell? ⟨gb147, 0, none⟩ = some (.int .i64 0) := (blk_cell BK147.out 0).trans rfl; have hcz34_1 : w33.cell? ⟨gb147, 1, none⟩ = some (.int .i64 0) := (blk_cell BK147.out 1).trans rfl; have hcz34_2 : w33.cell? ⟨gb147, 2, none⟩ = some (.int .i64 0) := (blk_cell BK147.out 2).trans rfl; have hcz34_3 : w33.cell? ⟨gb147, 3, none⟩ = some (.int .i64 0) := (blk_cell BK147.out 3).trans rfl; have hcz34_4 : w33.cell? ⟨gb147, 4, none⟩ = some (.int .i64 0) := (blk_cell BK147.out 4).trans rfl; have hfz34_0 := blk_frozen BK147.out 0; have hfz34_1 := blk_frozen BK147.out 1; have hfz34_2 := blk_frozen BK147.out 2; have hfz34_3 := blk_frozen BK147.out 3; have hfz34_4 := blk_frozen BK147.out 4) | (go_at_call 61; (with_reducible refine (bt_TimeOk.calls ((rd_T90 l0 x7_1).f2.f0) ((rd_T90 l0 x7_1).f2.f1) false _ A17.out).mono ?_); rintro e w35 ⟨rfl, hb⟩; have n0_ := Aside0.mk (blk_below (g := gb147) (o := .cells #[.int .i64 ((rd_T90 l0 x7_1).f0), .int .i64 ((rd_T90 l0 x7_1).f1), .int .i64 ((rd_T90 l0 x7_1).f2.f0), .int .i64 ((rd_T90 l0 x7_1).f2.f1), .int .i64 ((rd_T90 l0 x7_1).f3)] 90 (0, 0)) (J0_5) hb); have n1_ := Aside0.mk (below_step (J0_4) hb); clear BK147; clear HB; have BK147 := n0_; have HB := n1_; clear n0_ n1_; (try clear hb); (try clear hb2); (try clear hk); (try clear hi)))
           go_ret
           exact ⟨J0_1, J0_4⟩
     ·rw [if_neg c4] at H
      exact absurd H (by simp)
    ·rw [if_neg c3] at H
     exact absurd H (by simp)
   ·rw [if_neg c2] at H
    have c2b0 : decide (x7_1 < (l0.length : Int)) = false := decide_eq_false c2
    clear c2
    obtain rfl := Option.some.inj H
    go_wp2
    go_ret
    exact ⟨J0_1, J0_2⟩
theorem bt_laid_ : laidOutB Try.prog = true := by kernel_rfl
theorem bt_law36 : WideMaps.KeyLaw Try.prog 36 := deep_law_laid bt_laid_ (m := 2) (by omega) (of_decide_eq_true (by kernel_rfl)) (by kernel_rfl) (by rw [Try.underlying36])
theorem bt_kd36 : Maps.Keyed Try.prog 36 := Maps.Keyed.of_law bt_law36
def bt_v (x : S36) : Value := .agg #[.int .i64 x.f0, .int .i64 x.f1]
def bt_wf64 (n : Int) : Bool := (Lit.int .i64 n).wf
theorem bt_wf64_iff {n : Int} : bt_wf64 n = true ↔ -9223372036854775808 ≤ n ∧ n ≤ 9223372036854775807 := by
 simp [bt_wf64, Lit.wf, IntKind.min, IntKind.max, IntKind.signed, IntKind.bits]
def bt_ok (x : S36) : Bool := bt_wf64 x.f0 && bt_wf64 x.f1
theorem bt_keyLits3 (m : Nat) (a : Value) : Try.prog.keyLits (m + 1) 3 [a] = match a with | .int .i64 n => if bt_wf64 n = true then some [Lit.int .i64 n] else none | _ => none := by
 rw [Program.keyLits.eq_def]
 simp only [Try.underlying3]
 cases a <;> simp
 rename_i k n
 cases k <;> simp [bt_wf64]
 rfl
theorem bt_keyLits36 (n : Nat) (a b : Value) : Try.prog.keyLits (n + 2) 36 [a, b] = (Try.prog.keyLits (n + 1) 3 [a]).bind fun p => (Try.prog.keyLits (n + 1) 3 [b]).bind fun q => some (p ++ q) := by
 have c36 : Try.prog.cellsOf 36 = 2 := by kernel_rfl
 have c3 : Try.prog.cellsOf 3 = 1 := by kernel_rfl
 rw [Program.keyLits.eq_def]
 simp only [Try.underlying36, c36]
 generalize hf : (fun cs : List Value => Try.prog.keyLits (n + 1) 3 cs) = f
 have e : ∀ cs, Try.prog.keyLits (n + 1) 3 cs = f cs := fun cs => by rw [← hf]
 simp [c3, e]
 cases f [a] <;> cases f [b] <;> simp
def bt_lit (x : S36) : Lit := .string (keyBytes [.int .i64 x.f0, .int .i64 x.f1])
theorem bt_key {x : S36} (h : bt_ok x = true) : keyOf Try.prog 36 (bt_v x) = some (bt_lit x) := by
 obtain ⟨m, e⟩ : ∃ m, Try.prog.types.size + 1 = m + 2 := ⟨Try.prog.types.size - 1, by have : 0 < Try.prog.types.size := of_decide_eq_true (by kernel_rfl); omega⟩
 have c36 : Try.prog.cellsOf 36 = 2 := by kernel_rfl
 have kt : Try.prog.keyType 36 = true := by kernel_rfl
 simp only [bt_ok, Bool.and_eq_true] at h
 unfold keyOf bt_v
 rw [Try.underlying36]
 simp only [kt, Value.formed, Try.underlying36, c36, e]
 simp [Value.cells, bt_keyLits36, bt_keyLits3, h.1, h.2, bt_lit]
theorem bt_lit_inj {x y : S36} (hx : bt_ok x = true) (hy : bt_ok y = true) (h : bt_lit x = bt_lit y) : x = y := by
 have e : bt_v x = bt_v y := bt_law36.inj (bt_key hx) (h ▸ bt_key hy)
 obtain ⟨a, b⟩ := x
 obtain ⟨a', b'⟩ := y
 simp [bt_v] at e
 obtain ⟨rfl, rfl⟩ := e
 rfl
theorem bt_lit_key (x : S36) : WideAt.IsKeyLit (bt_lit x) := by
 unfold bt_lit
 trivial
noncomputable abbrev bt_EL : Value → Option (DataW Unit × List MemPlace) := plainElem Try.prog 4
theorem bt_zero4 (w : World) : (zeroValue 4).run Try.prog w = .ok (.bool false) w := by kernel_rfl
def bt_eq (x y : S36) : Bool := x.f0 == y.f0 && x.f1 == y.f1
theorem bt_eq_iff {x y : S36} : bt_eq x y = true ↔ x = y := by
 obtain ⟨a, b⟩ := x
 obtain ⟨c, d⟩ := y
 simp [bt_eq]

def bt_Val (D : DataW Unit) (f : S36 → Bool) : Prop := Maps.IsMap D ∧ ∀ q, bt_ok q = true → D.atKey (bt_lit q) (.lit (.bool false)) = .lit (.bool (f q))
theorem bt_isMap_put {D : DataW Unit} {k : Lit} {d : DataW Unit} (h : Maps.IsMap D) : Maps.IsMap (D.put k d) := by
 obtain ⟨es, rfl⟩ := h
 exact ⟨_, rfl⟩
theorem bt_Val.start : bt_Val (.map []) (fun _ => false) := ⟨⟨_, rfl⟩, fun q _ => rfl⟩
theorem bt_Val.step {D : DataW Unit} {f : S36 → Bool} {x : S36} (h : bt_Val D f) (hx : bt_ok x = true) : bt_Val (D.put (bt_lit x) (.lit (.bool true))) fun q => f q || bt_eq x q := by
 refine ⟨bt_isMap_put h.1, fun q hq => ?_⟩
 show _ = DataW.lit (Lit.bool (f q || bt_eq x q))
 by_cases hne : bt_lit q = bt_lit x
 ·have := bt_lit_inj hq hx hne
  subst this
  rw [Maps.atKey_put_same h.1 (bt_lit_key _), show bt_eq q q = true from bt_eq_iff.2 rfl, Bool.or_true]
 ·have e : bt_eq x q = false := by
   cases hb : bt_eq x q with
   | false => rfl
   | true => exact absurd (by rw [bt_eq_iff.1 hb]) hne
  rw [Maps.atKey_put_other hne, h.2 q hq, e, Bool.or_false]
theorem bt_bool_inv {P : Program} {e : TypeId} (he : P.underlying e = some .bool) {v : Value} {z : DataW Unit × List MemPlace} (h : plainElem P e v = some z) : ∃ x, v = .bool x ∧ z = (.lit (.bool x), []) := by
 unfold plainElem at h
 rw [he] at h
 cases v <;> simp at h
 exact ⟨_, rfl, h.symm⟩
theorem bt_look {w : World} {b n : Nat} {D : DataW Unit} {f : S36 → Bool} (h : w.ownsMap Try.prog 36 bt_EL b n D) (hv : bt_Val D f) {x : S36} (hx : bt_ok x = true) :
  (Instr.lookup 94 (.map (some b)) (bt_v x) false).run Try.prog w = .ok (.bool (f x)) w := by
 obtain ⟨v, ps, hrun, hr⟩ := h.lookup bt_kd36 Try.underlying94 (bt_zero4 w) (plainElem_bool Try.underlying4 false) (bt_key hx)
 rw [hv.2 x hx] at hr
 obtain ⟨c, rfl, e⟩ := bt_bool_inv Try.underlying4 hr
 simp only [Prod.mk.injEq, DataW.lit.injEq, Lit.bool.injEq] at e
 rw [hrun, e.1]

def bt_pre (f : S36 → Bool) (n : Nat) : List S36 := ((List.range n).filter fun i => f ⟨((i / 8 : Nat) : Int), ((i % 8 : Nat) : Int)⟩).map fun i => ⟨((i / 8 : Nat) : Int), ((i % 8 : Nat) : Int)⟩
theorem bt_pre_len (f : S36 → Bool) (n : Nat) : (bt_pre f n).length ≤ n := by
 unfold bt_pre
 rw [List.length_map]
 exact Nat.le_trans (List.length_filter_le _ _) (by simp)
theorem bt_pre_succ (f : S36 → Bool) (a b : Nat) (hb : b < 8) : bt_pre f (8 * a + (b + 1)) = bt_pre f (8 * a + b) ++ (if f ⟨(a : Int), (b : Int)⟩ = true then [⟨(a : Int), (b : Int)⟩] else []) := by
 have e1 : (8 * a + b) / 8 = a := by omega
 have e2 : (8 * a + b) % 8 = b := by omega
 unfold bt_pre
 rw [← Nat.add_assoc, List.range_succ, List.filter_append, List.map_append]
 congr 1
 simp only [List.filter_cons, List.filter_nil, e1, e2]
 split <;> simp only [List.map_cons, List.map_nil, e1, e2]
theorem bt_own_ge {α : Type} {d : Kd α} {e base g : Nat} {W : World} {ok : Nat → Prop} {v : Value} {xs : List α} (h : Kd.R d e W base ok v xs) (hg : v.ownBlock = some g) : base ≤ g := by
 obtain ⟨_, inner, ho, _⟩ := h
 exact own_base ho g hg
set_option maxHeartbeats 8000000 in
set_option maxRecDepth 100000 in
theorem bt_timesOf_ (B n : Nat) (D : DataW Unit) (f : S36 → Bool) (w : World) (hown : w.ownsMap Try.prog 36 bt_EL B n D) (hv : bt_Val D f) :
 Calls Try.prog 88 #[.map (some B)] w fun e w' => ∃ v0_ : Value, e = .returned v0_ ∧ Kd.R k36 36 w' w.heap.size (fun _ => True) v0_ (bt_pre f 64) ∧ Below w.heap.size w w' := by
 have hu36 := Try.underlying36
 have hlt0 := hown.lt
 go_enter Try.func88, Try.ntmps88
 go_wp2_with (first
  | ((with_reducible refine gate_dst (N := 6) rfl ?_); refine Kd.R_lit k36 _ 36 ?hg (N := 6) ?hd (xs := ([] : List S36)) (inner := []) (ok := fun _ => True) (okp := fun _ => True) ?hr ?hp (fun _ hk => hk) trivial (Below.refl _ _) (Nat.le_refl _) (by simp) ?_; (case hd => rfl); (case hg => rfl); (case hr => first | (go_simp; done) | (go_simp; rfl)); (case hp => exact (Reps.none _ _)); intro v6 w6 hO hb6 hgr hnew; clear hgr hnew)
  | go_in)
 go_loopw [3, 4] (fun v3 v4 wr => ∃ (a : Nat), a ≤ 8 ∧ v4 = .int .i64 (a : Int) ∧ Aside0 (Kd.R k36 36 wr w.heap.size (fun _ => True) v3 (bt_pre f (8 * a))) ∧ Aside0 (wr.ownsMap Try.prog 36 bt_EL B n D) ∧ Aside0 (Below w.heap.size w wr)) (fun _ v4 _ => 8 - (RowKit.intOf v4).toNat)
 case atStart => exact ⟨0, by omega, rfl, ⟨by simpa [bt_pre] using hO⟩, ⟨hown.kept (grown_of_below hb6 none) (by simp)⟩, ⟨hb6⟩⟩
 case round =>
  clear hO hb6
  obtain ⟨a, ha, rfl, HO, HM, HB⟩ := hrel
  by_cases hlt : a ≤ 7
  ·have c0b : decide ((a : Int) ≤ 7) = true := decide_eq_true (by omega)
   go_wp2
   go_loopw [3, 5] (fun v3 v5 wr2 => ∃ (b : Nat), b ≤ 8 ∧ v5 = .int .i64 (b : Int) ∧ Aside0 (Kd.R k36 36 wr2 w.heap.size (fun _ => True) v3 (bt_pre f (8 * a + b))) ∧ Aside0 (wr2.ownsMap Try.prog 36 bt_EL B n D) ∧ Aside0 (Below w.heap.size w wr2)) (fun _ v5 _ => 8 - (RowKit.intOf v5).toNat)
   case atStart => exact ⟨0, by omega, rfl, HO, HM, HB⟩
   case round =>
    clear HO HM HB
    obtain ⟨b, hb, rfl, HO, HM, HB⟩ := hrel
    by_cases hlt2 : b ≤ 7
    ·have c1b : decide ((b : Int) ≤ 7) = true := decide_eq_true (by omega)
     have hlk := bt_look HM.out hv (x := ⟨(a : Int), (b : Int)⟩) (by simp only [bt_ok, Bool.and_eq_true, bt_wf64_iff]; omega)
     unfold bt_v at hlk
     have hs := bt_pre_succ f a b (by omega)
     have hl64 := bt_pre_len f (8 * a + b)
     cases hf : f ⟨(a : Int), (b : Int)⟩ with
     | false =>
      rw [hf] at hlk hs
      have HS := Aside0.mk hs
      clear hs hf
      go_wp2
      go_roundw
      case rel => exact ⟨b + 1, by omega, by simp, ⟨by rw [HS.out]; simpa using HO.out⟩, HM, HB⟩
      case measure => simp only [RowKit.intOf]; omega
     | true =>
      rw [hf] at hlk hs
      have HS := Aside0.mk hs
      have HL := Aside0.mk hl64
      clear hs hf hl64
      go_wp2_with (first
       | ((with_reducible refine gate_builtin (b := .append) (xs := #[.tmp 20, .tmp 24]) rfl ?_); at_builtin; refine Kd.R_append k36 (w0 := w) w.heap.size rfl (.tmp 20) (.tmp 24) 24 36 (.agg #[(.int .i64 0), (.int .i64 0)]) 16 rfl Try.underlying24 info36 rfl (by decide) (by omega) u3 (bt_pre f (8 * a + b)) (⟨(a : Int), (b : Int)⟩ : S36) [.int .i64 (a : Int), .int .i64 (b : Int)] (fun _ => True) (fun _ => False) rfl (by first | (go_simp; done) | (go_simp; rfl)) ?aP (fun _ hk => hk.elim) ?aF ?aO ?aB ?aS ?aL ?_; (case aP => exact k36_mkM _ _ _ (⟨(a : Int), (b : Int)⟩ : S36)); (case aB => exact HB.out); (case aF => exact (fun _ _ => trivial)); (case aO => exact HO.out); (case aS => exact below_size HB.out); (case aL => have := HL.out; omega); intro v25 w25 ho hb25 hg hat)
       | go_in)
      go_roundw
      case rel => exact ⟨b + 1, by omega, by simp, ⟨by rw [HS.out]; exact Kd.R_mono ho (fun _ _ => trivial)⟩, ⟨HM.out.kept hg (fun hk => by have := bt_own_ge HO.out hk.symm; omega)⟩, ⟨hb25⟩⟩
      case measure => simp only [RowKit.intOf]; omega
    ·have hb8 : b = 8 := by omega
     subst hb8
     have c1b : decide (((8 : Nat) : Int) ≤ 7) = false := decide_eq_false (by omega)
     go_wp2
     go_roundw
     case rel => exact ⟨a + 1, by omega, by simp, ⟨by rw [show 8 * (a + 1) = 8 * a + 8 by omega]; exact HO.out⟩, HM, HB⟩
     case measure => simp only [RowKit.intOf]; omega
  ·have ha8 : a = 8 := by omega
   subst ha8
   go_wp2
   go_ret
   exact ⟨_, rfl, HO.out, HB.out⟩

def bt_has (l : List S90) (q : S36) : Bool := l.any fun r => bt_eq ⟨r.f2.f0, r.f2.f1⟩ q
def bt_timesL (l : List S90) : List S36 := bt_pre (bt_has l) 64
def bt_okR (x : S90) : Bool := bt_ok ⟨x.f2.f0, x.f2.f1⟩
def impl_BatchTimes.f (k : Nat) (l0 : List S90) : Option (List S36) := (bt_RowsOk.f k l0).bind fun t => if t = true then (if l0.length ≤ 1000000 ∧ l0.all bt_okR = true then some (bt_timesL l0) else none) else some []
theorem bt_has_snoc (l : List S90) (x : S90) : (fun q => bt_has (l ++ [x]) q) = fun q => bt_has l q || bt_eq ⟨x.f2.f0, x.f2.f1⟩ q := by
 funext q
 unfold bt_has
 rw [List.any_append]
 simp
set_option maxHeartbeats 8000000 in
set_option maxRecDepth 100000 in
theorem impl_BatchTimes.calls (k : Nat) (A0 : Option Addr) (c0 : Nat) (l0 : List S90) (r : List S36) (w : World) (hr0 : Kd.C k90 w A0 l0.length l0) (hc0 : l0.length ≤ c0) (h : impl_BatchTimes.f k l0 = some r) :
 Calls Try.prog 52 #[.slice A0 l0.length c0] w fun e w' => ∃ v0_ : Value, e = .returned (v0_) ∧ Kd.R k36 36 w' w.heap.size (fun _ => True) v0_ r ∧ Below w.heap.size w w' := by
 have hu90 := Try.underlying90
 have hu36 := Try.underlying36
 have HR0 := Aside0.mk hr0
 have HC0 := Aside0.mk hc0
 clear hr0 hc0
 unfold impl_BatchTimes.f at h
 obtain ⟨t, A, H⟩ := Option.bind_eq_some_iff.mp h
 clear h
 have A3 := Aside0.mk A
 clear A
 cases t with
 | false =>
  rw [if_neg (by simp)] at H
  obtain rfl := Option.some.inj H
  go_enter Try.func52, Try.ntmps52
  go_wp2_with (first
   | ((with_reducible refine gate_callee (f := 87) rfl ?_); refine goesL_ (some 7) rfl rfl Try.func87 (by kernel_rfl) rfl #[.slice A0 l0.length c0] rfl (by (try simp only [List.map_toArray, List.map_cons, List.map_nil]); first | done | rfl | (simp only [List.length_drop, List.length_take]; rfl)) ?_; (with_reducible refine (bt_RowsOk.calls k _ _ l0 false _ ?side1 ?side2 A3.out).mono ?_); (case side1 => exact HR0.out); (case side2 => exact HC0.out); rintro e w5 ⟨rfl, hb⟩; refine ⟨_, rfl, ?_⟩; have HB := Aside0.mk hb; clear hb)
   | go_in)
  go_ret
  exact ⟨_, rfl, Kd.R_nil _ _ _ _ _, HB.out⟩
 | true =>
  rw [if_pos rfl] at H
  by_cases hlim : l0.length ≤ 1000000 ∧ l0.all bt_okR = true
  case neg => rw [if_neg hlim] at H; cases H
  rw [if_pos hlim] at H
  obtain rfl := Option.some.inj H
  have HL := Aside0.mk hlim
  clear hlim H
  have hmm := @run_makeMap Try.prog
  go_enter Try.func52, Try.ntmps52
  go_wp2_with (first
   | ((with_reducible refine gate_callee (f := 87) rfl ?_); refine goesL_ (some 7) rfl rfl Try.func87 (by kernel_rfl) rfl #[.slice A0 l0.length c0] rfl (by (try simp only [List.map_toArray, List.map_cons, List.map_nil]); first | done | rfl | (simp only [List.length_drop, List.length_take]; rfl)) ?_; (with_reducible refine (bt_RowsOk.calls k _ _ l0 true _ ?side1 ?side2 A3.out).mono ?_); (case side1 => exact HR0.out); (case side2 => exact HC0.out); rintro e w5 ⟨rfl, hb⟩; refine ⟨_, rfl, ?_⟩; have HB := Aside0.mk hb; clear hb)
   | go_in)
  have hsz := HB.out.size
  have hown0 : (w5.alloc (.map #[] 0)).ownsMap Try.prog 36 bt_EL w5.heap.size 0 (.map []) := World.ownsMap_made _ _ _ _
  have HB5 := Aside0.mk (HB.out.alloc hsz (.map #[] 0))
  generalize w5.heap.size = B at hown0 hsz ⊢
  go_loopw [12] (fun i wr => ∃ (kk : Nat) (D : DataW Unit), kk ≤ l0.length ∧ i = .int .i64 (kk : Int) ∧ Aside0 (wr.ownsMap Try.prog 36 bt_EL B kk D) ∧ Aside0 (bt_Val D fun q => bt_has (l0.take kk) q) ∧ Aside0 (Below w.heap.size w wr)) (fun i _ => l0.length - (RowKit.intOf i).toNat)
  case atStart => exact ⟨0, .map [], Nat.zero_le _, rfl, ⟨hown0⟩, ⟨bt_Val.start⟩, HB5⟩
  case round =>
   clear HB hown0 HB5
   obtain ⟨kk, D, hk, rfl, HM, HV, HB⟩ := hrel
   by_cases hlt : kk < l0.length
   ·have c0b : decide ((kk : Int) < (l0.length : Int)) = true := decide_eq_true (by omega)
    have p5 : 0 ≤ (kk : Int) := by omega
    have q5 : (kk : Int) < (l0.length : Int) := by omega
    obtain ⟨ad, e, hx0, hx1, hx2, hx3, hx4⟩ := at_T90 HR0.out (kk : Int) p5 q5
    cases e
    replace hx0 := (HB.out.cell (World.block_lt_of_cell? w _ hx0)).trans hx0
    replace hx1 := (HB.out.cell (World.block_lt_of_cell? w _ hx1)).trans hx1
    replace hx2 := (HB.out.cell (World.block_lt_of_cell? w _ hx2)).trans hx2
    replace hx3 := (HB.out.cell (World.block_lt_of_cell? w _ hx3)).trans hx3
    replace hx4 := (HB.out.cell (World.block_lt_of_cell? w _ hx4)).trans hx4
    simp only [Int.toNat_natCast] at hx0 hx1 hx2 hx3 hx4
    replace p5 := eq_true p5
    replace q5 := eq_true q5
    generalize hx : rd_T90 l0 (kk : Int) = x at *
    have hxm : l0.take (kk + 1) = l0.take kk ++ [x] := by
     rw [List.take_succ_eq_append_getElem hlt]
     congr 2
     rw [← hx]
     unfold rd_T90
     rw [List.getD_eq_getElem?_getD, Int.toNat_natCast, List.getElem?_eq_getElem hlt]
     rfl
    have hxo : bt_ok ⟨x.f2.f0, x.f2.f1⟩ = true := List.all_eq_true.1 HL.out.2 x (by
     have : x ∈ l0.take (kk + 1) := by rw [hxm]; simp
     exact List.mem_of_mem_take this)
    have HX := Aside0.mk (And.intro hxm hxo)
    have hn_ : kk < maxLen := by have := HL.out.1; unfold maxLen; omega
    clear hxm hxo hx
    go_wp2_with (first
     | (at_mapUpdate; refine wpList_mapUpdate_own _ rfl _ _ _ 94 rfl 36 4 bt_kd36 Try.underlying94 bt_EL B kk D rfl (HM.out.alloc _) hn_ _ _ (bt_lit ⟨x.f2.f0, x.f2.f1⟩) rfl rfl (bt_key HX.out.2) _ [] (plainElem_bool Try.underlying4 true) ?_; intro w7 hown7 hgrow7)
     | go_in)
    have hup : wrap64 ((kk : Int) + 1) = ((kk + 1 : Nat) : Int) := by have := HL.out.1; unfold wrap64; omega
    have hV2 := HV.out.step HX.out.2
    rw [← bt_has_snoc, ← HX.out.1] at hV2
    have hBl : B < wr.heap.size := HM.out.lt
    go_roundw
    case rel => exact ⟨kk + 1, _, by omega, by rw [hup], ⟨hown7⟩, ⟨hV2⟩, ⟨(HB.out.alloc HB.out.size _).grown hgrow7 (by have := HB.out.size; simp; omega) (fun j hj => by cases hj; omega)⟩⟩
    case measure => rw [hup]; simp only [RowKit.intOf]; omega
   ·have hkl : kk = l0.length := by omega
    subst hkl
    have c0b : decide ((l0.length : Int) < (l0.length : Int)) = false := decide_eq_false (by omega)
    have hV := HV.out
    rw [List.take_length] at hV
    have hT := bt_timesOf_ B l0.length D (fun q => bt_has l0 q) wr HM.out hV
    have HT := Aside0.mk hT
    clear hV hT
    go_wp2_with (first
     | ((with_reducible refine gate_callee (f := 88) rfl ?_); refine goesL_ (some 21) rfl rfl Try.func88 (by kernel_rfl) rfl #[.map (some B)] rfl (by (try simp only [List.map_toArray, List.map_cons, List.map_nil]); first | done | rfl) ?_; refine HT.out.mono ?_; rintro e w8 ⟨v8, rfl, hR, hb⟩; refine ⟨_, rfl, ?_⟩)
     | go_in)
    go_ret
    exact ⟨_, rfl, Kd.R_lower hR HB.out.size, below_weaken HB.out HB.out.size hb⟩

end Go.Proofs.Ytpggfdjnebccnaa.PFnBatchTimes
