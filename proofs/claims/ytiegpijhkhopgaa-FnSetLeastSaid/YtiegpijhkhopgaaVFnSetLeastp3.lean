/- Functions that the law comes to: each as a plain Lean function, with the contract of the Go function. -/
import Derived.Test.YtiegpijhkhopgaaVFnSetLeastw
import Derived.Test.YtiegpijhkhopgaaVFnSetLeastp0
import Derived.Test.YtiegpijhkhopgaaVFnSetLeastp2
namespace Go.Proofs.Ytiegpijhkhopgaa.PFnSetLeast
open Go.RowKit Go.Proofs.YtiegpijhkhopgaaW.PrintWords Go.Proofs.YtiegpijhkhopgaaW.PrintLast Go.Proofs.YtiegpijhkhopgaaW.PrintMore
attribute [local go_sem] max2_int min2_int max_two min_two max_three min_three max_four min_four
set_option linter.unusedVariables false
set_option linter.unusedSimpArgs false
attribute [local go_sem high] eqA60
set_option maxHeartbeats 8000000 in
set_option maxRecDepth 100000 in
theorem spec_l2Row.calls (a0_0 : Int) (a0_1 : Int) (a0_2 : Int) (a0_3 : Int) (a0_4 : Int) (r : Bool) (w : World) (h : spec_l2Row.f a0_0 a0_1 a0_2 a0_3 a0_4 = some r) :
  Calls Try.prog 85 #[.agg #[.int .i64 a0_0,.int .i64 a0_1,.int .i64 a0_2,.int .i64 a0_3,.int .i64 a0_4]] w fun e w'=>e = .returned (.bool r) ∧ Below w.heap.size w w':=by
 have hu67:=Try.underlying67
 have hu26:=Try.underlying26
 have HB:=Aside0.mk (Below.refl w.heap.size w)
 have H : ((spec_l6In.f a0_0 0 3).bind fun t197=>(if t197 = true then ((spec_l6In.f a0_1 0 99).bind fun t198=>(if t198 = true then ((spec_TimeOk.f a0_2 a0_3).bind fun t199=>(if t199 = true then ((spec_l6In.f a0_4 (-99999) 99999).bind fun t200=>(some t200)) else (some false))) else (some false))) else (some false))) = some r:=h
 clear h
 replace H:=Option.bind_eq_some_iff.mp H
 obtain ⟨t197,A20,H⟩:=H
 replace H : (if t197 = true then ((spec_l6In.f a0_1 0 99).bind fun t198=>(if t198 = true then ((spec_TimeOk.f a0_2 a0_3).bind fun t199=>(if t199 = true then ((spec_l6In.f a0_4 (-99999) 99999).bind fun t200=>(some t200)) else (some false))) else (some false))) else (some false)) = some r:=H
 have A2:=Aside0.mk A20
 clear A20
 by_cases c3 : t197 = true
 ·subst c3
  have H1 : ((spec_l6In.f a0_1 0 99).bind fun t198=>(if t198 = true then ((spec_TimeOk.f a0_2 a0_3).bind fun t199=>(if t199 = true then ((spec_l6In.f a0_4 (-99999) 99999).bind fun t200=>(some t200)) else (some false))) else (some false))) = some r:=by rw [if_pos rfl] at H;exact H
  clear H
  have H:=H1
  clear H1
  replace H:=Option.bind_eq_some_iff.mp H
  obtain ⟨t198,A40,H⟩:=H
  replace H : (if t198 = true then ((spec_TimeOk.f a0_2 a0_3).bind fun t199=>(if t199 = true then ((spec_l6In.f a0_4 (-99999) 99999).bind fun t200=>(some t200)) else (some false))) else (some false)) = some r:=H
  have A4:=Aside0.mk A40
  clear A40
  by_cases c5 : t198 = true
  ·subst c5
   have H1 : ((spec_TimeOk.f a0_2 a0_3).bind fun t199=>(if t199 = true then ((spec_l6In.f a0_4 (-99999) 99999).bind fun t200=>(some t200)) else (some false))) = some r:=by rw [if_pos rfl] at H;exact H
   clear H
   have H:=H1
   clear H1
   replace H:=Option.bind_eq_some_iff.mp H
   obtain ⟨t199,A60,H⟩:=H
   replace H : (if t199 = true then ((spec_l6In.f a0_4 (-99999) 99999).bind fun t200=>(some t200)) else (some false)) = some r:=H
   have A6:=Aside0.mk A60
   clear A60
   by_cases c7 : t199 = true
   ·subst c7
    have H1 : ((spec_l6In.f a0_4 (-99999) 99999).bind fun t200=>(some t200)) = some r:=by rw [if_pos rfl] at H;exact H
    clear H
    have H:=H1
    clear H1
    replace H:=Option.bind_eq_some_iff.mp H
    obtain ⟨t200,A80,H⟩:=H
    replace H : (some t200) = some r:=H
    have A8:=Aside0.mk A80
    clear A80
    obtain rfl:=Option.some.inj H
    go_enter Try.func85,Try.ntmps85
    go_wp2_with (first|((with_reducible refine gate_dst (N:=1) rfl ?_);refine box_event ?hg (N:=1) ?hd (cs:=#[.int .i64 a0_0,.int .i64 a0_1,.int .i64 a0_2,.int .i64 a0_3,.int .i64 a0_4]) (t:=67) ?hr ?_;(case hd=>rfl);(case hg=>rfl);(case hr=>first|(go_simp;done)|(go_simp;rfl));intro gb196 hg w9 hbox hb;have n0_:=Aside0.mk (below_step (by repeat (first|(with_reducible first|exact HB.out|apply below_alloc|apply pw_below_drewN|apply below_drew1)|exact HB.out)) hb);have n1_:=Aside0.mk (hbox);have n2_:=Aside0.mk ((by rw [hg];exact (below_size (by repeat (first|(with_reducible first|exact HB.out|apply below_alloc|apply pw_below_drewN|apply below_drew1)|exact HB.out))) : w.heap.size ≤ gb196));have n3_:=n2_;clear HB;have HB:=n0_;have BK196:=n1_;have GW196:=n2_;have GE196:=n3_;clear n0_ n1_ n2_ n3_;clear hb hbox hg;have hcz10_0 : w9.cell? ⟨gb196,0,none⟩ = some (.int .i64 a0_0):=(blk_cell BK196.out 0).trans rfl;have hcz10_1 : w9.cell? ⟨gb196,1,none⟩ = some (.int .i64 a0_1):=(blk_cell BK196.out 1).trans rfl;have hcz10_2 : w9.cell? ⟨gb196,2,none⟩ = some (.int .i64 a0_2):=(blk_cell BK196.out 2).trans rfl;have hcz10_3 : w9.cell? ⟨gb196,3,none⟩ = some (.int .i64 a0_3):=(blk_cell BK196.out 3).trans rfl;have hcz10_4 : w9.cell? ⟨gb196,4,none⟩ = some (.int .i64 a0_4):=(blk_cell BK196.out 4).trans rfl;have hfz10_0:=blk_frozen BK196.out 0;have hfz10_1:=blk_frozen BK196.out 1;have hfz10_2:=blk_frozen BK196.out 2;have hfz10_3:=blk_frozen BK196.out 3;have hfz10_4:=blk_frozen BK196.out 4)|((with_reducible refine gate_callee (f:=79) rfl ?_);refine goesL_ (some 5) rfl rfl Try.func79 (by kernel_rfl) rfl #[.int .i64 a0_0,.int .i64 0,.int .i64 3] rfl (by (try simp only [List.map_toArray,List.map_cons,List.map_nil]);first|done|rfl|(simp only [List.length_drop,List.length_take];rfl)) ?_;(with_reducible refine (spec_l6In.calls a0_0 0 3 true _ A2.out).mono ?_);rintro e w' ⟨rfl,⟨nd,rfl⟩⟩;refine ⟨_,rfl,?_⟩)|(go_at_call 79;(with_reducible refine (spec_l6In.calls a0_1 0 99 true _ A4.out).mono ?_);rintro e w' ⟨rfl,⟨nd,rfl⟩⟩)|(go_at_call 48;(with_reducible refine (spec_TimeOk.calls a0_2 a0_3 true _ A6.out).mono ?_);rintro e w11 ⟨rfl,hb⟩;have n0_:=Aside0.mk (blk_below (g:=gb196) (o:=.cells #[.int .i64 a0_0,.int .i64 a0_1,.int .i64 a0_2,.int .i64 a0_3,.int .i64 a0_4] 67 (0,0)) (by (with_reducible repeat (first|refine blk_drewN ?_ _|refine blk_drew ?_|refine blk_alloc ?_ _));exact BK196.out) hb);have n1_:=Aside0.mk (below_step (by repeat (first|(with_reducible first|exact HB.out|apply below_alloc|apply pw_below_drewN|apply below_drew1|refine below_set ?_ GE196.out)|exact HB.out)) hb);clear BK196;clear HB;have BK196:=n0_;have HB:=n1_;clear n0_ n1_;(try clear hb);(try clear hb2);(try clear hk);(try clear hi);have hcz12_0 : w11.cell? ⟨gb196,0,none⟩ = some (.int .i64 a0_0):=(blk_cell BK196.out 0).trans rfl;have hcz12_1 : w11.cell? ⟨gb196,1,none⟩ = some (.int .i64 a0_1):=(blk_cell BK196.out 1).trans rfl;have hcz12_2 : w11.cell? ⟨gb196,2,none⟩ = some (.int .i64 a0_2):=(blk_cell BK196.out 2).trans rfl;have hcz12_3 : w11.cell? ⟨gb196,3,none⟩ = some (.int .i64 a0_3):=(blk_cell BK196.out 3).trans rfl;have hcz12_4 : w11.cell? ⟨gb196,4,none⟩ = some (.int .i64 a0_4):=(blk_cell BK196.out 4).trans rfl;have hfz12_0:=blk_frozen BK196.out 0;have hfz12_1:=blk_frozen BK196.out 1;have hfz12_2:=blk_frozen BK196.out 2;have hfz12_3:=blk_frozen BK196.out 3;have hfz12_4:=blk_frozen BK196.out 4)|(go_at_call 79;(with_reducible refine (spec_l6In.calls a0_4 (-99999) 99999 t200 _ A8.out).mono ?_);rintro e w' ⟨rfl,⟨nd,rfl⟩⟩))
    go_ret
    exact ⟨by first|rfl|(simp [errW_none,errW_some] <;> rfl)|(simp [*,errW_none,errW_some] <;> rfl),by repeat (first|(with_reducible first|exact HB.out|apply below_alloc|apply pw_below_drewN|apply below_drew1|refine below_set ?_ GE196.out)|exact HB.out)⟩
   ·replace c7:=Bool.eq_false_iff.mpr c7
    subst c7
    have H1 : (some false) = some r:=by rw [if_neg (show ¬ (false = true) by decide)] at H;exact H
    clear H
    have H:=H1
    clear H1
    obtain rfl:=Option.some.inj H
    go_enter Try.func85,Try.ntmps85
    go_wp2_with (first|((with_reducible refine gate_dst (N:=1) rfl ?_);refine box_event ?hg (N:=1) ?hd (cs:=#[.int .i64 a0_0,.int .i64 a0_1,.int .i64 a0_2,.int .i64 a0_3,.int .i64 a0_4]) (t:=67) ?hr ?_;(case hd=>rfl);(case hg=>rfl);(case hr=>first|(go_simp;done)|(go_simp;rfl));intro gb196 hg w13 hbox hb;have n0_:=Aside0.mk (below_step (by repeat (first|(with_reducible first|exact HB.out|apply below_alloc|apply pw_below_drewN|apply below_drew1)|exact HB.out)) hb);have n1_:=Aside0.mk (hbox);have n2_:=Aside0.mk ((by rw [hg];exact (below_size (by repeat (first|(with_reducible first|exact HB.out|apply below_alloc|apply pw_below_drewN|apply below_drew1)|exact HB.out))) : w.heap.size ≤ gb196));have n3_:=n2_;clear HB;have HB:=n0_;have BK196:=n1_;have GW196:=n2_;have GE196:=n3_;clear n0_ n1_ n2_ n3_;clear hb hbox hg;have hcz14_0 : w13.cell? ⟨gb196,0,none⟩ = some (.int .i64 a0_0):=(blk_cell BK196.out 0).trans rfl;have hcz14_1 : w13.cell? ⟨gb196,1,none⟩ = some (.int .i64 a0_1):=(blk_cell BK196.out 1).trans rfl;have hcz14_2 : w13.cell? ⟨gb196,2,none⟩ = some (.int .i64 a0_2):=(blk_cell BK196.out 2).trans rfl;have hcz14_3 : w13.cell? ⟨gb196,3,none⟩ = some (.int .i64 a0_3):=(blk_cell BK196.out 3).trans rfl;have hcz14_4 : w13.cell? ⟨gb196,4,none⟩ = some (.int .i64 a0_4):=(blk_cell BK196.out 4).trans rfl;have hfz14_0:=blk_frozen BK196.out 0;have hfz14_1:=blk_frozen BK196.out 1;have hfz14_2:=blk_frozen BK196.out 2;have hfz14_3:=blk_frozen BK196.out 3;have hfz14_4:=blk_frozen BK196.out 4)|((with_reducible refine gate_callee (f:=79) rfl ?_);refine goesL_ (some 5) rfl rfl Try.func79 (by kernel_rfl) rfl #[.int .i64 a0_0,.int .i64 0,.int .i64 3] rfl (by (try simp only [List.map_toArray,List.map_cons,List.map_nil]);first|done|rfl|(simp only [List.length_drop,List.length_take];rfl)) ?_;(with_reducible refine (spec_l6In.calls a0_0 0 3 true _ A2.out).mono ?_);rintro e w' ⟨rfl,⟨nd,rfl⟩⟩;refine ⟨_,rfl,?_⟩)|(go_at_call 79;(with_reducible refine (spec_l6In.calls a0_1 0 99 true _ A4.out).mono ?_);rintro e w' ⟨rfl,⟨nd,rfl⟩⟩)|(go_at_call 48;(with_reducible refine (spec_TimeOk.calls a0_2 a0_3 false _ A6.out).mono ?_);rintro e w15 ⟨rfl,hb⟩;have n0_:=Aside0.mk (blk_below (g:=gb196) (o:=.cells #[.int .i64 a0_0,.int .i64 a0_1,.int .i64 a0_2,.int .i64 a0_3,.int .i64 a0_4] 67 (0,0)) (by (with_reducible repeat (first|refine blk_drewN ?_ _|refine blk_drew ?_|refine blk_alloc ?_ _));exact BK196.out) hb);have n1_:=Aside0.mk (below_step (by repeat (first|(with_reducible first|exact HB.out|apply below_alloc|apply pw_below_drewN|apply below_drew1|refine below_set ?_ GE196.out)|exact HB.out)) hb);clear BK196;clear HB;have BK196:=n0_;have HB:=n1_;clear n0_ n1_;(try clear hb);(try clear hb2);(try clear hk);(try clear hi)))
    go_ret
    exact ⟨by first|rfl|(simp [errW_none,errW_some] <;> rfl)|(simp [*,errW_none,errW_some] <;> rfl),by repeat (first|(with_reducible first|exact HB.out|apply below_alloc|apply pw_below_drewN|apply below_drew1|refine below_set ?_ GE196.out)|exact HB.out)⟩
  ·replace c5:=Bool.eq_false_iff.mpr c5
   subst c5
   have H1 : (some false) = some r:=by rw [if_neg (show ¬ (false = true) by decide)] at H;exact H
   clear H
   have H:=H1
   clear H1
   obtain rfl:=Option.some.inj H
   go_enter Try.func85,Try.ntmps85
   go_wp2_with (first|((with_reducible refine gate_dst (N:=1) rfl ?_);refine box_event ?hg (N:=1) ?hd (cs:=#[.int .i64 a0_0,.int .i64 a0_1,.int .i64 a0_2,.int .i64 a0_3,.int .i64 a0_4]) (t:=67) ?hr ?_;(case hd=>rfl);(case hg=>rfl);(case hr=>first|(go_simp;done)|(go_simp;rfl));intro gb196 hg w16 hbox hb;have n0_:=Aside0.mk (below_step (by repeat (first|(with_reducible first|exact HB.out|apply below_alloc|apply pw_below_drewN|apply below_drew1)|exact HB.out)) hb);have n1_:=Aside0.mk (hbox);have n2_:=Aside0.mk ((by rw [hg];exact (below_size (by repeat (first|(with_reducible first|exact HB.out|apply below_alloc|apply pw_below_drewN|apply below_drew1)|exact HB.out))) : w.heap.size ≤ gb196));have n3_:=n2_;clear HB;have HB:=n0_;have BK196:=n1_;have GW196:=n2_;have GE196:=n3_;clear n0_ n1_ n2_ n3_;clear hb hbox hg;have hcz17_0 : w16.cell? ⟨gb196,0,none⟩ = some (.int .i64 a0_0):=(blk_cell BK196.out 0).trans rfl;have hcz17_1 : w16.cell? ⟨gb196,1,none⟩ = some (.int .i64 a0_1):=(blk_cell BK196.out 1).trans rfl;have hcz17_2 : w16.cell? ⟨gb196,2,none⟩ = some (.int .i64 a0_2):=(blk_cell BK196.out 2).trans rfl;have hcz17_3 : w16.cell? ⟨gb196,3,none⟩ = some (.int .i64 a0_3):=(blk_cell BK196.out 3).trans rfl;have hcz17_4 : w16.cell? ⟨gb196,4,none⟩ = some (.int .i64 a0_4):=(blk_cell BK196.out 4).trans rfl;have hfz17_0:=blk_frozen BK196.out 0;have hfz17_1:=blk_frozen BK196.out 1;have hfz17_2:=blk_frozen BK196.out 2;have hfz17_3:=blk_frozen BK196.out 3;have hfz17_4:=blk_frozen BK196.out 4)|((with_reducible refine gate_callee (f:=79) rfl ?_);refine goesL_ (some 5) rfl rfl Try.func79 (by kernel_rfl) rfl #[.int .i64 a0_0,.int .i64 0,.int .i64 3] rfl (by (try simp only [List.map_toArray,List.map_cons,List.map_nil]);first|done|rfl|(simp only [List.length_drop,List.length_take];rfl)) ?_;(with_reducible refine (spec_l6In.calls a0_0 0 3 true _ A2.out).mono ?_);rintro e w' ⟨rfl,⟨nd,rfl⟩⟩;refine ⟨_,rfl,?_⟩)|(go_at_call 79;(with_reducible refine (spec_l6In.calls a0_1 0 99 false _ A4.out).mono ?_);rintro e w' ⟨rfl,⟨nd,rfl⟩⟩))
   go_ret
   exact ⟨by first|rfl|(simp [errW_none,errW_some] <;> rfl)|(simp [*,errW_none,errW_some] <;> rfl),by repeat (first|(with_reducible first|exact HB.out|apply below_alloc|apply pw_below_drewN|apply below_drew1|refine below_set ?_ GE196.out)|exact HB.out)⟩
 ·replace c3:=Bool.eq_false_iff.mpr c3
  subst c3
  have H1 : (some false) = some r:=by rw [if_neg (show ¬ (false = true) by decide)] at H;exact H
  clear H
  have H:=H1
  clear H1
  obtain rfl:=Option.some.inj H
  go_enter Try.func85,Try.ntmps85
  go_wp2_with (first|((with_reducible refine gate_dst (N:=1) rfl ?_);refine box_event ?hg (N:=1) ?hd (cs:=#[.int .i64 a0_0,.int .i64 a0_1,.int .i64 a0_2,.int .i64 a0_3,.int .i64 a0_4]) (t:=67) ?hr ?_;(case hd=>rfl);(case hg=>rfl);(case hr=>first|(go_simp;done)|(go_simp;rfl));intro gb196 hg w18 hbox hb;have n0_:=Aside0.mk (below_step (by repeat (first|(with_reducible first|exact HB.out|apply below_alloc|apply pw_below_drewN|apply below_drew1)|exact HB.out)) hb);have n1_:=Aside0.mk (hbox);have n2_:=Aside0.mk ((by rw [hg];exact (below_size (by repeat (first|(with_reducible first|exact HB.out|apply below_alloc|apply pw_below_drewN|apply below_drew1)|exact HB.out))) : w.heap.size ≤ gb196));have n3_:=n2_;clear HB;have HB:=n0_;have BK196:=n1_;have GW196:=n2_;have GE196:=n3_;clear n0_ n1_ n2_ n3_;clear hb hbox hg;have hcz19_0 : w18.cell? ⟨gb196,0,none⟩ = some (.int .i64 a0_0):=(blk_cell BK196.out 0).trans rfl;have hcz19_1 : w18.cell? ⟨gb196,1,none⟩ = some (.int .i64 a0_1):=(blk_cell BK196.out 1).trans rfl;have hcz19_2 : w18.cell? ⟨gb196,2,none⟩ = some (.int .i64 a0_2):=(blk_cell BK196.out 2).trans rfl;have hcz19_3 : w18.cell? ⟨gb196,3,none⟩ = some (.int .i64 a0_3):=(blk_cell BK196.out 3).trans rfl;have hcz19_4 : w18.cell? ⟨gb196,4,none⟩ = some (.int .i64 a0_4):=(blk_cell BK196.out 4).trans rfl;have hfz19_0:=blk_frozen BK196.out 0;have hfz19_1:=blk_frozen BK196.out 1;have hfz19_2:=blk_frozen BK196.out 2;have hfz19_3:=blk_frozen BK196.out 3;have hfz19_4:=blk_frozen BK196.out 4)|((with_reducible refine gate_callee (f:=79) rfl ?_);refine goesL_ (some 5) rfl rfl Try.func79 (by kernel_rfl) rfl #[.int .i64 a0_0,.int .i64 0,.int .i64 3] rfl (by (try simp only [List.map_toArray,List.map_cons,List.map_nil]);first|done|rfl|(simp only [List.length_drop,List.length_take];rfl)) ?_;(with_reducible refine (spec_l6In.calls a0_0 0 3 false _ A2.out).mono ?_);rintro e w' ⟨rfl,⟨nd,rfl⟩⟩;refine ⟨_,rfl,?_⟩))
  go_ret
  exact ⟨by first|rfl|(simp [errW_none,errW_some] <;> rfl)|(simp [*,errW_none,errW_some] <;> rfl),by repeat (first|(with_reducible first|exact HB.out|apply below_alloc|apply pw_below_drewN|apply below_drew1|refine below_set ?_ GE196.out)|exact HB.out)⟩
def spec_RowsOk.l0 : Nat → List (S67) → Int → Option (Bool)
 | 0, _, _ => none
 | k + 1, x0, x3 => if x3 < (x0.length : Int) then (if 0 ≤ x3 then ((spec_l2Row.f ((rd_T67 x0 x3).f0) ((rd_T67 x0 x3).f1) ((rd_T67 x0 x3).f2.f0) ((rd_T67 x0 x3).f2.f1) ((rd_T67 x0 x3).f3)).bind fun t202 => (if t202 = true then (spec_RowsOk.l0 k x0 (wrap64 (x3 + 1))) else (some false))) else (none)) else (some true)
def spec_RowsOk.f (k : Nat) (l0 : List (S67)) : Option (Bool) := if (l0.length : Int) > 400 then (some false) else (spec_RowsOk.l0 k l0 0)
theorem spec_RowsOk.mono_l : ∀ k,(∀ y0 y1,LeO (spec_RowsOk.l0 k y0 y1) (spec_RowsOk.l0 (k + 1) y0 y1))
 | 0=>fun _ _ r h=>by simp [spec_RowsOk.l0] at h
 | k + 1=>by
  have ih0:=spec_RowsOk.mono_l k
  ·intro y0 y1
   unfold spec_RowsOk.l0
   repeat' first
   | (with_reducible exact ih0 _ _)
   | (with_reducible exact LeO.refl _)
   | (with_reducible exact LeO.none _)
   | (with_reducible refine LeO.ite ?_ ?_)
   | (with_reducible refine LeO.bind ?_ (fun _=>?_))
   | exact ih0 _ _
   | exact LeO.none _
   | refine LeO.ite ?_ ?_
   | refine LeO.bind ?_ (fun _=>?_)
theorem spec_RowsOk.mono : ∀ a0 k,LeO (spec_RowsOk.f k a0) (spec_RowsOk.f (k + 1) a0):=by
 intro a0 k
 have ih0:=spec_RowsOk.mono_l k
 unfold spec_RowsOk.f
 repeat' first
   | (with_reducible exact ih0 _ _)
   | (with_reducible exact LeO.refl _)
   | (with_reducible exact LeO.none _)
   | (with_reducible refine LeO.ite ?_ ?_)
   | (with_reducible refine LeO.bind ?_ (fun _=>?_))
   | exact ih0 _ _
   | exact LeO.none _
   | refine LeO.ite ?_ ?_
   | refine LeO.bind ?_ (fun _=>?_)
set_option maxHeartbeats 8000000 in
set_option maxRecDepth 100000 in
theorem spec_RowsOk.calls (k : Nat) (A0 : Option Addr) (c0 : Nat) (l0 : List (S67)) (r : Bool) (w : World) (hr0 : Kd.C k67 w A0 l0.length l0) (hc0 : l0.length ≤ c0) (h : spec_RowsOk.f k l0 = some r) :
  Calls Try.prog 63 #[.slice A0 l0.length c0] w fun e w'=>e = .returned (.bool r) ∧ Below w.heap.size w w':=by
 have hu67:=Try.underlying67
 have HR0:=Aside0.mk hr0
 have HC0:=Aside0.mk hc0
 clear hr0 hc0
 have HB:=Aside0.mk (Below.refl w.heap.size w)
 have H : (if (l0.length : Int) > 400 then (some false) else (spec_RowsOk.l0 k l0 0)) = some r:=h
 clear h
 by_cases c2 : (l0.length : Int) > 400
 ·rw [if_pos c2] at H
  have c2b0 : decide (400 < (l0.length : Int)) = true:=decide_eq_true c2
  have c2b1 : decide (400 < l0.length) = true:=decide_eq_true (by omega)
  clear c2
  obtain rfl:=Option.some.inj H
  go_enter Try.func63,Try.ntmps63
  go_wp2
  go_ret
  exact ⟨by first|rfl|(simp [errW_none,errW_some] <;> rfl)|(simp [*,errW_none,errW_some] <;> rfl),by repeat (first|(with_reducible first|exact HB.out|apply below_alloc|apply pw_below_drewN|apply below_drew1)|exact HB.out)⟩
 ·rw [if_neg c2] at H
  have c2b0 : decide (400 < (l0.length : Int)) = false:=decide_eq_false c2
  have c2b1 : decide (400 < l0.length) = false:=decide_eq_false (by omega)
  clear c2
  have H':=Aside0.mk H
  clear H
  go_enter Try.func63,Try.ntmps63
  go_wp2
  go_loopg [3] k (fun kq v3 w'=>∃ (x3_1 : Int),v3 = .int .i64 x3_1 ∧ Aside0 (spec_RowsOk.l0 kq l0 x3_1 = some r) ∧ Aside0 (kq ≤ k) ∧ Aside0 (Below w.heap.size w w'))
  case atStart=>exact ⟨(0),(by first|rfl|(simp;done)|(simp [*];done)),H',⟨Nat.le_refl _⟩,⟨by repeat (first|(with_reducible first|exact HB.out|apply below_alloc|apply pw_below_drewN|apply below_drew1)|exact HB.out)⟩⟩
  case round =>
   clear H'
   try clear c2
   try clear c2b0
   try clear c2b1
   try clear p2
   obtain ⟨x3_1,rfl,HA,HK1,HB⟩:=hrel
   cases gk with
   | zero=>exact absurd HA.out (by simp [spec_RowsOk.l0])
   | succ k1 =>
    have H:=HA.out
    clear HA
    simp only [spec_RowsOk.l0] at H
    by_cases c3 : x3_1 < (l0.length : Int)
    ·rw [if_pos c3] at H
     have c3b0 : decide (x3_1 < (l0.length : Int)) = true:=decide_eq_true c3
     clear c3
     by_cases c4 : 0 ≤ x3_1
     ·rw [if_pos c4] at H
      have c4b0 : decide (0 ≤ x3_1) = true:=decide_eq_true c4
      clear c4
      replace H:=Option.bind_eq_some_iff.mp H
      obtain ⟨t202,A50,H⟩:=H
      replace H : (if t202 = true then (spec_RowsOk.l0 k1 l0 (wrap64 (x3_1 + 1))) else (some false)) = some r:=H
      have A5:=Aside0.mk A50
      clear A50
      by_cases c6 : t202 = true
      ·subst c6
       have H1 : (spec_RowsOk.l0 k1 l0 (wrap64 (x3_1 + 1))) = some r:=by rw [if_pos rfl] at H;exact H
       clear H
       have H:=H1
       clear H1
       have H':=Aside0.mk H
       clear H
       have p201 : 0 ≤ (x3_1 : Int):=of_decide_eq_true (by first|(with_reducible assumption)|assumption)
       have q201 : x3_1 < (l0.length : Int):=of_decide_eq_true (by first|(with_reducible assumption)|assumption)
       obtain ⟨ad201,e201,hx201_0,hx201_1,hx201_2,hx201_3,hx201_4⟩:=at_T67 HR0.out x3_1 p201 q201
       cases e201
       replace hx201_0:=(HB.out.cell (bl_ w _ hx201_0)).trans hx201_0
       replace hx201_1:=(HB.out.cell (bl_ w _ hx201_1)).trans hx201_1
       replace hx201_2:=(HB.out.cell (bl_ w _ hx201_2)).trans hx201_2
       replace hx201_3:=(HB.out.cell (bl_ w _ hx201_3)).trans hx201_3
       replace hx201_4:=(HB.out.cell (bl_ w _ hx201_4)).trans hx201_4
       replace p201:=eq_true p201
       replace q201:=eq_true q201
       go_wp2_with (first|((with_reducible refine gate_callee (f:=85) rfl ?_);refine goesL_ (some 17) rfl rfl Try.func85 (by kernel_rfl) rfl #[.agg #[.int .i64 ((rd_T67 l0 x3_1).f0),.int .i64 ((rd_T67 l0 x3_1).f1),.int .i64 ((rd_T67 l0 x3_1).f2.f0),.int .i64 ((rd_T67 l0 x3_1).f2.f1),.int .i64 ((rd_T67 l0 x3_1).f3)]] rfl (by (try simp only [List.map_toArray,List.map_cons,List.map_nil]);first|done|rfl|(simp only [List.length_drop,List.length_take];rfl)) ?_;(with_reducible refine (spec_l2Row.calls ((rd_T67 l0 x3_1).f0) ((rd_T67 l0 x3_1).f1) ((rd_T67 l0 x3_1).f2.f0) ((rd_T67 l0 x3_1).f2.f1) ((rd_T67 l0 x3_1).f3) true _ A5.out).mono ?_);rintro e w7 ⟨rfl,hb⟩;refine ⟨_,rfl,?_⟩;have n0_:=Aside0.mk (below_step (by repeat (first|(with_reducible first|exact HB.out|apply below_alloc|apply pw_below_drewN|apply below_drew1)|exact HB.out)) hb);clear HB;have HB:=n0_;clear n0_;(try clear hb);(try clear hb2);(try clear hk);(try clear hi)))
       go_roundg k1
       case measure=>have:=HK1.out;omega
       case rel=>exact ⟨(wrap64 (x3_1 + 1)),(by first|rfl|(simp;done)|(simp [*];done)),H',⟨by have:=HK1.out;omega⟩,⟨by repeat (first|(with_reducible first|exact HB.out|apply below_alloc|apply pw_below_drewN|apply below_drew1)|exact HB.out)⟩⟩
      ·replace c6:=Bool.eq_false_iff.mpr c6
       subst c6
       have H1 : (some false) = some r:=by rw [if_neg (show ¬ (false = true) by decide)] at H;exact H
       clear H
       have H:=H1
       clear H1
       obtain rfl:=Option.some.inj H
       have p201 : 0 ≤ (x3_1 : Int):=of_decide_eq_true (by first|(with_reducible assumption)|assumption)
       have q201 : x3_1 < (l0.length : Int):=of_decide_eq_true (by first|(with_reducible assumption)|assumption)
       obtain ⟨ad201,e201,hx201_0,hx201_1,hx201_2,hx201_3,hx201_4⟩:=at_T67 HR0.out x3_1 p201 q201
       cases e201
       replace hx201_0:=(HB.out.cell (bl_ w _ hx201_0)).trans hx201_0
       replace hx201_1:=(HB.out.cell (bl_ w _ hx201_1)).trans hx201_1
       replace hx201_2:=(HB.out.cell (bl_ w _ hx201_2)).trans hx201_2
       replace hx201_3:=(HB.out.cell (bl_ w _ hx201_3)).trans hx201_3
       replace hx201_4:=(HB.out.cell (bl_ w _ hx201_4)).trans hx201_4
       replace p201:=eq_true p201
       replace q201:=eq_true q201
       go_wp2_with (first|((with_reducible refine gate_callee (f:=85) rfl ?_);refine goesL_ (some 17) rfl rfl Try.func85 (by kernel_rfl) rfl #[.agg #[.int .i64 ((rd_T67 l0 x3_1).f0),.int .i64 ((rd_T67 l0 x3_1).f1),.int .i64 ((rd_T67 l0 x3_1).f2.f0),.int .i64 ((rd_T67 l0 x3_1).f2.f1),.int .i64 ((rd_T67 l0 x3_1).f3)]] rfl (by (try simp only [List.map_toArray,List.map_cons,List.map_nil]);first|done|rfl|(simp only [List.length_drop,List.length_take];rfl)) ?_;(with_reducible refine (spec_l2Row.calls ((rd_T67 l0 x3_1).f0) ((rd_T67 l0 x3_1).f1) ((rd_T67 l0 x3_1).f2.f0) ((rd_T67 l0 x3_1).f2.f1) ((rd_T67 l0 x3_1).f3) false _ A5.out).mono ?_);rintro e w8 ⟨rfl,hb⟩;refine ⟨_,rfl,?_⟩;have n0_:=Aside0.mk (below_step (by repeat (first|(with_reducible first|exact HB.out|apply below_alloc|apply pw_below_drewN|apply below_drew1)|exact HB.out)) hb);clear HB;have HB:=n0_;clear n0_;(try clear hb);(try clear hb2);(try clear hk);(try clear hi)))
       go_ret
       exact ⟨by first|rfl|(simp [errW_none,errW_some] <;> rfl)|(simp [*,errW_none,errW_some] <;> rfl),by repeat (first|(with_reducible first|exact HB.out|apply below_alloc|apply pw_below_drewN|apply below_drew1)|exact HB.out)⟩
     ·rw [if_neg c4] at H
      exact absurd H (by simp)
    ·rw [if_neg c3] at H
     have c3b0 : decide (x3_1 < (l0.length : Int)) = false:=decide_eq_false c3
     clear c3
     obtain rfl:=Option.some.inj H
     go_wp2
     go_ret
     exact ⟨by first|rfl|(simp [errW_none,errW_some] <;> rfl)|(simp [*,errW_none,errW_some] <;> rfl),by repeat (first|(with_reducible first|exact HB.out|apply below_alloc|apply pw_below_drewN|apply below_drew1)|exact HB.out)⟩
def spec_TimeLess.f (a0_0 : Int) (a0_1 : Int) (a1_0 : Int) (a1_1 : Int) : Option (Bool) := (spec_TimeOk.f a0_0 a0_1).bind fun t205 => (if t205 = true then ((spec_TimeOk.f a1_0 a1_1).bind fun t206 => (if t206 = true then (if a0_0 ≤ a1_0 then (some (decide (a0_1 ≤ a1_1))) else (some false)) else (some false))) else (some false))
set_option maxHeartbeats 8000000 in
set_option maxRecDepth 100000 in
theorem spec_TimeLess.calls (a0_0 : Int) (a0_1 : Int) (a1_0 : Int) (a1_1 : Int) (r : Bool) (w : World) (h : spec_TimeLess.f a0_0 a0_1 a1_0 a1_1 = some r) :
  Calls Try.prog 76 #[.agg #[.int .i64 a0_0,.int .i64 a0_1],.agg #[.int .i64 a1_0,.int .i64 a1_1]] w fun e w'=>e = .returned (.bool r) ∧ Below w.heap.size w w':=by
 have hu26:=Try.underlying26
 have HB:=Aside0.mk (Below.refl w.heap.size w)
 have H : ((spec_TimeOk.f a0_0 a0_1).bind fun t205=>(if t205 = true then ((spec_TimeOk.f a1_0 a1_1).bind fun t206=>(if t206 = true then (if a0_0 ≤ a1_0 then (some (decide (a0_1 ≤ a1_1))) else (some false)) else (some false))) else (some false))) = some r:=h
 clear h
 replace H:=Option.bind_eq_some_iff.mp H
 obtain ⟨t205,A30,H⟩:=H
 replace H : (if t205 = true then ((spec_TimeOk.f a1_0 a1_1).bind fun t206=>(if t206 = true then (if a0_0 ≤ a1_0 then (some (decide (a0_1 ≤ a1_1))) else (some false)) else (some false))) else (some false)) = some r:=H
 have A3:=Aside0.mk A30
 clear A30
 by_cases c4 : t205 = true
 ·subst c4
  have H1 : ((spec_TimeOk.f a1_0 a1_1).bind fun t206=>(if t206 = true then (if a0_0 ≤ a1_0 then (some (decide (a0_1 ≤ a1_1))) else (some false)) else (some false))) = some r:=by rw [if_pos rfl] at H;exact H
  clear H
  have H:=H1
  clear H1
  replace H:=Option.bind_eq_some_iff.mp H
  obtain ⟨t206,A50,H⟩:=H
  replace H : (if t206 = true then (if a0_0 ≤ a1_0 then (some (decide (a0_1 ≤ a1_1))) else (some false)) else (some false)) = some r:=H
  have A5:=Aside0.mk A50
  clear A50
  by_cases c6 : t206 = true
  ·subst c6
   have H1 : (if a0_0 ≤ a1_0 then (some (decide (a0_1 ≤ a1_1))) else (some false)) = some r:=by rw [if_pos rfl] at H;exact H
   clear H
   have H:=H1
   clear H1
   by_cases c7 : a0_0 ≤ a1_0
   ·rw [if_pos c7] at H
    have c7b0 : decide (a0_0 ≤ a1_0) = true:=decide_eq_true c7
    clear c7
    obtain rfl:=Option.some.inj H
    go_enter Try.func76,Try.ntmps76
    go_wp2_with (first|((with_reducible refine gate_dst (N:=2) rfl ?_);refine box_event ?hg (N:=2) ?hd (cs:=#[.int .i64 a0_0,.int .i64 a0_1]) (t:=26) ?hr ?_;(case hd=>rfl);(case hg=>rfl);(case hr=>first|(go_simp;done)|(go_simp;rfl));intro gb203 hg w8 hbox hb;have n0_:=Aside0.mk (below_step (by repeat (first|(with_reducible first|exact HB.out|apply below_alloc|apply pw_below_drewN|apply below_drew1)|exact HB.out)) hb);have n1_:=Aside0.mk (hbox);have n2_:=Aside0.mk ((by rw [hg];exact (below_size (by repeat (first|(with_reducible first|exact HB.out|apply below_alloc|apply pw_below_drewN|apply below_drew1)|exact HB.out))) : w.heap.size ≤ gb203));have n3_:=n2_;clear HB;have HB:=n0_;have BK203:=n1_;have GW203:=n2_;have GE203:=n3_;clear n0_ n1_ n2_ n3_;clear hb hbox hg)|((with_reducible refine gate_dst (N:=3) rfl ?_);refine box_event ?hg (N:=3) ?hd (cs:=#[.int .i64 a1_0,.int .i64 a1_1]) (t:=26) ?hr ?_;(case hd=>rfl);(case hg=>rfl);(case hr=>first|(go_simp;done)|(go_simp;rfl));intro gb204 hg w9 hbox hb;have n0_:=Aside0.mk (blk_below (g:=gb203) (o:=.cells #[.int .i64 a0_0,.int .i64 a0_1] 26 (0,0)) (by (with_reducible repeat (first|refine blk_drewN ?_ _|refine blk_drew ?_|refine blk_alloc ?_ _));exact BK203.out) hb);have n1_:=Aside0.mk (below_step (by repeat (first|(with_reducible first|exact HB.out|apply below_alloc|apply pw_below_drewN|apply below_drew1|refine below_set ?_ GE203.out)|exact HB.out)) hb);have n2_:=Aside0.mk (hbox);have n3_:=Aside0.mk ((by rw [hg];exact (below_size (by repeat (first|(with_reducible first|exact HB.out|apply below_alloc|apply pw_below_drewN|apply below_drew1|refine below_set ?_ GE203.out)|exact HB.out))) : w.heap.size ≤ gb204));have n4_:=n3_;have n5_:=Aside0.mk ((by rw [hg];exact Nat.ne_of_lt (blk_lt (g:=gb203) (o:=.cells #[.int .i64 a0_0,.int .i64 a0_1] 26 (0,0)) (by (with_reducible repeat (first|refine blk_drewN ?_ _|refine blk_drew ?_|refine blk_alloc ?_ _));exact BK203.out)) : gb203 ≠ gb204));have n6_:=Aside0.mk ((by rw [hg];exact Nat.ne_of_gt (blk_lt (g:=gb203) (o:=.cells #[.int .i64 a0_0,.int .i64 a0_1] 26 (0,0)) (by (with_reducible repeat (first|refine blk_drewN ?_ _|refine blk_drew ?_|refine blk_alloc ?_ _));exact BK203.out)) : gb204 ≠ gb203));clear BK203;clear HB;have BK203:=n0_;have HB:=n1_;have BK204:=n2_;have GW204:=n3_;have GE204:=n4_;have NB203_204:=n5_;have NB204_203:=n6_;clear n0_ n1_ n2_ n3_ n4_ n5_ n6_;clear hb hbox hg;have hnb10:=NB203_204.out;have hnc10:=NB204_203.out;have hcz11_0 : w9.cell? ⟨gb203,0,none⟩ = some (.int .i64 a0_0):=(blk_cell BK203.out 0).trans rfl;have hcz11_1 : w9.cell? ⟨gb203,1,none⟩ = some (.int .i64 a0_1):=(blk_cell BK203.out 1).trans rfl;have hfz11_0:=blk_frozen BK203.out 0;have hfz11_1:=blk_frozen BK203.out 1)|((with_reducible refine gate_callee (f:=48) rfl ?_);refine goesL_ (some 6) rfl rfl Try.func48 (by kernel_rfl) rfl #[.agg #[.int .i64 a0_0,.int .i64 a0_1]] rfl (by (try simp only [List.map_toArray,List.map_cons,List.map_nil]);first|done|rfl|(simp only [List.length_drop,List.length_take];rfl)) ?_;(with_reducible refine (spec_TimeOk.calls a0_0 a0_1 true _ A3.out).mono ?_);rintro e w12 ⟨rfl,hb⟩;refine ⟨_,rfl,?_⟩;have n0_:=Aside0.mk (blk_below (g:=gb203) (o:=.cells #[.int .i64 a0_0,.int .i64 a0_1] 26 (0,0)) (by (with_reducible repeat (first|refine blk_drewN ?_ _|refine blk_drew ?_|refine blk_alloc ?_ _));exact BK203.out) hb);have n1_:=Aside0.mk (blk_below (g:=gb204) (o:=.cells #[.int .i64 a1_0,.int .i64 a1_1] 26 (0,0)) (by (with_reducible repeat (first|refine blk_drewN ?_ _|refine blk_drew ?_|refine blk_alloc ?_ _));exact BK204.out) hb);have n2_:=Aside0.mk (below_step (by repeat (first|(with_reducible first|exact HB.out|apply below_alloc|apply pw_below_drewN|apply below_drew1|refine below_set ?_ GE203.out|refine below_set ?_ GE204.out)|exact HB.out)) hb);clear BK203;clear BK204;clear HB;have BK203:=n0_;have BK204:=n1_;have HB:=n2_;clear n0_ n1_ n2_;(try clear hb);(try clear hb2);(try clear hk);(try clear hi);have hcz13_0 : w12.cell? ⟨gb204,0,none⟩ = some (.int .i64 a1_0):=(blk_cell BK204.out 0).trans rfl;have hcz13_1 : w12.cell? ⟨gb204,1,none⟩ = some (.int .i64 a1_1):=(blk_cell BK204.out 1).trans rfl;have hfz13_0:=blk_frozen BK204.out 0;have hfz13_1:=blk_frozen BK204.out 1)|(go_at_call 48;(with_reducible refine (spec_TimeOk.calls a1_0 a1_1 true _ A5.out).mono ?_);rintro e w14 ⟨rfl,hb⟩;have n0_:=Aside0.mk (blk_below (g:=gb203) (o:=.cells #[.int .i64 a0_0,.int .i64 a0_1] 26 (0,0)) (by (with_reducible repeat (first|refine blk_drewN ?_ _|refine blk_drew ?_|refine blk_alloc ?_ _));exact BK203.out) hb);have n1_:=Aside0.mk (blk_below (g:=gb204) (o:=.cells #[.int .i64 a1_0,.int .i64 a1_1] 26 (0,0)) (by (with_reducible repeat (first|refine blk_drewN ?_ _|refine blk_drew ?_|refine blk_alloc ?_ _));exact BK204.out) hb);have n2_:=Aside0.mk (below_step (by repeat (first|(with_reducible first|exact HB.out|apply below_alloc|apply pw_below_drewN|apply below_drew1|refine below_set ?_ GE203.out|refine below_set ?_ GE204.out)|exact HB.out)) hb);clear BK203;clear BK204;clear HB;have BK203:=n0_;have BK204:=n1_;have HB:=n2_;clear n0_ n1_ n2_;(try clear hb);(try clear hb2);(try clear hk);(try clear hi);have hcz15_0 : w14.cell? ⟨gb203,0,none⟩ = some (.int .i64 a0_0):=(blk_cell BK203.out 0).trans rfl;have hcz15_1 : w14.cell? ⟨gb203,1,none⟩ = some (.int .i64 a0_1):=(blk_cell BK203.out 1).trans rfl;have hfz15_0:=blk_frozen BK203.out 0;have hfz15_1:=blk_frozen BK203.out 1;have hcz16_0 : w14.cell? ⟨gb204,0,none⟩ = some (.int .i64 a1_0):=(blk_cell BK204.out 0).trans rfl;have hcz16_1 : w14.cell? ⟨gb204,1,none⟩ = some (.int .i64 a1_1):=(blk_cell BK204.out 1).trans rfl;have hfz16_0:=blk_frozen BK204.out 0;have hfz16_1:=blk_frozen BK204.out 1))
    go_ret
    exact ⟨by first|rfl|(simp [errW_none,errW_some] <;> rfl)|(simp [*,errW_none,errW_some] <;> rfl),by repeat (first|(with_reducible first|exact HB.out|apply below_alloc|apply pw_below_drewN|apply below_drew1|refine below_set ?_ GE203.out|refine below_set ?_ GE204.out)|exact HB.out)⟩
   ·rw [if_neg c7] at H
    have c7b0 : decide (a0_0 ≤ a1_0) = false:=decide_eq_false c7
    clear c7
    obtain rfl:=Option.some.inj H
    go_enter Try.func76,Try.ntmps76
    go_wp2_with (first|((with_reducible refine gate_dst (N:=2) rfl ?_);refine box_event ?hg (N:=2) ?hd (cs:=#[.int .i64 a0_0,.int .i64 a0_1]) (t:=26) ?hr ?_;(case hd=>rfl);(case hg=>rfl);(case hr=>first|(go_simp;done)|(go_simp;rfl));intro gb203 hg w17 hbox hb;have n0_:=Aside0.mk (below_step (by repeat (first|(with_reducible first|exact HB.out|apply below_alloc|apply pw_below_drewN|apply below_drew1)|exact HB.out)) hb);have n1_:=Aside0.mk (hbox);have n2_:=Aside0.mk ((by rw [hg];exact (below_size (by repeat (first|(with_reducible first|exact HB.out|apply below_alloc|apply pw_below_drewN|apply below_drew1)|exact HB.out))) : w.heap.size ≤ gb203));have n3_:=n2_;clear HB;have HB:=n0_;have BK203:=n1_;have GW203:=n2_;have GE203:=n3_;clear n0_ n1_ n2_ n3_;clear hb hbox hg)|((with_reducible refine gate_dst (N:=3) rfl ?_);refine box_event ?hg (N:=3) ?hd (cs:=#[.int .i64 a1_0,.int .i64 a1_1]) (t:=26) ?hr ?_;(case hd=>rfl);(case hg=>rfl);(case hr=>first|(go_simp;done)|(go_simp;rfl));intro gb204 hg w18 hbox hb;have n0_:=Aside0.mk (blk_below (g:=gb203) (o:=.cells #[.int .i64 a0_0,.int .i64 a0_1] 26 (0,0)) (by (with_reducible repeat (first|refine blk_drewN ?_ _|refine blk_drew ?_|refine blk_alloc ?_ _));exact BK203.out) hb);have n1_:=Aside0.mk (below_step (by repeat (first|(with_reducible first|exact HB.out|apply below_alloc|apply pw_below_drewN|apply below_drew1|refine below_set ?_ GE203.out)|exact HB.out)) hb);have n2_:=Aside0.mk (hbox);have n3_:=Aside0.mk ((by rw [hg];exact (below_size (by repeat (first|(with_reducible first|exact HB.out|apply below_alloc|apply pw_below_drewN|apply below_drew1|refine below_set ?_ GE203.out)|exact HB.out))) : w.heap.size ≤ gb204));have n4_:=n3_;have n5_:=Aside0.mk ((by rw [hg];exact Nat.ne_of_lt (blk_lt (g:=gb203) (o:=.cells #[.int .i64 a0_0,.int .i64 a0_1] 26 (0,0)) (by (with_reducible repeat (first|refine blk_drewN ?_ _|refine blk_drew ?_|refine blk_alloc ?_ _));exact BK203.out)) : gb203 ≠ gb204));have n6_:=Aside0.mk ((by rw [hg];exact Nat.ne_of_gt (blk_lt (g:=gb203) (o:=.cells #[.int .i64 a0_0,.int .i64 a0_1] 26 (0,0)) (by (with_reducible repeat (first|refine blk_drewN ?_ _|refine blk_drew ?_|refine blk_alloc ?_ _));exact BK203.out)) : gb204 ≠ gb203));clear BK203;clear HB;have BK203:=n0_;have HB:=n1_;have BK204:=n2_;have GW204:=n3_;have GE204:=n4_;have NB203_204:=n5_;have NB204_203:=n6_;clear n0_ n1_ n2_ n3_ n4_ n5_ n6_;clear hb hbox hg;have hnb19:=NB203_204.out;have hnc19:=NB204_203.out;have hcz20_0 : w18.cell? ⟨gb203,0,none⟩ = some (.int .i64 a0_0):=(blk_cell BK203.out 0).trans rfl;have hcz20_1 : w18.cell? ⟨gb203,1,none⟩ = some (.int .i64 a0_1):=(blk_cell BK203.out 1).trans rfl;have hfz20_0:=blk_frozen BK203.out 0;have hfz20_1:=blk_frozen BK203.out 1)|((with_reducible refine gate_callee (f:=48) rfl ?_);refine goesL_ (some 6) rfl rfl Try.func48 (by kernel_rfl) rfl #[.agg #[.int .i64 a0_0,.int .i64 a0_1]] rfl (by (try simp only [List.map_toArray,List.map_cons,List.map_nil]);first|done|rfl|(simp only [List.length_drop,List.length_take];rfl)) ?_;(with_reducible refine (spec_TimeOk.calls a0_0 a0_1 true _ A3.out).mono ?_);rintro e w21 ⟨rfl,hb⟩;refine ⟨_,rfl,?_⟩;have n0_:=Aside0.mk (blk_below (g:=gb203) (o:=.cells #[.int .i64 a0_0,.int .i64 a0_1] 26 (0,0)) (by (with_reducible repeat (first|refine blk_drewN ?_ _|refine blk_drew ?_|refine blk_alloc ?_ _));exact BK203.out) hb);have n1_:=Aside0.mk (blk_below (g:=gb204) (o:=.cells #[.int .i64 a1_0,.int .i64 a1_1] 26 (0,0)) (by (with_reducible repeat (first|refine blk_drewN ?_ _|refine blk_drew ?_|refine blk_alloc ?_ _));exact BK204.out) hb);have n2_:=Aside0.mk (below_step (by repeat (first|(with_reducible first|exact HB.out|apply below_alloc|apply pw_below_drewN|apply below_drew1|refine below_set ?_ GE203.out|refine below_set ?_ GE204.out)|exact HB.out)) hb);clear BK203;clear BK204;clear HB;have BK203:=n0_;have BK204:=n1_;have HB:=n2_;clear n0_ n1_ n2_;(try clear hb);(try clear hb2);(try clear hk);(try clear hi);have hcz22_0 : w21.cell? ⟨gb204,0,none⟩ = some (.int .i64 a1_0):=(blk_cell BK204.out 0).trans rfl;have hcz22_1 : w21.cell? ⟨gb204,1,none⟩ = some (.int .i64 a1_1):=(blk_cell BK204.out 1).trans rfl;have hfz22_0:=blk_frozen BK204.out 0;have hfz22_1:=blk_frozen BK204.out 1)|(go_at_call 48;(with_reducible refine (spec_TimeOk.calls a1_0 a1_1 true _ A5.out).mono ?_);rintro e w23 ⟨rfl,hb⟩;have n0_:=Aside0.mk (blk_below (g:=gb203) (o:=.cells #[.int .i64 a0_0,.int .i64 a0_1] 26 (0,0)) (by (with_reducible repeat (first|refine blk_drewN ?_ _|refine blk_drew ?_|refine blk_alloc ?_ _));exact BK203.out) hb);have n1_:=Aside0.mk (blk_below (g:=gb204) (o:=.cells #[.int .i64 a1_0,.int .i64 a1_1] 26 (0,0)) (by (with_reducible repeat (first|refine blk_drewN ?_ _|refine blk_drew ?_|refine blk_alloc ?_ _));exact BK204.out) hb);have n2_:=Aside0.mk (below_step (by repeat (first|(with_reducible first|exact HB.out|apply below_alloc|apply pw_below_drewN|apply below_drew1|refine below_set ?_ GE203.out|refine below_set ?_ GE204.out)|exact HB.out)) hb);clear BK203;clear BK204;clear HB;have BK203:=n0_;have BK204:=n1_;have HB:=n2_;clear n0_ n1_ n2_;(try clear hb);(try clear hb2);(try clear hk);(try clear hi);have hcz24_0 : w23.cell? ⟨gb203,0,none⟩ = some (.int .i64 a0_0):=(blk_cell BK203.out 0).trans rfl;have hcz24_1 : w23.cell? ⟨gb203,1,none⟩ = some (.int .i64 a0_1):=(blk_cell BK203.out 1).trans rfl;have hfz24_0:=blk_frozen BK203.out 0;have hfz24_1:=blk_frozen BK203.out 1;have hcz25_0 : w23.cell? ⟨gb204,0,none⟩ = some (.int .i64 a1_0):=(blk_cell BK204.out 0).trans rfl;have hcz25_1 : w23.cell? ⟨gb204,1,none⟩ = some (.int .i64 a1_1):=(blk_cell BK204.out 1).trans rfl;have hfz25_0:=blk_frozen BK204.out 0;have hfz25_1:=blk_frozen BK204.out 1))
    go_ret
    exact ⟨by first|rfl|(simp [errW_none,errW_some] <;> rfl)|(simp [*,errW_none,errW_some] <;> rfl),by repeat (first|(with_reducible first|exact HB.out|apply below_alloc|apply pw_below_drewN|apply below_drew1|refine below_set ?_ GE203.out|refine below_set ?_ GE204.out)|exact HB.out)⟩
  ·replace c6:=Bool.eq_false_iff.mpr c6
   subst c6
   have H1 : (some false) = some r:=by rw [if_neg (show ¬ (false = true) by decide)] at H;exact H
   clear H
   have H:=H1
   clear H1
   obtain rfl:=Option.some.inj H
   go_enter Try.func76,Try.ntmps76
   go_wp2_with (first|((with_reducible refine gate_dst (N:=2) rfl ?_);refine box_event ?hg (N:=2) ?hd (cs:=#[.int .i64 a0_0,.int .i64 a0_1]) (t:=26) ?hr ?_;(case hd=>rfl);(case hg=>rfl);(case hr=>first|(go_simp;done)|(go_simp;rfl));intro gb203 hg w26 hbox hb;have n0_:=Aside0.mk (below_step (by repeat (first|(with_reducible first|exact HB.out|apply below_alloc|apply pw_below_drewN|apply below_drew1)|exact HB.out)) hb);have n1_:=Aside0.mk (hbox);have n2_:=Aside0.mk ((by rw [hg];exact (below_size (by repeat (first|(with_reducible first|exact HB.out|apply below_alloc|apply pw_below_drewN|apply below_drew1)|exact HB.out))) : w.heap.size ≤ gb203));have n3_:=n2_;clear HB;have HB:=n0_;have BK203:=n1_;have GW203:=n2_;have GE203:=n3_;clear n0_ n1_ n2_ n3_;clear hb hbox hg)|((with_reducible refine gate_dst (N:=3) rfl ?_);refine box_event ?hg (N:=3) ?hd (cs:=#[.int .i64 a1_0,.int .i64 a1_1]) (t:=26) ?hr ?_;(case hd=>rfl);(case hg=>rfl);(case hr=>first|(go_simp;done)|(go_simp;rfl));intro gb204 hg w27 hbox hb;have n0_:=Aside0.mk (blk_below (g:=gb203) (o:=.cells #[.int .i64 a0_0,.int .i64 a0_1] 26 (0,0)) (by (with_reducible repeat (first|refine blk_drewN ?_ _|refine blk_drew ?_|refine blk_alloc ?_ _));exact BK203.out) hb);have n1_:=Aside0.mk (below_step (by repeat (first|(with_reducible first|exact HB.out|apply below_alloc|apply pw_below_drewN|apply below_drew1|refine below_set ?_ GE203.out)|exact HB.out)) hb);have n2_:=Aside0.mk (hbox);have n3_:=Aside0.mk ((by rw [hg];exact (below_size (by repeat (first|(with_reducible first|exact HB.out|apply below_alloc|apply pw_below_drewN|apply below_drew1|refine below_set ?_ GE203.out)|exact HB.out))) : w.heap.size ≤ gb204));have n4_:=n3_;have n5_:=Aside0.mk ((by rw [hg];exact Nat.ne_of_lt (blk_lt (g:=gb203) (o:=.cells #[.int .i64 a0_0,.int .i64 a0_1] 26 (0,0)) (by (with_reducible repeat (first|refine blk_drewN ?_ _|refine blk_drew ?_|refine blk_alloc ?_ _));exact BK203.out)) : gb203 ≠ gb204));have n6_:=Aside0.mk ((by rw [hg];exact Nat.ne_of_gt (blk_lt (g:=gb203) (o:=.cells #[.int .i64 a0_0,.int .i64 a0_1] 26 (0,0)) (by (with_reducible repeat (first|refine blk_drewN ?_ _|refine blk_drew ?_|refine blk_alloc ?_ _));exact BK203.out)) : gb204 ≠ gb203));clear BK203;clear HB;have BK203:=n0_;have HB:=n1_;have BK204:=n2_;have GW204:=n3_;have GE204:=n4_;have NB203_204:=n5_;have NB204_203:=n6_;clear n0_ n1_ n2_ n3_ n4_ n5_ n6_;clear hb hbox hg;have hnb28:=NB203_204.out;have hnc28:=NB204_203.out;have hcz29_0 : w27.cell? ⟨gb203,0,none⟩ = some (.int .i64 a0_0):=(blk_cell BK203.out 0).trans rfl;have hcz29_1 : w27.cell? ⟨gb203,1,none⟩ = some (.int .i64 a0_1):=(blk_cell BK203.out 1).trans rfl;have hfz29_0:=blk_frozen BK203.out 0;have hfz29_1:=blk_frozen BK203.out 1)|((with_reducible refine gate_callee (f:=48) rfl ?_);refine goesL_ (some 6) rfl rfl Try.func48 (by kernel_rfl) rfl #[.agg #[.int .i64 a0_0,.int .i64 a0_1]] rfl (by (try simp only [List.map_toArray,List.map_cons,List.map_nil]);first|done|rfl|(simp only [List.length_drop,List.length_take];rfl)) ?_;(with_reducible refine (spec_TimeOk.calls a0_0 a0_1 true _ A3.out).mono ?_);rintro e w30 ⟨rfl,hb⟩;refine ⟨_,rfl,?_⟩;have n0_:=Aside0.mk (blk_below (g:=gb203) (o:=.cells #[.int .i64 a0_0,.int .i64 a0_1] 26 (0,0)) (by (with_reducible repeat (first|refine blk_drewN ?_ _|refine blk_drew ?_|refine blk_alloc ?_ _));exact BK203.out) hb);have n1_:=Aside0.mk (blk_below (g:=gb204) (o:=.cells #[.int .i64 a1_0,.int .i64 a1_1] 26 (0,0)) (by (with_reducible repeat (first|refine blk_drewN ?_ _|refine blk_drew ?_|refine blk_alloc ?_ _));exact BK204.out) hb);have n2_:=Aside0.mk (below_step (by repeat (first|(with_reducible first|exact HB.out|apply below_alloc|apply pw_below_drewN|apply below_drew1|refine below_set ?_ GE203.out|refine below_set ?_ GE204.out)|exact HB.out)) hb);clear BK203;clear BK204;clear HB;have BK203:=n0_;have BK204:=n1_;have HB:=n2_;clear n0_ n1_ n2_;(try clear hb);(try clear hb2);(try clear hk);(try clear hi);have hcz31_0 : w30.cell? ⟨gb204,0,none⟩ = some (.int .i64 a1_0):=(blk_cell BK204.out 0).trans rfl;have hcz31_1 : w30.cell? ⟨gb204,1,none⟩ = some (.int .i64 a1_1):=(blk_cell BK204.out 1).trans rfl;have hfz31_0:=blk_frozen BK204.out 0;have hfz31_1:=blk_frozen BK204.out 1)|(go_at_call 48;(with_reducible refine (spec_TimeOk.calls a1_0 a1_1 false _ A5.out).mono ?_);rintro e w32 ⟨rfl,hb⟩;have n0_:=Aside0.mk (blk_below (g:=gb203) (o:=.cells #[.int .i64 a0_0,.int .i64 a0_1] 26 (0,0)) (by (with_reducible repeat (first|refine blk_drewN ?_ _|refine blk_drew ?_|refine blk_alloc ?_ _));exact BK203.out) hb);have n1_:=Aside0.mk (blk_below (g:=gb204) (o:=.cells #[.int .i64 a1_0,.int .i64 a1_1] 26 (0,0)) (by (with_reducible repeat (first|refine blk_drewN ?_ _|refine blk_drew ?_|refine blk_alloc ?_ _));exact BK204.out) hb);have n2_:=Aside0.mk (below_step (by repeat (first|(with_reducible first|exact HB.out|apply below_alloc|apply pw_below_drewN|apply below_drew1|refine below_set ?_ GE203.out|refine below_set ?_ GE204.out)|exact HB.out)) hb);clear BK203;clear BK204;clear HB;have BK203:=n0_;have BK204:=n1_;have HB:=n2_;clear n0_ n1_ n2_;(try clear hb);(try clear hb2);(try clear hk);(try clear hi)))
   go_ret
   exact ⟨by first|rfl|(simp [errW_none,errW_some] <;> rfl)|(simp [*,errW_none,errW_some] <;> rfl),by repeat (first|(with_reducible first|exact HB.out|apply below_alloc|apply pw_below_drewN|apply below_drew1|refine below_set ?_ GE203.out|refine below_set ?_ GE204.out)|exact HB.out)⟩
 ·replace c4:=Bool.eq_false_iff.mpr c4
  subst c4
  have H1 : (some false) = some r:=by rw [if_neg (show ¬ (false = true) by decide)] at H;exact H
  clear H
  have H:=H1
  clear H1
  obtain rfl:=Option.some.inj H
  go_enter Try.func76,Try.ntmps76
  go_wp2_with (first|((with_reducible refine gate_dst (N:=2) rfl ?_);refine box_event ?hg (N:=2) ?hd (cs:=#[.int .i64 a0_0,.int .i64 a0_1]) (t:=26) ?hr ?_;(case hd=>rfl);(case hg=>rfl);(case hr=>first|(go_simp;done)|(go_simp;rfl));intro gb203 hg w33 hbox hb;have n0_:=Aside0.mk (below_step (by repeat (first|(with_reducible first|exact HB.out|apply below_alloc|apply pw_below_drewN|apply below_drew1)|exact HB.out)) hb);have n1_:=Aside0.mk (hbox);have n2_:=Aside0.mk ((by rw [hg];exact (below_size (by repeat (first|(with_reducible first|exact HB.out|apply below_alloc|apply pw_below_drewN|apply below_drew1)|exact HB.out))) : w.heap.size ≤ gb203));have n3_:=n2_;clear HB;have HB:=n0_;have BK203:=n1_;have GW203:=n2_;have GE203:=n3_;clear n0_ n1_ n2_ n3_;clear hb hbox hg)|((with_reducible refine gate_dst (N:=3) rfl ?_);refine box_event ?hg (N:=3) ?hd (cs:=#[.int .i64 a1_0,.int .i64 a1_1]) (t:=26) ?hr ?_;(case hd=>rfl);(case hg=>rfl);(case hr=>first|(go_simp;done)|(go_simp;rfl));intro gb204 hg w34 hbox hb;have n0_:=Aside0.mk (blk_below (g:=gb203) (o:=.cells #[.int .i64 a0_0,.int .i64 a0_1] 26 (0,0)) (by (with_reducible repeat (first|refine blk_drewN ?_ _|refine blk_drew ?_|refine blk_alloc ?_ _));exact BK203.out) hb);have n1_:=Aside0.mk (below_step (by repeat (first|(with_reducible first|exact HB.out|apply below_alloc|apply pw_below_drewN|apply below_drew1|refine below_set ?_ GE203.out)|exact HB.out)) hb);have n2_:=Aside0.mk (hbox);have n3_:=Aside0.mk ((by rw [hg];exact (below_size (by repeat (first|(with_reducible first|exact HB.out|apply below_alloc|apply pw_below_drewN|apply below_drew1|refine below_set ?_ GE203.out)|exact HB.out))) : w.heap.size ≤ gb204));have n4_:=n3_;have n5_:=Aside0.mk ((by rw [hg];exact Nat.ne_of_lt (blk_lt (g:=gb203) (o:=.cells #[.int .i64 a0_0,.int .i64 a0_1] 26 (0,0)) (by (with_reducible repeat (first|refine blk_drewN ?_ _|refine blk_drew ?_|refine blk_alloc ?_ _));exact BK203.out)) : gb203 ≠ gb204));have n6_:=Aside0.mk ((by rw [hg];exact Nat.ne_of_gt (blk_lt (g:=gb203) (o:=.cells #[.int .i64 a0_0,.int .i64 a0_1] 26 (0,0)) (by (with_reducible repeat (first|refine blk_drewN ?_ _|refine blk_drew ?_|refine blk_alloc ?_ _));exact BK203.out)) : gb204 ≠ gb203));clear BK203;clear HB;have BK203:=n0_;have HB:=n1_;have BK204:=n2_;have GW204:=n3_;have GE204:=n4_;have NB203_204:=n5_;have NB204_203:=n6_;clear n0_ n1_ n2_ n3_ n4_ n5_ n6_;clear hb hbox hg;have hnb35:=NB203_204.out;have hnc35:=NB204_203.out;have hcz36_0 : w34.cell? ⟨gb203,0,none⟩ = some (.int .i64 a0_0):=(blk_cell BK203.out 0).trans rfl;have hcz36_1 : w34.cell? ⟨gb203,1,none⟩ = some (.int .i64 a0_1):=(blk_cell BK203.out 1).trans rfl;have hfz36_0:=blk_frozen BK203.out 0;have hfz36_1:=blk_frozen BK203.out 1)|((with_reducible refine gate_callee (f:=48) rfl ?_);refine goesL_ (some 6) rfl rfl Try.func48 (by kernel_rfl) rfl #[.agg #[.int .i64 a0_0,.int .i64 a0_1]] rfl (by (try simp only [List.map_toArray,List.map_cons,List.map_nil]);first|done|rfl|(simp only [List.length_drop,List.length_take];rfl)) ?_;(with_reducible refine (spec_TimeOk.calls a0_0 a0_1 false _ A3.out).mono ?_);rintro e w37 ⟨rfl,hb⟩;refine ⟨_,rfl,?_⟩;have n0_:=Aside0.mk (blk_below (g:=gb203) (o:=.cells #[.int .i64 a0_0,.int .i64 a0_1] 26 (0,0)) (by (with_reducible repeat (first|refine blk_drewN ?_ _|refine blk_drew ?_|refine blk_alloc ?_ _));exact BK203.out) hb);have n1_:=Aside0.mk (blk_below (g:=gb204) (o:=.cells #[.int .i64 a1_0,.int .i64 a1_1] 26 (0,0)) (by (with_reducible repeat (first|refine blk_drewN ?_ _|refine blk_drew ?_|refine blk_alloc ?_ _));exact BK204.out) hb);have n2_:=Aside0.mk (below_step (by repeat (first|(with_reducible first|exact HB.out|apply below_alloc|apply pw_below_drewN|apply below_drew1|refine below_set ?_ GE203.out|refine below_set ?_ GE204.out)|exact HB.out)) hb);clear BK203;clear BK204;clear HB;have BK203:=n0_;have BK204:=n1_;have HB:=n2_;clear n0_ n1_ n2_;(try clear hb);(try clear hb2);(try clear hk);(try clear hi)))
  go_ret
  exact ⟨by first|rfl|(simp [errW_none,errW_some] <;> rfl)|(simp [*,errW_none,errW_some] <;> rfl),by repeat (first|(with_reducible first|exact HB.out|apply below_alloc|apply pw_below_drewN|apply below_drew1|refine below_set ?_ GE203.out|refine below_set ?_ GE204.out)|exact HB.out)⟩
def spec_l2Comp.l0 : Nat → List Int → List Int → Int → Option (Int)
 | 0, _, _, _ => none
 | k + 1, x5, x6, x7 => if x7 < (x5.length : Int) then (if 0 ≤ x7 then (if x7 < (x6.length : Int) then (if (rd x5 x7) < (rd x6 x7) then (some (-1)) else (if (rd x5 x7) > (rd x6 x7) then (some 1) else (spec_l2Comp.l0 k x5 x6 (wrap64 (x7 + 1))))) else (none)) else (none)) else (some 0)
def spec_l2Comp.f (k : Nat) (a0_0 : Int) (a0_1 : Int) (a0_2 : Int) (a0_3 : Int) (a0_4 : Int) (a1_0 : Int) (a1_1 : Int) (a1_2 : Int) (a1_3 : Int) (a1_4 : Int) : Option (Int) := spec_l2Comp.l0 k (([a0_0, a0_1, a0_2, a0_3] : List Int)) (([a1_0, a1_1, a1_2, a1_3] : List Int)) 0
theorem spec_l2Comp.mono_l : ∀ k,(∀ y0 y1 y2,LeO (spec_l2Comp.l0 k y0 y1 y2) (spec_l2Comp.l0 (k + 1) y0 y1 y2))
 | 0=>fun _ _ _ r h=>by simp [spec_l2Comp.l0] at h
 | k + 1=>by
  have ih0:=spec_l2Comp.mono_l k
  ·intro y0 y1 y2
   unfold spec_l2Comp.l0
   repeat' first
   | (with_reducible exact ih0 _ _ _)
   | (with_reducible exact LeO.refl _)
   | (with_reducible exact LeO.none _)
   | (with_reducible refine LeO.ite ?_ ?_)
   | (with_reducible refine LeO.bind ?_ (fun _=>?_))
   | exact ih0 _ _ _
   | exact LeO.none _
   | refine LeO.ite ?_ ?_
   | refine LeO.bind ?_ (fun _=>?_)
theorem spec_l2Comp.mono : ∀ a0 a1 a2 a3 a4 a5 a6 a7 a8 a9 k,LeO (spec_l2Comp.f k a0 a1 a2 a3 a4 a5 a6 a7 a8 a9) (spec_l2Comp.f (k + 1) a0 a1 a2 a3 a4 a5 a6 a7 a8 a9):=by
 intro a0 a1 a2 a3 a4 a5 a6 a7 a8 a9 k
 have ih0:=spec_l2Comp.mono_l k
 unfold spec_l2Comp.f
 repeat' first
   | (with_reducible exact ih0 _ _ _)
   | (with_reducible exact LeO.refl _)
   | (with_reducible exact LeO.none _)
   | (with_reducible refine LeO.ite ?_ ?_)
   | (with_reducible refine LeO.bind ?_ (fun _=>?_))
   | exact ih0 _ _ _
   | exact LeO.none _
   | refine LeO.ite ?_ ?_
   | refine LeO.bind ?_ (fun _=>?_)
set_option maxHeartbeats 8000000 in
set_option maxRecDepth 100000 in
theorem spec_l2Comp.calls (k : Nat) (a0_0 : Int) (a0_1 : Int) (a0_2 : Int) (a0_3 : Int) (a0_4 : Int) (a1_0 : Int) (a1_1 : Int) (a1_2 : Int) (a1_3 : Int) (a1_4 : Int) (r : Int) (w : World) (h : spec_l2Comp.f k a0_0 a0_1 a0_2 a0_3 a0_4 a1_0 a1_1 a1_2 a1_3 a1_4 = some r) :
  Calls Try.prog 64 #[.agg #[.int .i64 a0_0,.int .i64 a0_1,.int .i64 a0_2,.int .i64 a0_3,.int .i64 a0_4],.agg #[.int .i64 a1_0,.int .i64 a1_1,.int .i64 a1_2,.int .i64 a1_3,.int .i64 a1_4]] w fun e w'=>e = .returned (.int .i64 r) ∧ Below w.heap.size w w':=by
 have hu67:=Try.underlying67
 have HB:=Aside0.mk (Below.refl w.heap.size w)
 have H : (spec_l2Comp.l0 k (([a0_0,a0_1,a0_2,a0_3] : List Int)) (([a1_0,a1_1,a1_2,a1_3] : List Int)) 0) = some r:=h
 clear h
 obtain ⟨y209,hy209⟩ : ∃ y_ : List Int,y_ = (([a0_0,a0_1,a0_2,a0_3] : List Int)):=⟨_,rfl⟩
 replace H : (spec_l2Comp.l0 k y209 (([a1_0,a1_1,a1_2,a1_3] : List Int)) 0) = some r:=by first|(rw [hy209];with_reducible exact H)|(have H2_:=(Option.bind_some _ _).symm.trans H;rw [hy209];with_reducible exact H2_)|(have H2_:=(Option.bind_some _ _).symm.trans H;with_reducible exact H2_)|with_reducible exact H|(rw [hy209];exact H)|exact H
 have Ny209:=Aside0.mk hy209
 clear hy209
 obtain ⟨y212,hy212⟩ : ∃ y_ : List Int,y_ = (([a1_0,a1_1,a1_2,a1_3] : List Int)):=⟨_,rfl⟩
 replace H : (spec_l2Comp.l0 k y209 y212 0) = some r:=by first|(rw [hy212];with_reducible exact H)|(have H2_:=(Option.bind_some _ _).symm.trans H;rw [hy212];with_reducible exact H2_)|(have H2_:=(Option.bind_some _ _).symm.trans H;with_reducible exact H2_)|with_reducible exact H|(rw [hy212];exact H)|exact H
 have Ny212:=Aside0.mk hy212
 clear hy212
 have H':=Aside0.mk H
 clear H
 go_enter Try.func64,Try.ntmps64
 go_wp2_with (first|((with_reducible refine gate_dst (N:=2) rfl ?_);refine box_event ?hg (N:=2) ?hd (cs:=#[.int .i64 a0_0,.int .i64 a0_1,.int .i64 a0_2,.int .i64 a0_3,.int .i64 a0_4]) (t:=67) ?hr ?_;(case hd=>rfl);(case hg=>rfl);(case hr=>first|(go_simp;done)|(go_simp;rfl));intro gb207 hg w3 hbox hb;have n0_:=Aside0.mk (below_step (by repeat (first|(with_reducible first|exact HB.out|apply below_alloc|apply pw_below_drewN|apply below_drew1)|exact HB.out)) hb);have n1_:=Aside0.mk (hbox);have n2_:=Aside0.mk ((by rw [hg];exact (below_size (by repeat (first|(with_reducible first|exact HB.out|apply below_alloc|apply pw_below_drewN|apply below_drew1)|exact HB.out))) : w.heap.size ≤ gb207));have n3_:=n2_;clear HB;have HB:=n0_;have BK207:=n1_;have GW207:=n2_;have GE207:=n3_;clear n0_ n1_ n2_ n3_;clear hb hbox hg)|((with_reducible refine gate_dst (N:=3) rfl ?_);refine box_event ?hg (N:=3) ?hd (cs:=#[.int .i64 a1_0,.int .i64 a1_1,.int .i64 a1_2,.int .i64 a1_3,.int .i64 a1_4]) (t:=67) ?hr ?_;(case hd=>rfl);(case hg=>rfl);(case hr=>first|(go_simp;done)|(go_simp;rfl));intro gb208 hg w4 hbox hb;have n0_:=Aside0.mk (blk_below (g:=gb207) (o:=.cells #[.int .i64 a0_0,.int .i64 a0_1,.int .i64 a0_2,.int .i64 a0_3,.int .i64 a0_4] 67 (0,0)) (by (with_reducible repeat (first|refine blk_drewN ?_ _|refine blk_drew ?_|refine blk_alloc ?_ _));exact BK207.out) hb);have n1_:=Aside0.mk (below_step (by repeat (first|(with_reducible first|exact HB.out|apply below_alloc|apply pw_below_drewN|apply below_drew1|refine below_set ?_ GE207.out)|exact HB.out)) hb);have n2_:=Aside0.mk (hbox);have n3_:=Aside0.mk ((by rw [hg];exact (below_size (by repeat (first|(with_reducible first|exact HB.out|apply below_alloc|apply pw_below_drewN|apply below_drew1|refine below_set ?_ GE207.out)|exact HB.out))) : w.heap.size ≤ gb208));have n4_:=n3_;have n5_:=Aside0.mk ((by rw [hg];exact Nat.ne_of_lt (blk_lt (g:=gb207) (o:=.cells #[.int .i64 a0_0,.int .i64 a0_1,.int .i64 a0_2,.int .i64 a0_3,.int .i64 a0_4] 67 (0,0)) (by (with_reducible repeat (first|refine blk_drewN ?_ _|refine blk_drew ?_|refine blk_alloc ?_ _));exact BK207.out)) : gb207 ≠ gb208));have n6_:=Aside0.mk ((by rw [hg];exact Nat.ne_of_gt (blk_lt (g:=gb207) (o:=.cells #[.int .i64 a0_0,.int .i64 a0_1,.int .i64 a0_2,.int .i64 a0_3,.int .i64 a0_4] 67 (0,0)) (by (with_reducible repeat (first|refine blk_drewN ?_ _|refine blk_drew ?_|refine blk_alloc ?_ _));exact BK207.out)) : gb208 ≠ gb207));clear BK207;clear HB;have BK207:=n0_;have HB:=n1_;have BK208:=n2_;have GW208:=n3_;have GE208:=n4_;have NB207_208:=n5_;have NB208_207:=n6_;clear n0_ n1_ n2_ n3_ n4_ n5_ n6_;clear hb hbox hg;have hnb5:=NB207_208.out;have hnc5:=NB208_207.out;have hcz6_0 : w4.cell? ⟨gb207,0,none⟩ = some (.int .i64 a0_0):=(blk_cell BK207.out 0).trans rfl;have hcz6_1 : w4.cell? ⟨gb207,1,none⟩ = some (.int .i64 a0_1):=(blk_cell BK207.out 1).trans rfl;have hcz6_2 : w4.cell? ⟨gb207,2,none⟩ = some (.int .i64 a0_2):=(blk_cell BK207.out 2).trans rfl;have hcz6_3 : w4.cell? ⟨gb207,3,none⟩ = some (.int .i64 a0_3):=(blk_cell BK207.out 3).trans rfl;have hcz6_4 : w4.cell? ⟨gb207,4,none⟩ = some (.int .i64 a0_4):=(blk_cell BK207.out 4).trans rfl;have hfz6_0:=blk_frozen BK207.out 0;have hfz6_1:=blk_frozen BK207.out 1;have hfz6_2:=blk_frozen BK207.out 2;have hfz6_3:=blk_frozen BK207.out 3;have hfz6_4:=blk_frozen BK207.out 4)|((with_reducible refine gate_dst (N:=18) rfl ?_);refine Kd.R_lit (Kd.int .i64) _ 3 ?hg (N:=18) ?hd (xs:=([a0_0,a0_1,a0_2,a0_3] : List Int)) (inner:=[.int .i64 a0_0,.int .i64 a0_1,.int .i64 a0_2,.int .i64 a0_3]) (ok:=fun _=>True) (okp:=fun _=>True) ?hr ?hp (fun _ hk=>hk) trivial (Below.refl _ _) (Nat.le_refl _) (by simp) ?_;(case hd=>rfl);(case hg=>rfl);(case hr=>first|(go_simp;done)|(go_simp;rfl));(case hp=>exact (Reps.one (show Kd.M (Kd.int .i64) _ _ _ a0_0 [.int .i64 a0_0] from rfl) (Reps.one (show Kd.M (Kd.int .i64) _ _ _ a0_1 [.int .i64 a0_1] from rfl) (Reps.one (show Kd.M (Kd.int .i64) _ _ _ a0_2 [.int .i64 a0_2] from rfl) (Reps.one (show Kd.M (Kd.int .i64) _ _ _ a0_3 [.int .i64 a0_3] from rfl) (Reps.none _ _))))));intro v210 w7 ho8 hb hg_ hnew_;clear hg_ hnew_;(first|rw [← Ny209.out] at ho8|(simp only [Int.reduceToNat] at ho8;rw [← Ny209.out] at ho8));have n0_:=Aside0.mk (Kd.R_lower ho8 (below_size (by repeat (first|(with_reducible first|exact HB.out|apply below_alloc|apply pw_below_drewN|apply below_drew1|refine below_set ?_ GE207.out|refine below_set ?_ GE208.out)|exact HB.out))));have n1_:=Aside0.mk (blk_below (g:=gb207) (o:=.cells #[.int .i64 a0_0,.int .i64 a0_1,.int .i64 a0_2,.int .i64 a0_3,.int .i64 a0_4] 67 (0,0)) (by (with_reducible repeat (first|refine blk_drewN ?_ _|refine blk_drew ?_|refine blk_alloc ?_ _));exact BK207.out) hb);have n2_:=Aside0.mk (blk_below (g:=gb208) (o:=.cells #[.int .i64 a1_0,.int .i64 a1_1,.int .i64 a1_2,.int .i64 a1_3,.int .i64 a1_4] 67 (0,0)) (by (with_reducible repeat (first|refine blk_drewN ?_ _|refine blk_drew ?_|refine blk_alloc ?_ _));exact BK208.out) hb);have n3_:=Aside0.mk (below_step (by repeat (first|(with_reducible first|exact HB.out|apply below_alloc|apply pw_below_drewN|apply below_drew1|refine below_set ?_ GE207.out|refine below_set ?_ GE208.out)|exact HB.out)) hb);clear BK207;clear BK208;clear HB;have HO211:=n0_;have BK207:=n1_;have BK208:=n2_;have HB:=n3_;clear n0_ n1_ n2_ n3_;clear hb ho8;have hcz9_0 : w7.cell? ⟨gb208,0,none⟩ = some (.int .i64 a1_0):=(blk_cell BK208.out 0).trans rfl;have hcz9_1 : w7.cell? ⟨gb208,1,none⟩ = some (.int .i64 a1_1):=(blk_cell BK208.out 1).trans rfl;have hcz9_2 : w7.cell? ⟨gb208,2,none⟩ = some (.int .i64 a1_2):=(blk_cell BK208.out 2).trans rfl;have hcz9_3 : w7.cell? ⟨gb208,3,none⟩ = some (.int .i64 a1_3):=(blk_cell BK208.out 3).trans rfl;have hcz9_4 : w7.cell? ⟨gb208,4,none⟩ = some (.int .i64 a1_4):=(blk_cell BK208.out 4).trans rfl;have hfz9_0:=blk_frozen BK208.out 0;have hfz9_1:=blk_frozen BK208.out 1;have hfz9_2:=blk_frozen BK208.out 2;have hfz9_3:=blk_frozen BK208.out 3;have hfz9_4:=blk_frozen BK208.out 4)|((with_reducible refine gate_dst (N:=29) rfl ?_);refine Kd.R_lit (Kd.int .i64) _ 3 ?hg (N:=29) ?hd (xs:=([a1_0,a1_1,a1_2,a1_3] : List Int)) (inner:=[.int .i64 a1_0,.int .i64 a1_1,.int .i64 a1_2,.int .i64 a1_3]) (ok:=fun _=>True) (okp:=fun _=>True) ?hr ?hp (fun _ hk=>hk) trivial (Below.refl _ _) (Nat.le_refl _) (by simp) ?_;(case hd=>rfl);(case hg=>rfl);(case hr=>first|(go_simp;done)|(go_simp;rfl));(case hp=>exact (Reps.one (show Kd.M (Kd.int .i64) _ _ _ a1_0 [.int .i64 a1_0] from rfl) (Reps.one (show Kd.M (Kd.int .i64) _ _ _ a1_1 [.int .i64 a1_1] from rfl) (Reps.one (show Kd.M (Kd.int .i64) _ _ _ a1_2 [.int .i64 a1_2] from rfl) (Reps.one (show Kd.M (Kd.int .i64) _ _ _ a1_3 [.int .i64 a1_3] from rfl) (Reps.none _ _))))));intro v213 w10 ho11 hb hg_ hnew_;clear hg_ hnew_;(first|rw [← Ny212.out] at ho11|(simp only [Int.reduceToNat] at ho11;rw [← Ny212.out] at ho11));have n0_:=Aside0.mk (Kd.R_elder' (by (with_reducible repeat (first|apply Kd.R_alloc|apply Kd.R_drewN|apply Kd.R_drew));exact HO211.out) (Kd.R_base ho11) hb);have n1_:=Aside0.mk (Kd.R_lower (Kd.R_new' ho11 (Kd.R_lt (by (with_reducible repeat (first|apply Kd.R_alloc|apply Kd.R_drewN|apply Kd.R_drew));exact HO211.out))) (below_size (by repeat (first|(with_reducible first|exact HB.out|apply below_alloc|apply pw_below_drewN|apply below_drew1|refine below_set ?_ GE207.out|refine below_set ?_ GE208.out)|exact HB.out))));have n2_:=Aside0.mk (blk_below (g:=gb207) (o:=.cells #[.int .i64 a0_0,.int .i64 a0_1,.int .i64 a0_2,.int .i64 a0_3,.int .i64 a0_4] 67 (0,0)) (by (with_reducible repeat (first|refine blk_drewN ?_ _|refine blk_drew ?_|refine blk_alloc ?_ _));exact BK207.out) hb);have n3_:=Aside0.mk (blk_below (g:=gb208) (o:=.cells #[.int .i64 a1_0,.int .i64 a1_1,.int .i64 a1_2,.int .i64 a1_3,.int .i64 a1_4] 67 (0,0)) (by (with_reducible repeat (first|refine blk_drewN ?_ _|refine blk_drew ?_|refine blk_alloc ?_ _));exact BK208.out) hb);have n4_:=Aside0.mk (below_step (by repeat (first|(with_reducible first|exact HB.out|apply below_alloc|apply pw_below_drewN|apply below_drew1|refine below_set ?_ GE207.out|refine below_set ?_ GE208.out)|exact HB.out)) hb);clear HO211;clear BK207;clear BK208;clear HB;have HO211:=n0_;have HO214:=n1_;have BK207:=n2_;have BK208:=n3_;have HB:=n4_;clear n0_ n1_ n2_ n3_ n4_;clear hb ho11))
 repeat (go_quiet (first|((with_reducible refine gate_dst (N:=2) rfl ?_);refine box_event ?hg (N:=2) ?hd (cs:=#[.int .i64 a0_0,.int .i64 a0_1,.int .i64 a0_2,.int .i64 a0_3,.int .i64 a0_4]) (t:=67) ?hr ?_;(case hd=>rfl);(case hg=>rfl);(case hr=>first|(go_simp;done)|(go_simp;rfl));intro gb207 hg w3 hbox hb;have n0_:=Aside0.mk (below_step (by repeat (first|(with_reducible first|exact HB.out|apply below_alloc|apply pw_below_drewN|apply below_drew1)|exact HB.out)) hb);have n1_:=Aside0.mk (hbox);have n2_:=Aside0.mk ((by rw [hg];exact (below_size (by repeat (first|(with_reducible first|exact HB.out|apply below_alloc|apply pw_below_drewN|apply below_drew1)|exact HB.out))) : w.heap.size ≤ gb207));have n3_:=n2_;clear HB;have HB:=n0_;have BK207:=n1_;have GW207:=n2_;have GE207:=n3_;clear n0_ n1_ n2_ n3_;clear hb hbox hg)|((with_reducible refine gate_dst (N:=3) rfl ?_);refine box_event ?hg (N:=3) ?hd (cs:=#[.int .i64 a1_0,.int .i64 a1_1,.int .i64 a1_2,.int .i64 a1_3,.int .i64 a1_4]) (t:=67) ?hr ?_;(case hd=>rfl);(case hg=>rfl);(case hr=>first|(go_simp;done)|(go_simp;rfl));intro gb208 hg w4 hbox hb;have n0_:=Aside0.mk (blk_below (g:=gb207) (o:=.cells #[.int .i64 a0_0,.int .i64 a0_1,.int .i64 a0_2,.int .i64 a0_3,.int .i64 a0_4] 67 (0,0)) (by (with_reducible repeat (first|refine blk_drewN ?_ _|refine blk_drew ?_|refine blk_alloc ?_ _));exact BK207.out) hb);have n1_:=Aside0.mk (below_step (by repeat (first|(with_reducible first|exact HB.out|apply below_alloc|apply pw_below_drewN|apply below_drew1|refine below_set ?_ GE207.out)|exact HB.out)) hb);have n2_:=Aside0.mk (hbox);have n3_:=Aside0.mk ((by rw [hg];exact (below_size (by repeat (first|(with_reducible first|exact HB.out|apply below_alloc|apply pw_below_drewN|apply below_drew1|refine below_set ?_ GE207.out)|exact HB.out))) : w.heap.size ≤ gb208));have n4_:=n3_;have n5_:=Aside0.mk ((by rw [hg];exact Nat.ne_of_lt (blk_lt (g:=gb207) (o:=.cells #[.int .i64 a0_0,.int .i64 a0_1,.int .i64 a0_2,.int .i64 a0_3,.int .i64 a0_4] 67 (0,0)) (by (with_reducible repeat (first|refine blk_drewN ?_ _|refine blk_drew ?_|refine blk_alloc ?_ _));exact BK207.out)) : gb207 ≠ gb208));have n6_:=Aside0.mk ((by rw [hg];exact Nat.ne_of_gt (blk_lt (g:=gb207) (o:=.cells #[.int .i64 a0_0,.int .i64 a0_1,.int .i64 a0_2,.int .i64 a0_3,.int .i64 a0_4] 67 (0,0)) (by (with_reducible repeat (first|refine blk_drewN ?_ _|refine blk_drew ?_|refine blk_alloc ?_ _));exact BK207.out)) : gb208 ≠ gb207));clear BK207;clear HB;have BK207:=n0_;have HB:=n1_;have BK208:=n2_;have GW208:=n3_;have GE208:=n4_;have NB207_208:=n5_;have NB208_207:=n6_;clear n0_ n1_ n2_ n3_ n4_ n5_ n6_;clear hb hbox hg;have hnb5:=NB207_208.out;have hnc5:=NB208_207.out;have hcz6_0 : w4.cell? ⟨gb207,0,none⟩ = some (.int .i64 a0_0):=(blk_cell BK207.out 0).trans rfl;have hcz6_1 : w4.cell? ⟨gb207,1,none⟩ = some (.int .i64 a0_1):=(blk_cell BK207.out 1).trans rfl;have hcz6_2 : w4.cell? ⟨gb207,2,none⟩ = some (.int .i64 a0_2):=(blk_cell BK207.out 2).trans rfl;have hcz6_3 : w4.cell? ⟨gb207,3,none⟩ = some (.int .i64 a0_3):=(blk_cell BK207.out 3).trans rfl;have hcz6_4 : w4.cell? ⟨gb207,4,none⟩ = some (.int .i64 a0_4):=(blk_cell BK207.out 4).trans rfl;have hfz6_0:=blk_frozen BK207.out 0;have hfz6_1:=blk_frozen BK207.out 1;have hfz6_2:=blk_frozen BK207.out 2;have hfz6_3:=blk_frozen BK207.out 3;have hfz6_4:=blk_frozen BK207.out 4)|((with_reducible refine gate_dst (N:=18) rfl ?_);refine Kd.R_lit (Kd.int .i64) _ 3 ?hg (N:=18) ?hd (xs:=([a0_0,a0_1,a0_2,a0_3] : List Int)) (inner:=[.int .i64 a0_0,.int .i64 a0_1,.int .i64 a0_2,.int .i64 a0_3]) (ok:=fun _=>True) (okp:=fun _=>True) ?hr ?hp (fun _ hk=>hk) trivial (Below.refl _ _) (Nat.le_refl _) (by simp) ?_;(case hd=>rfl);(case hg=>rfl);(case hr=>first|(go_simp;done)|(go_simp;rfl));(case hp=>exact (Reps.one (show Kd.M (Kd.int .i64) _ _ _ a0_0 [.int .i64 a0_0] from rfl) (Reps.one (show Kd.M (Kd.int .i64) _ _ _ a0_1 [.int .i64 a0_1] from rfl) (Reps.one (show Kd.M (Kd.int .i64) _ _ _ a0_2 [.int .i64 a0_2] from rfl) (Reps.one (show Kd.M (Kd.int .i64) _ _ _ a0_3 [.int .i64 a0_3] from rfl) (Reps.none _ _))))));intro v210 w7 ho8 hb hg_ hnew_;clear hg_ hnew_;(first|rw [← Ny209.out] at ho8|(simp only [Int.reduceToNat] at ho8;rw [← Ny209.out] at ho8));have n0_:=Aside0.mk (Kd.R_lower ho8 (below_size (by repeat (first|(with_reducible first|exact HB.out|apply below_alloc|apply pw_below_drewN|apply below_drew1|refine below_set ?_ GE207.out|refine below_set ?_ GE208.out)|exact HB.out))));have n1_:=Aside0.mk (blk_below (g:=gb207) (o:=.cells #[.int .i64 a0_0,.int .i64 a0_1,.int .i64 a0_2,.int .i64 a0_3,.int .i64 a0_4] 67 (0,0)) (by (with_reducible repeat (first|refine blk_drewN ?_ _|refine blk_drew ?_|refine blk_alloc ?_ _));exact BK207.out) hb);have n2_:=Aside0.mk (blk_below (g:=gb208) (o:=.cells #[.int .i64 a1_0,.int .i64 a1_1,.int .i64 a1_2,.int .i64 a1_3,.int .i64 a1_4] 67 (0,0)) (by (with_reducible repeat (first|refine blk_drewN ?_ _|refine blk_drew ?_|refine blk_alloc ?_ _));exact BK208.out) hb);have n3_:=Aside0.mk (below_step (by repeat (first|(with_reducible first|exact HB.out|apply below_alloc|apply pw_below_drewN|apply below_drew1|refine below_set ?_ GE207.out|refine below_set ?_ GE208.out)|exact HB.out)) hb);clear BK207;clear BK208;clear HB;have HO211:=n0_;have BK207:=n1_;have BK208:=n2_;have HB:=n3_;clear n0_ n1_ n2_ n3_;clear hb ho8;have hcz9_0 : w7.cell? ⟨gb208,0,none⟩ = some (.int .i64 a1_0):=(blk_cell BK208.out 0).trans rfl;have hcz9_1 : w7.cell? ⟨gb208,1,none⟩ = some (.int .i64 a1_1):=(blk_cell BK208.out 1).trans rfl;have hcz9_2 : w7.cell? ⟨gb208,2,none⟩ = some (.int .i64 a1_2):=(blk_cell BK208.out 2).trans rfl;have hcz9_3 : w7.cell? ⟨gb208,3,none⟩ = some (.int .i64 a1_3):=(blk_cell BK208.out 3).trans rfl;have hcz9_4 : w7.cell? ⟨gb208,4,none⟩ = some (.int .i64 a1_4):=(blk_cell BK208.out 4).trans rfl;have hfz9_0:=blk_frozen BK208.out 0;have hfz9_1:=blk_frozen BK208.out 1;have hfz9_2:=blk_frozen BK208.out 2;have hfz9_3:=blk_frozen BK208.out 3;have hfz9_4:=blk_frozen BK208.out 4)|((with_reducible refine gate_dst (N:=29) rfl ?_);refine Kd.R_lit (Kd.int .i64) _ 3 ?hg (N:=29) ?hd (xs:=([a1_0,a1_1,a1_2,a1_3] : List Int)) (inner:=[.int .i64 a1_0,.int .i64 a1_1,.int .i64 a1_2,.int .i64 a1_3]) (ok:=fun _=>True) (okp:=fun _=>True) ?hr ?hp (fun _ hk=>hk) trivial (Below.refl _ _) (Nat.le_refl _) (by simp) ?_;(case hd=>rfl);(case hg=>rfl);(case hr=>first|(go_simp;done)|(go_simp;rfl));(case hp=>exact (Reps.one (show Kd.M (Kd.int .i64) _ _ _ a1_0 [.int .i64 a1_0] from rfl) (Reps.one (show Kd.M (Kd.int .i64) _ _ _ a1_1 [.int .i64 a1_1] from rfl) (Reps.one (show Kd.M (Kd.int .i64) _ _ _ a1_2 [.int .i64 a1_2] from rfl) (Reps.one (show Kd.M (Kd.int .i64) _ _ _ a1_3 [.int .i64 a1_3] from rfl) (Reps.none _ _))))));intro v213 w10 ho11 hb hg_ hnew_;clear hg_ hnew_;(first|rw [← Ny212.out] at ho11|(simp only [Int.reduceToNat] at ho11;rw [← Ny212.out] at ho11));have n0_:=Aside0.mk (Kd.R_elder' (by (with_reducible repeat (first|apply Kd.R_alloc|apply Kd.R_drewN|apply Kd.R_drew));exact HO211.out) (Kd.R_base ho11) hb);have n1_:=Aside0.mk (Kd.R_lower (Kd.R_new' ho11 (Kd.R_lt (by (with_reducible repeat (first|apply Kd.R_alloc|apply Kd.R_drewN|apply Kd.R_drew));exact HO211.out))) (below_size (by repeat (first|(with_reducible first|exact HB.out|apply below_alloc|apply pw_below_drewN|apply below_drew1|refine below_set ?_ GE207.out|refine below_set ?_ GE208.out)|exact HB.out))));have n2_:=Aside0.mk (blk_below (g:=gb207) (o:=.cells #[.int .i64 a0_0,.int .i64 a0_1,.int .i64 a0_2,.int .i64 a0_3,.int .i64 a0_4] 67 (0,0)) (by (with_reducible repeat (first|refine blk_drewN ?_ _|refine blk_drew ?_|refine blk_alloc ?_ _));exact BK207.out) hb);have n3_:=Aside0.mk (blk_below (g:=gb208) (o:=.cells #[.int .i64 a1_0,.int .i64 a1_1,.int .i64 a1_2,.int .i64 a1_3,.int .i64 a1_4] 67 (0,0)) (by (with_reducible repeat (first|refine blk_drewN ?_ _|refine blk_drew ?_|refine blk_alloc ?_ _));exact BK208.out) hb);have n4_:=Aside0.mk (below_step (by repeat (first|(with_reducible first|exact HB.out|apply below_alloc|apply pw_below_drewN|apply below_drew1|refine below_set ?_ GE207.out|refine below_set ?_ GE208.out)|exact HB.out)) hb);clear HO211;clear BK207;clear BK208;clear HB;have HO211:=n0_;have HO214:=n1_;have BK207:=n2_;have BK208:=n3_;have HB:=n4_;clear n0_ n1_ n2_ n3_ n4_;clear hb ho11));try go_wp2_with (first|((with_reducible refine gate_dst (N:=2) rfl ?_);refine box_event ?hg (N:=2) ?hd (cs:=#[.int .i64 a0_0,.int .i64 a0_1,.int .i64 a0_2,.int .i64 a0_3,.int .i64 a0_4]) (t:=67) ?hr ?_;(case hd=>rfl);(case hg=>rfl);(case hr=>first|(go_simp;done)|(go_simp;rfl));intro gb207 hg w3 hbox hb;have n0_:=Aside0.mk (below_step (by repeat (first|(with_reducible first|exact HB.out|apply below_alloc|apply pw_below_drewN|apply below_drew1)|exact HB.out)) hb);have n1_:=Aside0.mk (hbox);have n2_:=Aside0.mk ((by rw [hg];exact (below_size (by repeat (first|(with_reducible first|exact HB.out|apply below_alloc|apply pw_below_drewN|apply below_drew1)|exact HB.out))) : w.heap.size ≤ gb207));have n3_:=n2_;clear HB;have HB:=n0_;have BK207:=n1_;have GW207:=n2_;have GE207:=n3_;clear n0_ n1_ n2_ n3_;clear hb hbox hg)|((with_reducible refine gate_dst (N:=3) rfl ?_);refine box_event ?hg (N:=3) ?hd (cs:=#[.int .i64 a1_0,.int .i64 a1_1,.int .i64 a1_2,.int .i64 a1_3,.int .i64 a1_4]) (t:=67) ?hr ?_;(case hd=>rfl);(case hg=>rfl);(case hr=>first|(go_simp;done)|(go_simp;rfl));intro gb208 hg w4 hbox hb;have n0_:=Aside0.mk (blk_below (g:=gb207) (o:=.cells #[.int .i64 a0_0,.int .i64 a0_1,.int .i64 a0_2,.int .i64 a0_3,.int .i64 a0_4] 67 (0,0)) (by (with_reducible repeat (first|refine blk_drewN ?_ _|refine blk_drew ?_|refine blk_alloc ?_ _));exact BK207.out) hb);have n1_:=Aside0.mk (below_step (by repeat (first|(with_reducible first|exact HB.out|apply below_alloc|apply pw_below_drewN|apply below_drew1|refine below_set ?_ GE207.out)|exact HB.out)) hb);have n2_:=Aside0.mk (hbox);have n3_:=Aside0.mk ((by rw [hg];exact (below_size (by repeat (first|(with_reducible first|exact HB.out|apply below_alloc|apply pw_below_drewN|apply below_drew1|refine below_set ?_ GE207.out)|exact HB.out))) : w.heap.size ≤ gb208));have n4_:=n3_;have n5_:=Aside0.mk ((by rw [hg];exact Nat.ne_of_lt (blk_lt (g:=gb207) (o:=.cells #[.int .i64 a0_0,.int .i64 a0_1,.int .i64 a0_2,.int .i64 a0_3,.int .i64 a0_4] 67 (0,0)) (by (with_reducible repeat (first|refine blk_drewN ?_ _|refine blk_drew ?_|refine blk_alloc ?_ _));exact BK207.out)) : gb207 ≠ gb208));have n6_:=Aside0.mk ((by rw [hg];exact Nat.ne_of_gt (blk_lt (g:=gb207) (o:=.cells #[.int .i64 a0_0,.int .i64 a0_1,.int .i64 a0_2,.int .i64 a0_3,.int .i64 a0_4] 67 (0,0)) (by (with_reducible repeat (first|refine blk_drewN ?_ _|refine blk_drew ?_|refine blk_alloc ?_ _));exact BK207.out)) : gb208 ≠ gb207));clear BK207;clear HB;have BK207:=n0_;have HB:=n1_;have BK208:=n2_;have GW208:=n3_;have GE208:=n4_;have NB207_208:=n5_;have NB208_207:=n6_;clear n0_ n1_ n2_ n3_ n4_ n5_ n6_;clear hb hbox hg;have hnb5:=NB207_208.out;have hnc5:=NB208_207.out;have hcz6_0 : w4.cell? ⟨gb207,0,none⟩ = some (.int .i64 a0_0):=(blk_cell BK207.out 0).trans rfl;have hcz6_1 : w4.cell? ⟨gb207,1,none⟩ = some (.int .i64 a0_1):=(blk_cell BK207.out 1).trans rfl;have hcz6_2 : w4.cell? ⟨gb207,2,none⟩ = some (.int .i64 a0_2):=(blk_cell BK207.out 2).trans rfl;have hcz6_3 : w4.cell? ⟨gb207,3,none⟩ = some (.int .i64 a0_3):=(blk_cell BK207.out 3).trans rfl;have hcz6_4 : w4.cell? ⟨gb207,4,none⟩ = some (.int .i64 a0_4):=(blk_cell BK207.out 4).trans rfl;have hfz6_0:=blk_frozen BK207.out 0;have hfz6_1:=blk_frozen BK207.out 1;have hfz6_2:=blk_frozen BK207.out 2;have hfz6_3:=blk_frozen BK207.out 3;have hfz6_4:=blk_frozen BK207.out 4)|((with_reducible refine gate_dst (N:=18) rfl ?_);refine Kd.R_lit (Kd.int .i64) _ 3 ?hg (N:=18) ?hd (xs:=([a0_0,a0_1,a0_2,a0_3] : List Int)) (inner:=[.int .i64 a0_0,.int .i64 a0_1,.int .i64 a0_2,.int .i64 a0_3]) (ok:=fun _=>True) (okp:=fun _=>True) ?hr ?hp (fun _ hk=>hk) trivial (Below.refl _ _) (Nat.le_refl _) (by simp) ?_;(case hd=>rfl);(case hg=>rfl);(case hr=>first|(go_simp;done)|(go_simp;rfl));(case hp=>exact (Reps.one (show Kd.M (Kd.int .i64) _ _ _ a0_0 [.int .i64 a0_0] from rfl) (Reps.one (show Kd.M (Kd.int .i64) _ _ _ a0_1 [.int .i64 a0_1] from rfl) (Reps.one (show Kd.M (Kd.int .i64) _ _ _ a0_2 [.int .i64 a0_2] from rfl) (Reps.one (show Kd.M (Kd.int .i64) _ _ _ a0_3 [.int .i64 a0_3] from rfl) (Reps.none _ _))))));intro v210 w7 ho8 hb hg_ hnew_;clear hg_ hnew_;(first|rw [← Ny209.out] at ho8|(simp only [Int.reduceToNat] at ho8;rw [← Ny209.out] at ho8));have n0_:=Aside0.mk (Kd.R_lower ho8 (below_size (by repeat (first|(with_reducible first|exact HB.out|apply below_alloc|apply pw_below_drewN|apply below_drew1|refine below_set ?_ GE207.out|refine below_set ?_ GE208.out)|exact HB.out))));have n1_:=Aside0.mk (blk_below (g:=gb207) (o:=.cells #[.int .i64 a0_0,.int .i64 a0_1,.int .i64 a0_2,.int .i64 a0_3,.int .i64 a0_4] 67 (0,0)) (by (with_reducible repeat (first|refine blk_drewN ?_ _|refine blk_drew ?_|refine blk_alloc ?_ _));exact BK207.out) hb);have n2_:=Aside0.mk (blk_below (g:=gb208) (o:=.cells #[.int .i64 a1_0,.int .i64 a1_1,.int .i64 a1_2,.int .i64 a1_3,.int .i64 a1_4] 67 (0,0)) (by (with_reducible repeat (first|refine blk_drewN ?_ _|refine blk_drew ?_|refine blk_alloc ?_ _));exact BK208.out) hb);have n3_:=Aside0.mk (below_step (by repeat (first|(with_reducible first|exact HB.out|apply below_alloc|apply pw_below_drewN|apply below_drew1|refine below_set ?_ GE207.out|refine below_set ?_ GE208.out)|exact HB.out)) hb);clear BK207;clear BK208;clear HB;have HO211:=n0_;have BK207:=n1_;have BK208:=n2_;have HB:=n3_;clear n0_ n1_ n2_ n3_;clear hb ho8;have hcz9_0 : w7.cell? ⟨gb208,0,none⟩ = some (.int .i64 a1_0):=(blk_cell BK208.out 0).trans rfl;have hcz9_1 : w7.cell? ⟨gb208,1,none⟩ = some (.int .i64 a1_1):=(blk_cell BK208.out 1).trans rfl;have hcz9_2 : w7.cell? ⟨gb208,2,none⟩ = some (.int .i64 a1_2):=(blk_cell BK208.out 2).trans rfl;have hcz9_3 : w7.cell? ⟨gb208,3,none⟩ = some (.int .i64 a1_3):=(blk_cell BK208.out 3).trans rfl;have hcz9_4 : w7.cell? ⟨gb208,4,none⟩ = some (.int .i64 a1_4):=(blk_cell BK208.out 4).trans rfl;have hfz9_0:=blk_frozen BK208.out 0;have hfz9_1:=blk_frozen BK208.out 1;have hfz9_2:=blk_frozen BK208.out 2;have hfz9_3:=blk_frozen BK208.out 3;have hfz9_4:=blk_frozen BK208.out 4)|((with_reducible refine gate_dst (N:=29) rfl ?_);refine Kd.R_lit (Kd.int .i64) _ 3 ?hg (N:=29) ?hd (xs:=([a1_0,a1_1,a1_2,a1_3] : List Int)) (inner:=[.int .i64 a1_0,.int .i64 a1_1,.int .i64 a1_2,.int .i64 a1_3]) (ok:=fun _=>True) (okp:=fun _=>True) ?hr ?hp (fun _ hk=>hk) trivial (Below.refl _ _) (Nat.le_refl _) (by simp) ?_;(case hd=>rfl);(case hg=>rfl);(case hr=>first|(go_simp;done)|(go_simp;rfl));(case hp=>exact (Reps.one (show Kd.M (Kd.int .i64) _ _ _ a1_0 [.int .i64 a1_0] from rfl) (Reps.one (show Kd.M (Kd.int .i64) _ _ _ a1_1 [.int .i64 a1_1] from rfl) (Reps.one (show Kd.M (Kd.int .i64) _ _ _ a1_2 [.int .i64 a1_2] from rfl) (Reps.one (show Kd.M (Kd.int .i64) _ _ _ a1_3 [.int .i64 a1_3] from rfl) (Reps.none _ _))))));intro v213 w10 ho11 hb hg_ hnew_;clear hg_ hnew_;(first|rw [← Ny212.out] at ho11|(simp only [Int.reduceToNat] at ho11;rw [← Ny212.out] at ho11));have n0_:=Aside0.mk (Kd.R_elder' (by (with_reducible repeat (first|apply Kd.R_alloc|apply Kd.R_drewN|apply Kd.R_drew));exact HO211.out) (Kd.R_base ho11) hb);have n1_:=Aside0.mk (Kd.R_lower (Kd.R_new' ho11 (Kd.R_lt (by (with_reducible repeat (first|apply Kd.R_alloc|apply Kd.R_drewN|apply Kd.R_drew));exact HO211.out))) (below_size (by repeat (first|(with_reducible first|exact HB.out|apply below_alloc|apply pw_below_drewN|apply below_drew1|refine below_set ?_ GE207.out|refine below_set ?_ GE208.out)|exact HB.out))));have n2_:=Aside0.mk (blk_below (g:=gb207) (o:=.cells #[.int .i64 a0_0,.int .i64 a0_1,.int .i64 a0_2,.int .i64 a0_3,.int .i64 a0_4] 67 (0,0)) (by (with_reducible repeat (first|refine blk_drewN ?_ _|refine blk_drew ?_|refine blk_alloc ?_ _));exact BK207.out) hb);have n3_:=Aside0.mk (blk_below (g:=gb208) (o:=.cells #[.int .i64 a1_0,.int .i64 a1_1,.int .i64 a1_2,.int .i64 a1_3,.int .i64 a1_4] 67 (0,0)) (by (with_reducible repeat (first|refine blk_drewN ?_ _|refine blk_drew ?_|refine blk_alloc ?_ _));exact BK208.out) hb);have n4_:=Aside0.mk (below_step (by repeat (first|(with_reducible first|exact HB.out|apply below_alloc|apply pw_below_drewN|apply below_drew1|refine below_set ?_ GE207.out|refine below_set ?_ GE208.out)|exact HB.out)) hb);clear HO211;clear BK207;clear BK208;clear HB;have HO211:=n0_;have HO214:=n1_;have BK207:=n2_;have BK208:=n3_;have HB:=n4_;clear n0_ n1_ n2_ n3_ n4_;clear hb ho11)))
 go_loopg [7] k (fun kq v7 w'=>∃ (x7_1 : Int),v7 = .int .i64 x7_1 ∧ Aside0 (spec_l2Comp.l0 kq y209 y212 x7_1 = some r) ∧ Aside0 (kq ≤ k) ∧ Aside0 (Kd.R (Kd.int .i64) 3 w' w.heap.size (fun k_=>some k_ ≠ (v213 : Value).ownBlock) v210 y209) ∧ Aside0 (Kd.R (Kd.int .i64) 3 w' w.heap.size (fun k_=>some k_ ≠ (v210 : Value).ownBlock) v213 y212) ∧ Aside0 (w'.heap[gb207]? = some (.cells #[.int .i64 a0_0,.int .i64 a0_1,.int .i64 a0_2,.int .i64 a0_3,.int .i64 a0_4] 67 (0,0))) ∧ Aside0 (w'.heap[gb208]? = some (.cells #[.int .i64 a1_0,.int .i64 a1_1,.int .i64 a1_2,.int .i64 a1_3,.int .i64 a1_4] 67 (0,0))) ∧ Aside0 (Below w.heap.size w w'))
 case atStart=>exact ⟨(0),(by first|rfl|(simp;done)|(simp [*];done)),H',⟨Nat.le_refl _⟩,⟨by (with_reducible repeat (first|apply Kd.R_alloc|apply Kd.R_drewN|apply Kd.R_drew));exact Kd.R_mono HO211.out (fun _ hk=>hk.2)⟩,⟨by (with_reducible repeat (first|apply Kd.R_alloc|apply Kd.R_drewN|apply Kd.R_drew));exact Kd.R_mono HO214.out (fun _ hk=>hk.2)⟩,⟨by (with_reducible repeat (first|refine blk_drewN ?_ _|refine blk_drew ?_|refine blk_alloc ?_ _));exact BK207.out⟩,⟨by (with_reducible repeat (first|refine blk_drewN ?_ _|refine blk_drew ?_|refine blk_alloc ?_ _));exact BK208.out⟩,⟨by repeat (first|(with_reducible first|exact HB.out|apply below_alloc|apply pw_below_drewN|apply below_drew1|refine below_set ?_ GE207.out|refine below_set ?_ GE208.out)|exact HB.out)⟩⟩
 case round =>
  clear H'
  try clear p2
  try clear c5
  try clear c6
  try clear hcz6_0
  try clear hcz6_1
  try clear hcz6_2
  try clear hcz6_3
  try clear hcz6_4
  try clear hcz9_0
  try clear hcz9_1
  try clear hcz9_2
  try clear hcz9_3
  try clear hcz9_4
  try clear hfz6_0
  try clear hfz6_1
  try clear hfz6_2
  try clear hfz6_3
  try clear hfz6_4
  try clear hfz9_0
  try clear hfz9_1
  try clear hfz9_2
  try clear hfz9_3
  try clear hfz9_4
  obtain ⟨x7_1,rfl,HA,HK1,HO_5,HO_6,BK207,BK208,HB⟩:=hrel
  cases gk with
  | zero=>exact absurd HA.out (by simp [spec_l2Comp.l0])
  | succ k1 =>
   have H:=HA.out
   clear HA
   simp only [spec_l2Comp.l0] at H
   by_cases c12 : x7_1 < (y209.length : Int)
   ·rw [if_pos c12] at H
    have c12b0 : decide (x7_1 < (y209.length : Int)) = true:=decide_eq_true c12
    clear c12
    by_cases c13 : 0 ≤ x7_1
    ·rw [if_pos c13] at H
     have c13b0 : decide (0 ≤ x7_1) = true:=decide_eq_true c13
     clear c13
     by_cases c14 : x7_1 < (y212.length : Int)
     ·rw [if_pos c14] at H
      have c14b0 : decide (x7_1 < (y212.length : Int)) = true:=decide_eq_true c14
      clear c14
      by_cases c15 : (rd y209 x7_1) < (rd y212 x7_1)
      ·rw [if_pos c15] at H
       have c15b0 : decide ((rd y209 x7_1) < (rd y212 x7_1)) = true:=decide_eq_true c15
       clear c15
       obtain rfl:=Option.some.inj H
       obtain ⟨Ao16,co16,eo16⟩:=Kd.R_slice HO_5.out
       subst eo16
       have p215 : 0 ≤ (x7_1 : Int):=of_decide_eq_true (by first|(with_reducible assumption)|assumption)
       have q215 : x7_1 < (y209.length : Int):=of_decide_eq_true (by first|(with_reducible assumption)|assumption)
       obtain ⟨ad215,e215,hx215_0⟩:=Kd.at_int (Kd.R_reads' HO_5.out).2.2 x7_1 p215 q215
       cases e215
       replace p215:=eq_true p215
       replace q215:=eq_true q215
       obtain ⟨Ao17,co17,eo17⟩:=Kd.R_slice HO_6.out
       subst eo17
       have p216 : 0 ≤ (x7_1 : Int):=of_decide_eq_true (by first|(with_reducible assumption)|assumption)
       have q216 : x7_1 < (y212.length : Int):=of_decide_eq_true (by first|(with_reducible assumption)|assumption)
       obtain ⟨ad216,e216,hx216_0⟩:=Kd.at_int (Kd.R_reads' HO_6.out).2.2 x7_1 p216 q216
       cases e216
       replace p216:=eq_true p216
       replace q216:=eq_true q216
       go_wp2
       repeat (go_quiet (fail);try go_wp2)
       go_ret
       exact ⟨by first|rfl|(simp [errW_none,errW_some] <;> rfl)|(simp [*,errW_none,errW_some] <;> rfl),by repeat (first|(with_reducible first|exact HB.out|apply below_alloc|apply pw_below_drewN|apply below_drew1|refine below_set ?_ GE207.out|refine below_set ?_ GE208.out)|exact HB.out)⟩
      ·rw [if_neg c15] at H
       have c15b0 : decide ((rd y209 x7_1) < (rd y212 x7_1)) = false:=decide_eq_false c15
       clear c15
       by_cases c18 : (rd y209 x7_1) > (rd y212 x7_1)
       ·rw [if_pos c18] at H
        have c18b0 : decide ((rd y212 x7_1) < (rd y209 x7_1)) = true:=decide_eq_true c18
        clear c18
        obtain rfl:=Option.some.inj H
        obtain ⟨Ao19,co19,eo19⟩:=Kd.R_slice HO_5.out
        subst eo19
        have p215 : 0 ≤ (x7_1 : Int):=of_decide_eq_true (by first|(with_reducible assumption)|assumption)
        have q215 : x7_1 < (y209.length : Int):=of_decide_eq_true (by first|(with_reducible assumption)|assumption)
        obtain ⟨ad215,e215,hx215_0⟩:=Kd.at_int (Kd.R_reads' HO_5.out).2.2 x7_1 p215 q215
        cases e215
        replace p215:=eq_true p215
        replace q215:=eq_true q215
        obtain ⟨Ao20,co20,eo20⟩:=Kd.R_slice HO_6.out
        subst eo20
        have p216 : 0 ≤ (x7_1 : Int):=of_decide_eq_true (by first|(with_reducible assumption)|assumption)
        have q216 : x7_1 < (y212.length : Int):=of_decide_eq_true (by first|(with_reducible assumption)|assumption)
        obtain ⟨ad216,e216,hx216_0⟩:=Kd.at_int (Kd.R_reads' HO_6.out).2.2 x7_1 p216 q216
        cases e216
        replace p216:=eq_true p216
        replace q216:=eq_true q216
        have p217 : 0 ≤ (x7_1 : Int):=of_decide_eq_true (by first|(with_reducible assumption)|assumption)
        have q217 : x7_1 < (y209.length : Int):=of_decide_eq_true (by first|(with_reducible assumption)|assumption)
        obtain ⟨ad217,e217,hx217_0⟩:=Kd.at_int (Kd.R_reads' HO_5.out).2.2 x7_1 p217 q217
        obtain rfl : ad215 = ad217:=(by injection e217)
        replace p217:=eq_true p217
        replace q217:=eq_true q217
        have p218 : 0 ≤ (x7_1 : Int):=of_decide_eq_true (by first|(with_reducible assumption)|assumption)
        have q218 : x7_1 < (y212.length : Int):=of_decide_eq_true (by first|(with_reducible assumption)|assumption)
        obtain ⟨ad218,e218,hx218_0⟩:=Kd.at_int (Kd.R_reads' HO_6.out).2.2 x7_1 p218 q218
        obtain rfl : ad216 = ad218:=(by injection e218)
        replace p218:=eq_true p218
        replace q218:=eq_true q218
        go_wp2
        repeat (go_quiet (fail);try go_wp2)
        go_ret
        exact ⟨by first|rfl|(simp [errW_none,errW_some] <;> rfl)|(simp [*,errW_none,errW_some] <;> rfl),by repeat (first|(with_reducible first|exact HB.out|apply below_alloc|apply pw_below_drewN|apply below_drew1|refine below_set ?_ GE207.out|refine below_set ?_ GE208.out)|exact HB.out)⟩
       ·rw [if_neg c18] at H
        have c18b0 : decide ((rd y212 x7_1) < (rd y209 x7_1)) = false:=decide_eq_false c18
        clear c18
        have H':=Aside0.mk H
        clear H
        obtain ⟨Ao21,co21,eo21⟩:=Kd.R_slice HO_5.out
        subst eo21
        have p215 : 0 ≤ (x7_1 : Int):=of_decide_eq_true (by first|(with_reducible assumption)|assumption)
        have q215 : x7_1 < (y209.length : Int):=of_decide_eq_true (by first|(with_reducible assumption)|assumption)
        obtain ⟨ad215,e215,hx215_0⟩:=Kd.at_int (Kd.R_reads' HO_5.out).2.2 x7_1 p215 q215
        cases e215
        replace p215:=eq_true p215
        replace q215:=eq_true q215
        obtain ⟨Ao22,co22,eo22⟩:=Kd.R_slice HO_6.out
        subst eo22
        have p216 : 0 ≤ (x7_1 : Int):=of_decide_eq_true (by first|(with_reducible assumption)|assumption)
        have q216 : x7_1 < (y212.length : Int):=of_decide_eq_true (by first|(with_reducible assumption)|assumption)
        obtain ⟨ad216,e216,hx216_0⟩:=Kd.at_int (Kd.R_reads' HO_6.out).2.2 x7_1 p216 q216
        cases e216
        replace p216:=eq_true p216
        replace q216:=eq_true q216
        have p217 : 0 ≤ (x7_1 : Int):=of_decide_eq_true (by first|(with_reducible assumption)|assumption)
        have q217 : x7_1 < (y209.length : Int):=of_decide_eq_true (by first|(with_reducible assumption)|assumption)
        obtain ⟨ad217,e217,hx217_0⟩:=Kd.at_int (Kd.R_reads' HO_5.out).2.2 x7_1 p217 q217
        obtain rfl : ad215 = ad217:=(by injection e217)
        replace p217:=eq_true p217
        replace q217:=eq_true q217
        have p218 : 0 ≤ (x7_1 : Int):=of_decide_eq_true (by first|(with_reducible assumption)|assumption)
        have q218 : x7_1 < (y212.length : Int):=of_decide_eq_true (by first|(with_reducible assumption)|assumption)
        obtain ⟨ad218,e218,hx218_0⟩:=Kd.at_int (Kd.R_reads' HO_6.out).2.2 x7_1 p218 q218
        obtain rfl : ad216 = ad218:=(by injection e218)
        replace p218:=eq_true p218
        replace q218:=eq_true q218
        go_wp2
        repeat (go_quiet (fail);try go_wp2)
        go_roundg k1
        case measure=>have:=HK1.out;omega
        case rel=>exact ⟨(wrap64 (x7_1 + 1)),(by first|rfl|(simp;done)|(simp [*];done)),H',⟨by have:=HK1.out;omega⟩,⟨by (with_reducible repeat (first|apply Kd.R_alloc|apply Kd.R_drewN|apply Kd.R_drew));exact HO_5.out⟩,⟨by (with_reducible repeat (first|apply Kd.R_alloc|apply Kd.R_drewN|apply Kd.R_drew));exact HO_6.out⟩,⟨by (with_reducible repeat (first|refine blk_drewN ?_ _|refine blk_drew ?_|refine blk_alloc ?_ _));exact BK207.out⟩,⟨by (with_reducible repeat (first|refine blk_drewN ?_ _|refine blk_drew ?_|refine blk_alloc ?_ _));exact BK208.out⟩,⟨by repeat (first|(with_reducible first|exact HB.out|apply below_alloc|apply pw_below_drewN|apply below_drew1|refine below_set ?_ GE207.out|refine below_set ?_ GE208.out)|exact HB.out)⟩⟩
     ·rw [if_neg c14] at H
      exact absurd H (by simp)
    ·rw [if_neg c13] at H
     exact absurd H (by simp)
   ·rw [if_neg c12] at H
    have c12b0 : decide (x7_1 < (y209.length : Int)) = false:=decide_eq_false c12
    clear c12
    obtain rfl:=Option.some.inj H
    obtain ⟨Ao23,co23,eo23⟩:=Kd.R_slice HO_5.out
    subst eo23
    go_wp2
    repeat (go_quiet (fail);try go_wp2)
    go_ret
    exact ⟨by first|rfl|(simp [errW_none,errW_some] <;> rfl)|(simp [*,errW_none,errW_some] <;> rfl),by repeat (first|(with_reducible first|exact HB.out|apply below_alloc|apply pw_below_drewN|apply below_drew1|refine below_set ?_ GE207.out|refine below_set ?_ GE208.out)|exact HB.out)⟩
mutual
def spec_l2Put.l0 : Nat → List (S67) → List (S67) → Bool → Int → Int → Int → Int → Int → Int → Option ((List (S67)))
 | 0, _, _, _, _, _, _, _, _, _ => none
 | k + 1, x0, x5, x6, x7, x220000, x220001, x220002, x220003, x220004 => if x7 < (x0.length : Int) then (if 0 ≤ x7 then ((spec_l2Comp.f k ((rd_T67 x0 x7).f0) ((rd_T67 x0 x7).f1) ((rd_T67 x0 x7).f2.f0) ((rd_T67 x0 x7).f2.f1) ((rd_T67 x0 x7).f3) x220000 x220001 x220002 x220003 x220004).bind fun t227 => (if x6 = true then (spec_l2Put.j1 k x0 x5 x6 x7 t227 false x220000 x220001 x220002 x220003 x220004) else (spec_l2Put.j1 k x0 x5 x6 x7 t227 (decide (t227 > 0)) x220000 x220001 x220002 x220003 x220004))) else (none)) else (if x6 = true then (some x5) else (if x5.length < 3518437208883 then (some (x5 ++ [(⟨x220000, x220001, (⟨x220002, x220003⟩ : S26), x220004⟩ : S67)])) else (none)))
def spec_l2Put.j1 : Nat → List (S67) → List (S67) → Bool → Int → Int → Bool → Int → Int → Int → Int → Int → Option ((List (S67)))
 | 0, _, _, _, _, _, _, _, _, _, _, _ => none
 | k + 1, x0, x5, x6, x7, x8, x27, x220000, x220001, x220002, x220003, x220004 => if x27 = true then (if x5.length < 3518437208883 then ((some (x5 ++ [(⟨x220000, x220001, (⟨x220002, x220003⟩ : S26), x220004⟩ : S67)] : List (S67))).bind fun y228 => (if 0 ≤ x7 then (if x7 < (x0.length : Int) then (if y228.length < 3518437208883 then (spec_l2Put.l0 k x0 (y228 ++ [(⟨(rd_T67 x0 x7).f0, (rd_T67 x0 x7).f1, (⟨(rd_T67 x0 x7).f2.f0, (rd_T67 x0 x7).f2.f1⟩ : S26), (rd_T67 x0 x7).f3⟩ : S67)]) true (wrap64 (x7 + 1)) x220000 x220001 x220002 x220003 x220004) else (none)) else (none)) else (none))) else (none)) else (if x6 = true then (if 0 ≤ x7 then (if x7 < (x0.length : Int) then (if x5.length < 3518437208883 then (spec_l2Put.l0 k x0 (x5 ++ [(⟨(rd_T67 x0 x7).f0, (rd_T67 x0 x7).f1, (⟨(rd_T67 x0 x7).f2.f0, (rd_T67 x0 x7).f2.f1⟩ : S26), (rd_T67 x0 x7).f3⟩ : S67)]) x6 (wrap64 (x7 + 1)) x220000 x220001 x220002 x220003 x220004) else (none)) else (none)) else (none)) else (if x8 = 0 then (if 0 ≤ x7 then (if x7 < (x0.length : Int) then (if x5.length < 3518437208883 then (spec_l2Put.l0 k x0 (x5 ++ [(⟨x220000, x220001, (⟨x220002, x220003⟩ : S26), wrap64 (x220004 + ((rd_T67 x0 x7).f3))⟩ : S67)]) true (wrap64 (x7 + 1)) x220000 x220001 x220002 x220003 (wrap64 (x220004 + ((rd_T67 x0 x7).f3)))) else (none)) else (none)) else (none)) else (if 0 ≤ x7 then (if x7 < (x0.length : Int) then (if x5.length < 3518437208883 then (spec_l2Put.l0 k x0 (x5 ++ [(⟨(rd_T67 x0 x7).f0, (rd_T67 x0 x7).f1, (⟨(rd_T67 x0 x7).f2.f0, (rd_T67 x0 x7).f2.f1⟩ : S26), (rd_T67 x0 x7).f3⟩ : S67)]) x6 (wrap64 (x7 + 1)) x220000 x220001 x220002 x220003 x220004) else (none)) else (none)) else (none))))
end
def spec_l2Put.f (k : Nat) (l0 : List (S67)) (a1_0 : Int) (a1_1 : Int) (a1_2 : Int) (a1_3 : Int) (a1_4 : Int) : Option ((List (S67))) := spec_l2Put.l0 k l0 (([] : List (S67))) false 0 a1_0 a1_1 a1_2 a1_3 a1_4
theorem spec_l2Put.mono_l : ∀ k,(∀ y0 y1 y2 y3 y4 y5 y6 y7 y8,LeO (spec_l2Put.l0 k y0 y1 y2 y3 y4 y5 y6 y7 y8) (spec_l2Put.l0 (k + 1) y0 y1 y2 y3 y4 y5 y6 y7 y8)) ∧ (∀ y0 y1 y2 y3 y4 y5 y6 y7 y8 y9 y10,LeO (spec_l2Put.j1 k y0 y1 y2 y3 y4 y5 y6 y7 y8 y9 y10) (spec_l2Put.j1 (k + 1) y0 y1 y2 y3 y4 y5 y6 y7 y8 y9 y10))
 | 0=>⟨fun _ _ _ _ _ _ _ _ _ r h=>by simp [spec_l2Put.l0] at h,fun _ _ _ _ _ _ _ _ _ _ _ r h=>by simp [spec_l2Put.j1] at h⟩
 | k + 1=>by
  obtain ⟨ih0,ih1⟩:=spec_l2Put.mono_l k
  refine ⟨?_,?_⟩
  ·intro y0 y1 y2 y3 y4 y5 y6 y7 y8
   unfold spec_l2Put.l0
   repeat' first
   | (with_reducible exact ih0 _ _ _ _ _ _ _ _ _)
   | (with_reducible exact ih1 _ _ _ _ _ _ _ _ _ _ _)
   | (with_reducible exact spec_l2Comp.mono _ _ _ _ _ _ _ _ _ _ _)
   | (with_reducible exact LeO.refl _)
   | (with_reducible exact LeO.none _)
   | (with_reducible refine LeO.ite ?_ ?_)
   | (with_reducible refine LeO.bind ?_ (fun _=>?_))
   | exact ih0 _ _ _ _ _ _ _ _ _
   | exact ih1 _ _ _ _ _ _ _ _ _ _ _
   | exact spec_l2Comp.mono _ _ _ _ _ _ _ _ _ _ _
   | exact LeO.none _
   | refine LeO.ite ?_ ?_
   | refine LeO.bind ?_ (fun _=>?_)
  ·intro y0 y1 y2 y3 y4 y5 y6 y7 y8 y9 y10
   unfold spec_l2Put.j1
   repeat' first
   | (with_reducible exact ih0 _ _ _ _ _ _ _ _ _)
   | (with_reducible exact ih1 _ _ _ _ _ _ _ _ _ _ _)
   | (with_reducible exact spec_l2Comp.mono _ _ _ _ _ _ _ _ _ _ _)
   | (with_reducible exact LeO.refl _)
   | (with_reducible exact LeO.none _)
   | (with_reducible refine LeO.ite ?_ ?_)
   | (with_reducible refine LeO.bind ?_ (fun _=>?_))
   | exact ih0 _ _ _ _ _ _ _ _ _
   | exact ih1 _ _ _ _ _ _ _ _ _ _ _
   | exact spec_l2Comp.mono _ _ _ _ _ _ _ _ _ _ _
   | exact LeO.none _
   | refine LeO.ite ?_ ?_
   | refine LeO.bind ?_ (fun _=>?_)
theorem spec_l2Put.mono : ∀ a0 a1 a2 a3 a4 a5 k,LeO (spec_l2Put.f k a0 a1 a2 a3 a4 a5) (spec_l2Put.f (k + 1) a0 a1 a2 a3 a4 a5):=by
 intro a0 a1 a2 a3 a4 a5 k
 obtain ⟨ih0,ih1⟩:=spec_l2Put.mono_l k
 unfold spec_l2Put.f
 repeat' first
   | (with_reducible exact ih0 _ _ _ _ _ _ _ _ _)
   | (with_reducible exact ih1 _ _ _ _ _ _ _ _ _ _ _)
   | (with_reducible exact spec_l2Comp.mono _ _ _ _ _ _ _ _ _ _ _)
   | (with_reducible exact LeO.refl _)
   | (with_reducible exact LeO.none _)
   | (with_reducible refine LeO.ite ?_ ?_)
   | (with_reducible refine LeO.bind ?_ (fun _=>?_))
   | exact ih0 _ _ _ _ _ _ _ _ _
   | exact ih1 _ _ _ _ _ _ _ _ _ _ _
   | exact spec_l2Comp.mono _ _ _ _ _ _ _ _ _ _ _
   | exact LeO.none _
   | refine LeO.ite ?_ ?_
   | refine LeO.bind ?_ (fun _=>?_)
def spec_l2Put.T11 : Bool × List (List Nat × List Nat) := (true, [([], []), ([0], [0]), ([], []), ([], []), ([2, 3], [2, 3]), ([4], [4]), ([5], [5]), ([1, 6], [1, 6]), ([0, 1, 2, 3, 4, 5, 6, 7], []), ([8, 7, 0, 1, 2, 3, 4, 5, 6, 7], [7, 8])])
def spec_l2Put.B11 : List Nat := [0, 1, 0, 0, 12, 28, 60, 127, 255, 511]
theorem spec_l2Put.tab11 : rtab .any (opsOf Try.f100 11) = spec_l2Put.T11:=by kernel_rfl
theorem spec_l2Put.bits11 : waitsOk spec_l2Put.T11.2 spec_l2Put.B11 = true:=by kernel_rfl
set_option maxHeartbeats 8000000 in
set_option maxRecDepth 100000 in
theorem spec_l2Put.calls (k : Nat) (A0 : Option Addr) (c0 : Nat) (l0 : List (S67)) (a1_0 : Int) (a1_1 : Int) (a1_2 : Int) (a1_3 : Int) (a1_4 : Int) (r : List (S67)) (w : World) (hr0 : Kd.C k67 w A0 l0.length l0) (hc0 : l0.length ≤ c0) (h : spec_l2Put.f k l0 a1_0 a1_1 a1_2 a1_3 a1_4 = some r) :
  Calls Try.prog 100 #[.slice A0 l0.length c0,.agg #[.int .i64 a1_0,.int .i64 a1_1,.int .i64 a1_2,.int .i64 a1_3,.int .i64 a1_4]] w fun e w'=>∃ v0_ : Value,e = .returned (v0_) ∧ Kd.R k67 67 w' w.heap.size (fun _=>True) v0_ r ∧ Below w.heap.size w w':=by
 have hu67:=Try.underlying67
 have HR0:=Aside0.mk hr0
 have HC0:=Aside0.mk hc0
 clear hr0 hc0
 have HB:=Aside0.mk (Below.refl w.heap.size w)
 have H : (spec_l2Put.l0 k l0 (([] : List (S67))) false 0 a1_0 a1_1 a1_2 a1_3 a1_4) = some r:=h
 clear h
 obtain ⟨y220,hy220⟩ : ∃ y_ : List (S67),y_ = (([] : List (S67))):=⟨_,rfl⟩
 replace H : (spec_l2Put.l0 k l0 y220 false 0 a1_0 a1_1 a1_2 a1_3 a1_4) = some r:=by first|(rw [hy220];with_reducible exact H)|(have H2_:=(Option.bind_some _ _).symm.trans H;rw [hy220];with_reducible exact H2_)|(have H2_:=(Option.bind_some _ _).symm.trans H;with_reducible exact H2_)|with_reducible exact H|(rw [hy220];exact H)|exact H
 have Ny220:=Aside0.mk hy220
 clear hy220
 have H':=Aside0.mk H
 clear H
 go_enter Try.func100,Try.ntmps100
 go_wp2_with (first|((with_reducible refine gate_dst (N:=3) rfl ?_);refine box_event ?hg (N:=3) ?hd (cs:=#[.int .i64 a1_0,.int .i64 a1_1,.int .i64 a1_2,.int .i64 a1_3,.int .i64 a1_4]) (t:=67) ?hr ?_;(case hd=>rfl);(case hg=>rfl);(case hr=>first|(go_simp;done)|(go_simp;rfl));intro gb219 hg w3 hbox hb;have n0_:=Aside0.mk (below_step (by repeat (first|(with_reducible first|exact HB.out|apply below_alloc|apply pw_below_drewN|apply below_drew1)|exact HB.out)) hb);have n1_:=Aside0.mk (hbox);have n2_:=Aside0.mk ((by rw [hg];exact (below_size (by repeat (first|(with_reducible first|exact HB.out|apply below_alloc|apply pw_below_drewN|apply below_drew1)|exact HB.out))) : w.heap.size ≤ gb219));have n3_:=n2_;clear HB;have HB:=n0_;have BK219:=n1_;have GW219:=n2_;have GE219:=n3_;clear n0_ n1_ n2_ n3_;clear hb hbox hg)|((with_reducible refine gate_dst (N:=9) rfl ?_);refine Kd.R_lit k67 _ 67 ?hg (N:=9) ?hd (xs:=([] : List (S67))) (inner:=[]) (ok:=fun _=>True) (okp:=fun _=>True) ?hr ?hp (fun _ hk=>hk) trivial (Below.refl _ _) (Nat.le_refl _) (by simp) ?_;(case hd=>rfl);(case hg=>rfl);(case hr=>first|(go_simp;done)|(go_simp;rfl));(case hp=>exact (Reps.none _ _));intro v221 w4 ho5 hb hg_ hnew_;clear hg_ hnew_;(first|rw [← Ny220.out] at ho5|(simp only [Int.reduceToNat] at ho5;rw [← Ny220.out] at ho5));have n0_:=Aside0.mk (Kd.R_lower (Kd.R_newB ho5 (g:=gb219) (o:=.cells #[.int .i64 a1_0,.int .i64 a1_1,.int .i64 a1_2,.int .i64 a1_3,.int .i64 a1_4] 67 (0,0)) (by (with_reducible repeat (first|refine blk_drewN ?_ _|refine blk_drew ?_|refine blk_alloc ?_ _));exact BK219.out)) (below_size (by repeat (first|(with_reducible first|exact HB.out|apply below_alloc|apply pw_below_drewN|apply below_drew1|refine below_set ?_ GE219.out)|exact HB.out))));have n1_:=Aside0.mk (blk_below (g:=gb219) (o:=.cells #[.int .i64 a1_0,.int .i64 a1_1,.int .i64 a1_2,.int .i64 a1_3,.int .i64 a1_4] 67 (0,0)) (by (with_reducible repeat (first|refine blk_drewN ?_ _|refine blk_drew ?_|refine blk_alloc ?_ _));exact BK219.out) hb);have n2_:=Aside0.mk (below_step (by repeat (first|(with_reducible first|exact HB.out|apply below_alloc|apply pw_below_drewN|apply below_drew1|refine below_set ?_ GE219.out)|exact HB.out)) hb);clear BK219;clear HB;have HO222:=n0_;have BK219:=n1_;have HB:=n2_;clear n0_ n1_ n2_;clear hb ho5))
 go_loopg [5,6,7] k (fun kq v5 v6 v7 w'=>∃ (x5_1 : List (S67)) (x6_1 : Bool) (x7_1 : Int) (x220004_1 : Int),v6 = .bool x6_1 ∧ v7 = .int .i64 x7_1 ∧ Aside0 (spec_l2Put.l0 kq l0 x5_1 x6_1 x7_1 a1_0 a1_1 a1_2 a1_3 x220004_1 = some r) ∧ Aside0 (kq ≤ k) ∧ Aside0 (Kd.R k67 67 w' w.heap.size (fun k_=>k_ ≠ gb219) v5 x5_1) ∧ Aside0 (w'.heap[gb219]? = some (.cells #[.int .i64 a1_0,.int .i64 a1_1,.int .i64 a1_2,.int .i64 a1_3,.int .i64 x220004_1] 67 (0,0))) ∧ Aside0 (Below w.heap.size w w'))
 case atStart=>exact ⟨(y220),(false),(0),(a1_4),(by first|rfl|(simp;done)|(simp [*];done)),(by first|rfl|(simp;done)|(simp [*];done)),H',⟨Nat.le_refl _⟩,⟨by (with_reducible repeat (first|apply Kd.R_alloc|apply Kd.R_drewN|apply Kd.R_drew));exact Kd.R_mono HO222.out (fun _ hk=>hk.2)⟩,⟨by (with_reducible repeat (first|refine blk_drewN ?_ _|refine blk_drew ?_|refine blk_alloc ?_ _));exact BK219.out⟩,⟨by repeat (first|(with_reducible first|exact HB.out|apply below_alloc|apply pw_below_drewN|apply below_drew1|refine below_set ?_ GE219.out)|exact HB.out)⟩⟩
 case round =>
  clear H'
  try clear c1
  try clear p2
  obtain ⟨x5_1,x6_1,x7_1,x220004_1,rfl,rfl,HA,HK1,HO_5,BK219,HB⟩:=hrel
  cases gk with
  | zero=>exact absurd HA.out (by simp [spec_l2Put.l0])
  | succ k1 =>
   have H:=HA.out
   clear HA
   simp only [spec_l2Put.l0] at H
   by_cases c6 : x7_1 < (l0.length : Int)
   ·rw [if_pos c6] at H
    have c6b0 : decide (x7_1 < (l0.length : Int)) = true:=decide_eq_true c6
    clear c6
    by_cases c7 : 0 ≤ x7_1
    ·rw [if_pos c7] at H
     have c7b0 : decide (0 ≤ x7_1) = true:=decide_eq_true c7
     clear c7
     replace H:=Option.bind_eq_some_iff.mp H
     obtain ⟨t227,A80,H⟩:=H
     replace H : (if x6_1 = true then (spec_l2Put.j1 k1 l0 x5_1 x6_1 x7_1 t227 false a1_0 a1_1 a1_2 a1_3 x220004_1) else (spec_l2Put.j1 k1 l0 x5_1 x6_1 x7_1 t227 (decide (t227 > 0)) a1_0 a1_1 a1_2 a1_3 x220004_1)) = some r:=H
     have A8:=Aside0.mk A80
     clear A80
     have HC9:=Aside0.mk H
     clear H
     try go_wp2
     have n0_:=Aside0.mk (Kd.R_drew HO_5.out)
     have n1_:=Aside0.mk (blk_drew BK219.out)
     have n2_:=Aside0.mk (below_drew1 HB.out)
     clear HO_5
     clear BK219
     clear HB
     have HO_5:=n0_
     have BK219:=n1_
     have HB:=n2_
     clear n0_ n1_ n2_
     have p226 : 0 ≤ (x7_1 : Int):=of_decide_eq_true (by first|(with_reducible assumption)|assumption)
     have q226 : x7_1 < (l0.length : Int):=of_decide_eq_true (by first|(with_reducible assumption)|assumption)
     obtain ⟨ad226,e226,hx226_0,hx226_1,hx226_2,hx226_3,hx226_4⟩:=at_T67 HR0.out x7_1 p226 q226
     have hw226_4:=hx226_4
     have hw226_3:=hx226_3
     have hw226_2:=hx226_2
     have hw226_1:=hx226_1
     have hw226_0:=hx226_0
     cases e226
     replace hx226_0:=(HB.out.cell (bl_ w _ hx226_0)).trans hx226_0
     replace hx226_1:=(HB.out.cell (bl_ w _ hx226_1)).trans hx226_1
     replace hx226_2:=(HB.out.cell (bl_ w _ hx226_2)).trans hx226_2
     replace hx226_3:=(HB.out.cell (bl_ w _ hx226_3)).trans hx226_3
     replace hx226_4:=(HB.out.cell (bl_ w _ hx226_4)).trans hx226_4
     replace p226:=eq_true p226
     replace q226:=eq_true q226
     refine start_ (n:=7) (S:=fun w'=>w'.cell? ⟨gb219,0,none⟩ = some (.int .i64 a1_0) ∧ w'.cell? ⟨gb219,1,none⟩ = some (.int .i64 a1_1) ∧ w'.cell? ⟨gb219,2,none⟩ = some (.int .i64 a1_2) ∧ w'.cell? ⟨gb219,3,none⟩ = some (.int .i64 a1_3) ∧ w'.cell? ⟨gb219,4,none⟩ = some (.int .i64 x220004_1) ∧ w'.cell? (ad226.add ((x7_1).toNat * 5)) = some (.int .i64 ((rd_T67 l0 x7_1).f0)) ∧ w'.cell? ⟨(ad226.add ((x7_1).toNat * 5)).block,(ad226.add ((x7_1).toNat * 5)).off + 1,none⟩ = some (.int .i64 ((rd_T67 l0 x7_1).f1)) ∧ w'.cell? ⟨(ad226.add ((x7_1).toNat * 5)).block,(ad226.add ((x7_1).toNat * 5)).off + 2,none⟩ = some (.int .i64 ((rd_T67 l0 x7_1).f2.f0)) ∧ w'.cell? ⟨(ad226.add ((x7_1).toNat * 5)).block,(ad226.add ((x7_1).toNat * 5)).off + 3,none⟩ = some (.int .i64 ((rd_T67 l0 x7_1).f2.f1)) ∧ w'.cell? ⟨(ad226.add ((x7_1).toNat * 5)).block,(ad226.add ((x7_1).toNat * 5)).off + 4,none⟩ = some (.int .i64 ((rd_T67 l0 x7_1).f3))) (ds:=[]) b7_0 (by kernel_rfl) rfl rfl ⟨(blk_cell BK219.out 0).trans rfl,(blk_cell BK219.out 1).trans rfl,(blk_cell BK219.out 2).trans rfl,(blk_cell BK219.out 3).trans rfl,(blk_cell BK219.out 4).trans rfl,(cb_ HB hw226_0:),(cb_ HB hw226_1:),(cb_ HB hw226_2:),(cb_ HB hw226_3:),(cb_ HB hw226_4:)⟩ (fun hHeld=>?_)
     generalize wr.drew = w10 at HO_5 BK219 HB hx226_0 hx226_1 hx226_2 hx226_3 hx226_4 hHeld ⊢
     refine pure_ (i:=0) (N:=some 16) (v:=?_) (a':=?_) b7_1 rfl rfl (by kernel_rfl) (fun _ _ _ h=>h) (Or.inl ⟨by rfl,?_⟩) ?_ ?_
     rotate_left
     ·intro w'
      go_simp
      with_reducible rfl
     rotate_left
     ·simp only [Act.put,sA_,sZ_,sS_,i64_w,i32_w]
      rfl
     refine pure_ (i:=1) (N:=some 17) (v:=?_) (a':=?_) b7_2 rfl rfl (by kernel_rfl) (fun _ _ _ h=>h) (Or.inl ⟨by rfl,?_⟩) ?_ ?_
     rotate_left
     ·intro w'
      go_simp
      with_reducible rfl
     rotate_left
     ·simp only [Act.put,sA_,sZ_,sS_,i64_w,i32_w]
      rfl
     refine pure_ (i:=2) (N:=some 18) (v:=?_) (a':=?_) b7_3 rfl rfl (by kernel_rfl) (fun _ _ _ h=>h) (Or.inl ⟨by rfl,?_⟩) ?_ ?_
     rotate_left
     ·intro w'
      go_simp
      with_reducible rfl
     rotate_left
     ·simp only [Act.put,sA_,sZ_,sS_,i64_w,i32_w]
      rfl
     refine take_ (i:=3) (N:=some 19) (v:=?_) (a':=?_) b7_4 rfl rfl (by kernel_rfl) (fun _ _ _ h=>h) (Or.inl ⟨by rfl,?_⟩) hHeld ?_ ?_
     rotate_left
     ·rintro w' ⟨s0,s1,s2,s3,s4,s5,s6,s7,s8,s9⟩
      go_simp
      with_reducible rfl
     rotate_left
     ·simp only [Act.put,sA_,sZ_,sS_,i64_w,i32_w]
      rfl
     refine take_ (i:=4) (N:=some 20) (v:=?_) (a':=?_) b7_5 rfl rfl (by kernel_rfl) (fun _ _ _ h=>h) (Or.inl ⟨by rfl,?_⟩) hHeld ?_ ?_
     rotate_left
     ·rintro w' ⟨s0,s1,s2,s3,s4,s5,s6,s7,s8,s9⟩
      go_simp
      with_reducible rfl
     rotate_left
     ·simp only [Act.put,sA_,sZ_,sS_,i64_w,i32_w]
      rfl
     refine one_ (i:=5) (N:=some 21) b7_6 rfl rfl (by kernel_rfl) (by decide) (fun K hK=>?_)
     refine goes_ Try.func64 (by kernel_rfl) rfl #[.agg #[.int .i64 ((rd_T67 l0 x7_1).f0),.int .i64 ((rd_T67 l0 x7_1).f1),.int .i64 ((rd_T67 l0 x7_1).f2.f0),.int .i64 ((rd_T67 l0 x7_1).f2.f1),.int .i64 ((rd_T67 l0 x7_1).f3)],.agg #[.int .i64 a1_0,.int .i64 a1_1,.int .i64 a1_2,.int .i64 a1_3,.int .i64 x220004_1]] (by rfl) rfl rfl (by (try simp only [List.map_toArray,List.map_cons,List.map_nil]);first|done|rfl|(simp only [List.length_drop,List.length_take];rfl)) ?_
     with_reducible refine (spec_l2Comp.calls k1 ((rd_T67 l0 x7_1).f0) ((rd_T67 l0 x7_1).f1) ((rd_T67 l0 x7_1).f2.f0) ((rd_T67 l0 x7_1).f2.f1) ((rd_T67 l0 x7_1).f3) a1_0 a1_1 a1_2 a1_3 x220004_1 t227 _ A8.out).mono ?_
     rintro e w11 ⟨rfl,hb⟩
     refine ⟨_,rfl,?_⟩
     have n0_:=Aside0.mk (Kd.R_below (by (with_reducible repeat (first|apply Kd.R_alloc|apply Kd.R_drewN|apply Kd.R_drew));exact HO_5.out) hb)
     have n1_:=Aside0.mk (blk_below (g:=gb219) (o:=.cells #[.int .i64 a1_0,.int .i64 a1_1,.int .i64 a1_2,.int .i64 a1_3,.int .i64 x220004_1] 67 (0,0)) (by (with_reducible repeat (first|refine blk_drewN ?_ _|refine blk_drew ?_|refine blk_alloc ?_ _));exact BK219.out) hb)
     have n2_:=Aside0.mk (below_step (by repeat (first|(with_reducible first|exact HB.out|apply below_alloc|apply pw_below_drewN|apply below_drew1|refine below_set ?_ GE219.out)|exact HB.out)) hb)
     clear HO_5
     clear BK219
     clear HB
     have HO_5:=n0_
     have BK219:=n1_
     have HB:=n2_
     clear n0_ n1_ n2_
     (try clear hb)
     (try clear hb2)
     (try clear hk)
     (try clear hi)
     refine hK.out _ _ ⟨(blk_cell BK219.out 0).trans rfl,(blk_cell BK219.out 1).trans rfl,(blk_cell BK219.out 2).trans rfl,(blk_cell BK219.out 3).trans rfl,(blk_cell BK219.out 4).trans rfl,(cb_ HB hw226_0:),(cb_ HB hw226_1:),(cb_ HB hw226_2:),(cb_ HB hw226_3:),(cb_ HB hw226_4:)⟩ (fun hHeld=>?_)
     clear hK K
     refine norm_ (a':=?_) ?_ ?_
     rotate_left
     ·show Act.put _ (some 21) _ = _
      simp only [Act.put,sA_,sZ_,sS_,i64_w,i32_w]
      rfl
     refine pure_ (i:=6) (N:=some 8) (v:=?_) (a':=?_) b7_7 rfl rfl (by kernel_rfl) (fun _ _ _ h=>h) (Or.inl ⟨by rfl,?_⟩) ?_ ?_
     rotate_left
     ·intro w'
      go_simp
      with_reducible rfl
     rotate_left
     ·simp only [Act.put,sA_,sZ_,sS_,i64_w,i32_w]
      rfl
     refine done_ (by kernel_rfl) ?_
     go_upto_region 7 with (fail)
     go_cut [27] (fun v27 wc=>∃ (kq : Nat) (x27_8 : Bool),v27 = .bool x27_8 ∧ Aside0 (spec_l2Put.j1 kq l0 x5_1 x6_1 x7_1 t227 x27_8 a1_0 a1_1 a1_2 a1_3 x220004_1 = some r) ∧ Aside0 (kq ≤ k1) ∧ Aside0 (Kd.R k67 67 wc w.heap.size (fun k_=>k_ ≠ gb219) u5 x5_1) ∧ Aside0 (wc.heap[gb219]? = some (.cells #[.int .i64 a1_0,.int .i64 a1_1,.int .i64 a1_2,.int .i64 a1_3,.int .i64 x220004_1] 67 (0,0))) ∧ Aside0 (Below w.heap.size w wc))
     case first =>
      have H:=HC9.out
      clear HC9
      by_cases c12 : x6_1 = true
      ·subst c12
       have H1 : (spec_l2Put.j1 k1 l0 x5_1 true x7_1 t227 false a1_0 a1_1 a1_2 a1_3 x220004_1) = some r:=by rw [if_pos rfl] at H;exact H
       clear H
       have H:=H1
       clear H1
       have H':=Aside0.mk H
       clear H
       go_wp2
       go_meet
       case rel=>exact ⟨_,(false),(by first|rfl|(simp;done)|(simp [*];done)),H',⟨by have:=HK1.out;first|omega|exact Nat.le_refl _⟩,⟨by (with_reducible repeat (first|apply Kd.R_alloc|apply Kd.R_drewN|apply Kd.R_drew));exact HO_5.out⟩,⟨by (with_reducible repeat (first|refine blk_drewN ?_ _|refine blk_drew ?_|refine blk_alloc ?_ _));exact BK219.out⟩,⟨by repeat (first|(with_reducible first|exact HB.out|apply below_alloc|apply pw_below_drewN|apply below_drew1|refine below_set ?_ GE219.out)|exact HB.out)⟩⟩
      ·replace c12:=Bool.eq_false_iff.mpr c12
       subst c12
       have H1 : (spec_l2Put.j1 k1 l0 x5_1 false x7_1 t227 (decide (t227 > 0)) a1_0 a1_1 a1_2 a1_3 x220004_1) = some r:=by rw [if_neg (show ¬ (false = true) by decide)] at H;exact H
       clear H
       have H:=H1
       clear H1
       have H':=Aside0.mk H
       clear H
       go_wp2
       go_meet
       case rel=>exact ⟨_,(decide (t227 > 0)),(by first|rfl|(simp;done)|(simp [*];done)),H',⟨by have:=HK1.out;first|omega|exact Nat.le_refl _⟩,⟨by (with_reducible repeat (first|apply Kd.R_alloc|apply Kd.R_drewN|apply Kd.R_drew));exact HO_5.out⟩,⟨by (with_reducible repeat (first|refine blk_drewN ?_ _|refine blk_drew ?_|refine blk_alloc ?_ _));exact BK219.out⟩,⟨by repeat (first|(with_reducible first|exact HB.out|apply below_alloc|apply pw_below_drewN|apply below_drew1|refine below_set ?_ GE219.out)|exact HB.out)⟩⟩
     case rest =>
      clear HC9
      try clear c1
      try clear p2
      try clear q2
      try clear hx2
      try clear c6
      try clear c6b0
      try clear c7
      try clear c7b0
      try clear c10
      try clear c12
      try clear hx226_0
      try clear hx226_1
      try clear hx226_2
      try clear hx226_3
      try clear hx226_4
      try clear p2
      try clear p226
      try clear q226
      obtain ⟨kq,x27_8,rfl,HA,HJ8,HO_5,BK219,HB⟩:=hcut
      cases kq with
      | zero=>exact absurd HA.out (by simp [spec_l2Put.j1])
      | succ kj8 =>
       have H:=HA.out
       clear HA
       simp only [spec_l2Put.j1] at H
       by_cases c13 : x27_8 = true
       ·subst c13
        have H1 : (if x5_1.length < 3518437208883 then ((some (x5_1 ++ [(⟨a1_0,a1_1,(⟨a1_2,a1_3⟩ : S26),x220004_1⟩ : S67)] : List (S67))).bind fun y228=>(if 0 ≤ x7_1 then (if x7_1 < (l0.length : Int) then (if y228.length < 3518437208883 then (spec_l2Put.l0 kj8 l0 (y228 ++ [(⟨(rd_T67 l0 x7_1).f0,(rd_T67 l0 x7_1).f1,(⟨(rd_T67 l0 x7_1).f2.f0,(rd_T67 l0 x7_1).f2.f1⟩ : S26),(rd_T67 l0 x7_1).f3⟩ : S67)]) true (wrap64 (x7_1 + 1)) a1_0 a1_1 a1_2 a1_3 x220004_1) else (none)) else (none)) else (none))) else (none)) = some r:=by rw [if_pos rfl] at H;exact H
        clear H
        have H:=H1
        clear H1
        by_cases c14 : x5_1.length < 3518437208883
        ·rw [if_pos c14] at H
         have LMc14:=Aside0.mk c14
         clear c14
         obtain ⟨y228,hy228⟩ : ∃ y_ : List (S67),y_ = (x5_1 ++ [(⟨a1_0,a1_1,(⟨a1_2,a1_3⟩ : S26),x220004_1⟩ : S67)]):=⟨_,rfl⟩
         replace H : (if 0 ≤ x7_1 then (if x7_1 < (l0.length : Int) then (if y228.length < 3518437208883 then (spec_l2Put.l0 kj8 l0 (y228 ++ [(⟨(rd_T67 l0 x7_1).f0,(rd_T67 l0 x7_1).f1,(⟨(rd_T67 l0 x7_1).f2.f0,(rd_T67 l0 x7_1).f2.f1⟩ : S26),(rd_T67 l0 x7_1).f3⟩ : S67)]) true (wrap64 (x7_1 + 1)) a1_0 a1_1 a1_2 a1_3 x220004_1) else (none)) else (none)) else (none)) = some r:=by first|(rw [hy228];with_reducible exact H)|(have H2_:=(Option.bind_some _ _).symm.trans H;rw [hy228];with_reducible exact H2_)|(have H2_:=(Option.bind_some _ _).symm.trans H;with_reducible exact H2_)|with_reducible exact H|(rw [hy228];exact H)|exact H
         have Ny228:=Aside0.mk hy228
         clear hy228
         by_cases c15 : 0 ≤ x7_1
         ·rw [if_pos c15] at H
          have c15b0 : decide (0 ≤ x7_1) = true:=decide_eq_true c15
          clear c15
          by_cases c16 : x7_1 < (l0.length : Int)
          ·rw [if_pos c16] at H
           have c16b0 : decide (x7_1 < (l0.length : Int)) = true:=decide_eq_true c16
           clear c16
           by_cases c17 : y228.length < 3518437208883
           ·rw [if_pos c17] at H
            have LMc17:=Aside0.mk c17
            clear c17
            obtain ⟨y232,hy232⟩ : ∃ y_ : List (S67),y_ = (y228 ++ [(⟨(rd_T67 l0 x7_1).f0,(rd_T67 l0 x7_1).f1,(⟨(rd_T67 l0 x7_1).f2.f0,(rd_T67 l0 x7_1).f2.f1⟩ : S26),(rd_T67 l0 x7_1).f3⟩ : S67)]):=⟨_,rfl⟩
            replace H : (spec_l2Put.l0 kj8 l0 y232 true (wrap64 (x7_1 + 1)) a1_0 a1_1 a1_2 a1_3 x220004_1) = some r:=by first|(rw [hy232];with_reducible exact H)|(have H2_:=(Option.bind_some _ _).symm.trans H;rw [hy232];with_reducible exact H2_)|(have H2_:=(Option.bind_some _ _).symm.trans H;with_reducible exact H2_)|with_reducible exact H|(rw [hy232];exact H)|exact H
            have Ny232:=Aside0.mk hy232
            clear hy232
            have H':=Aside0.mk H
            clear H
            have hcz18_0 : wc.cell? ⟨gb219,0,none⟩ = some (.int .i64 a1_0):=(blk_cell BK219.out 0).trans rfl
            have hcz18_1 : wc.cell? ⟨gb219,1,none⟩ = some (.int .i64 a1_1):=(blk_cell BK219.out 1).trans rfl
            have hcz18_2 : wc.cell? ⟨gb219,2,none⟩ = some (.int .i64 a1_2):=(blk_cell BK219.out 2).trans rfl
            have hcz18_3 : wc.cell? ⟨gb219,3,none⟩ = some (.int .i64 a1_3):=(blk_cell BK219.out 3).trans rfl
            have hcz18_4 : wc.cell? ⟨gb219,4,none⟩ = some (.int .i64 x220004_1):=(blk_cell BK219.out 4).trans rfl
            have hfz18_0:=blk_frozen BK219.out 0
            have hfz18_1:=blk_frozen BK219.out 1
            have hfz18_2:=blk_frozen BK219.out 2
            have hfz18_3:=blk_frozen BK219.out 3
            have hfz18_4:=blk_frozen BK219.out 4
            go_wp2_with (first|((with_reducible refine gate_builtin (b:=.append) (xs:=#[.tmp 28,.tmp 30]) rfl ?_);at_builtin;refine Kd.R_append k67 (w0:=w) w.heap.size rfl (.tmp 28) (.tmp 30) 45 67 (.agg #[(.int .i64 0),(.int .i64 0),(.int .i64 0),(.int .i64 0),(.int .i64 0)]) 40 rfl Try.underlying45 info67 rfl (by decide) (by omega) u5 x5_1 (⟨a1_0,a1_1,(⟨a1_2,a1_3⟩ : S26),x220004_1⟩ : S67) [.int .i64 a1_0,.int .i64 a1_1,.int .i64 a1_2,.int .i64 a1_3,.int .i64 x220004_1] (fun k_=>k_ ≠ gb219) (fun _=>False) rfl rfl ?aP (fun _ hk=>hk.elim) ?aF ?aO ?aB ?aS ?aL ?_;(case aP=>exact k67_mkM _ _ _ (⟨a1_0,a1_1,(⟨a1_2,a1_3⟩ : S26),x220004_1⟩ : S67));(case aB=>exact (by repeat (first|(with_reducible first|exact HB.out|apply below_alloc|apply pw_below_drewN|apply below_drew1|refine below_set ?_ GE219.out)|exact HB.out)));(case aF=>exact (fun k_ hk=>Kd.freshB (g:=gb219) (o:=.cells #[.int .i64 a1_0,.int .i64 a1_1,.int .i64 a1_2,.int .i64 a1_3,.int .i64 x220004_1] 67 (0,0)) (by (with_reducible repeat (first|refine blk_drewN ?_ _|refine blk_drew ?_|refine blk_alloc ?_ _));exact BK219.out) k_ hk));(case aO=>exact (by (with_reducible repeat (first|apply Kd.R_alloc|apply Kd.R_drewN|apply Kd.R_drew));exact HO_5.out));(case aS=>exact (below_size (by repeat (first|(with_reducible first|exact HB.out|apply below_alloc|apply pw_below_drewN|apply below_drew1|refine below_set ?_ GE219.out)|exact HB.out))));(case aL=>have:=LMc14.out;omega);intro v229 w19 ho hb hg hat;rw [← Ny228.out] at ho;have n0_:=Aside0.mk (blk_grown (g:=gb219) (o:=.cells #[.int .i64 a1_0,.int .i64 a1_1,.int .i64 a1_2,.int .i64 a1_3,.int .i64 x220004_1] 67 (0,0)) (by (with_reducible repeat (first|refine blk_drewN ?_ _|refine blk_drew ?_|refine blk_alloc ?_ _));exact BK219.out) hg (Kd.R_away HO_5.out (fun _ hk=>hk)));have n1_:=Aside0.mk (hb);have n2_:=Aside0.mk (ho);clear BK219;clear HB;clear HO_5;have BK219:=n0_;have HB:=n1_;have HO230:=n2_;clear n0_ n1_ n2_;clear ho hb hg hat;have p231 : 0 ≤ (x7_1 : Int):=of_decide_eq_true (by first|(with_reducible assumption)|assumption);have q231 : x7_1 < (l0.length : Int):=of_decide_eq_true (by first|(with_reducible assumption)|assumption);obtain ⟨ad231,e231,hx231_0,hx231_1,hx231_2,hx231_3,hx231_4⟩:=at_T67 HR0.out x7_1 p231 q231;obtain rfl : ad226 = ad231:=(by injection e231);replace hx231_0:=(HB.out.cell (bl_ w _ hx231_0)).trans hx231_0;replace hx231_1:=(HB.out.cell (bl_ w _ hx231_1)).trans hx231_1;replace hx231_2:=(HB.out.cell (bl_ w _ hx231_2)).trans hx231_2;replace hx231_3:=(HB.out.cell (bl_ w _ hx231_3)).trans hx231_3;replace hx231_4:=(HB.out.cell (bl_ w _ hx231_4)).trans hx231_4;replace p231:=eq_true p231;replace q231:=eq_true q231)|((with_reducible refine gate_builtin (b:=.append) (xs:=#[.tmp 51,.tmp 56]) rfl ?_);at_builtin;refine Kd.R_append k67 (w0:=w) w.heap.size rfl (.tmp 51) (.tmp 56) 45 67 (.agg #[(.int .i64 0),(.int .i64 0),(.int .i64 0),(.int .i64 0),(.int .i64 0)]) 40 rfl Try.underlying45 info67 rfl (by decide) (by omega) v229 y228 (⟨(rd_T67 l0 x7_1).f0,(rd_T67 l0 x7_1).f1,(⟨(rd_T67 l0 x7_1).f2.f0,(rd_T67 l0 x7_1).f2.f1⟩ : S26),(rd_T67 l0 x7_1).f3⟩ : S67) [.int .i64 ((rd_T67 l0 x7_1).f0),.int .i64 ((rd_T67 l0 x7_1).f1),.int .i64 ((rd_T67 l0 x7_1).f2.f0),.int .i64 ((rd_T67 l0 x7_1).f2.f1),.int .i64 ((rd_T67 l0 x7_1).f3)] (fun k_=>k_ ≠ gb219) (fun _=>False) rfl rfl ?aP (fun _ hk=>hk.elim) ?aF ?aO ?aB ?aS ?aL ?_;(case aP=>exact k67_mkM _ _ _ (⟨(rd_T67 l0 x7_1).f0,(rd_T67 l0 x7_1).f1,(⟨(rd_T67 l0 x7_1).f2.f0,(rd_T67 l0 x7_1).f2.f1⟩ : S26),(rd_T67 l0 x7_1).f3⟩ : S67));(case aB=>exact (by repeat (first|(with_reducible first|exact HB.out|apply below_alloc|apply pw_below_drewN|apply below_drew1|refine below_set ?_ GE219.out)|exact HB.out)));(case aF=>exact (fun k_ hk=>Kd.freshB (g:=gb219) (o:=.cells #[.int .i64 a1_0,.int .i64 a1_1,.int .i64 a1_2,.int .i64 a1_3,.int .i64 x220004_1] 67 (0,0)) (by (with_reducible repeat (first|refine blk_drewN ?_ _|refine blk_drew ?_|refine blk_alloc ?_ _));exact BK219.out) k_ hk));(case aO=>exact (by (with_reducible repeat (first|apply Kd.R_alloc|apply Kd.R_drewN|apply Kd.R_drew));exact HO230.out));(case aS=>exact (below_size (by repeat (first|(with_reducible first|exact HB.out|apply below_alloc|apply pw_below_drewN|apply below_drew1|refine below_set ?_ GE219.out)|exact HB.out))));(case aL=>have:=LMc17.out;omega);intro v233 w20 ho hb hg hat;rw [← Ny232.out] at ho;have n0_:=Aside0.mk (blk_grown (g:=gb219) (o:=.cells #[.int .i64 a1_0,.int .i64 a1_1,.int .i64 a1_2,.int .i64 a1_3,.int .i64 x220004_1] 67 (0,0)) (by (with_reducible repeat (first|refine blk_drewN ?_ _|refine blk_drew ?_|refine blk_alloc ?_ _));exact BK219.out) hg (Kd.R_away HO230.out (fun _ hk=>hk)));have n1_:=Aside0.mk (hb);have n2_:=Aside0.mk (ho);clear BK219;clear HB;clear HO230;have BK219:=n0_;have HB:=n1_;have HO234:=n2_;clear n0_ n1_ n2_;clear ho hb hg hat))
            go_roundg kj8
            case measure=>have:=HK1.out;have:=HJ8.out;omega
            case rel=>exact ⟨(y232),(true),(wrap64 (x7_1 + 1)),(x220004_1),(by first|rfl|(simp;done)|(simp [*];done)),(by first|rfl|(simp;done)|(simp [*];done)),H',⟨by have:=HK1.out;have:=HJ8.out;omega⟩,⟨by (with_reducible repeat (first|apply Kd.R_alloc|apply Kd.R_drewN|apply Kd.R_drew));exact HO234.out⟩,⟨by (with_reducible repeat (first|refine blk_drewN ?_ _|refine blk_drew ?_|refine blk_alloc ?_ _));exact BK219.out⟩,⟨by repeat (first|(with_reducible first|exact HB.out|apply below_alloc|apply pw_below_drewN|apply below_drew1|refine below_set ?_ GE219.out)|exact HB.out)⟩⟩
           ·rw [if_neg c17] at H
            exact absurd H (by simp)
          ·rw [if_neg c16] at H
           exact absurd H (by simp)
         ·rw [if_neg c15] at H
          exact absurd H (by simp)
        ·rw [if_neg c14] at H
         exact absurd H (by simp)
       ·replace c13:=Bool.eq_false_iff.mpr c13
        subst c13
        have H1 : (if x6_1 = true then (if 0 ≤ x7_1 then (if x7_1 < (l0.length : Int) then (if x5_1.length < 3518437208883 then (spec_l2Put.l0 kj8 l0 (x5_1 ++ [(⟨(rd_T67 l0 x7_1).f0,(rd_T67 l0 x7_1).f1,(⟨(rd_T67 l0 x7_1).f2.f0,(rd_T67 l0 x7_1).f2.f1⟩ : S26),(rd_T67 l0 x7_1).f3⟩ : S67)]) x6_1 (wrap64 (x7_1 + 1)) a1_0 a1_1 a1_2 a1_3 x220004_1) else (none)) else (none)) else (none)) else (if t227 = 0 then (if 0 ≤ x7_1 then (if x7_1 < (l0.length : Int) then (if x5_1.length < 3518437208883 then (spec_l2Put.l0 kj8 l0 (x5_1 ++ [(⟨a1_0,a1_1,(⟨a1_2,a1_3⟩ : S26),wrap64 (x220004_1 + ((rd_T67 l0 x7_1).f3))⟩ : S67)]) true (wrap64 (x7_1 + 1)) a1_0 a1_1 a1_2 a1_3 (wrap64 (x220004_1 + ((rd_T67 l0 x7_1).f3)))) else (none)) else (none)) else (none)) else (if 0 ≤ x7_1 then (if x7_1 < (l0.length : Int) then (if x5_1.length < 3518437208883 then (spec_l2Put.l0 kj8 l0 (x5_1 ++ [(⟨(rd_T67 l0 x7_1).f0,(rd_T67 l0 x7_1).f1,(⟨(rd_T67 l0 x7_1).f2.f0,(rd_T67 l0 x7_1).f2.f1⟩ : S26),(rd_T67 l0 x7_1).f3⟩ : S67)]) x6_1 (wrap64 (x7_1 + 1)) a1_0 a1_1 a1_2 a1_3 x220004_1) else (none)) else (none)) else (none)))) = some r:=by rw [if_neg (show ¬ (false = true) by decide)] at H;exact H
        clear H
        have H:=H1
        clear H1
        by_cases c21 : x6_1 = true
        ·subst c21
         have H1 : (if 0 ≤ x7_1 then (if x7_1 < (l0.length : Int) then (if x5_1.length < 3518437208883 then (spec_l2Put.l0 kj8 l0 (x5_1 ++ [(⟨(rd_T67 l0 x7_1).f0,(rd_T67 l0 x7_1).f1,(⟨(rd_T67 l0 x7_1).f2.f0,(rd_T67 l0 x7_1).f2.f1⟩ : S26),(rd_T67 l0 x7_1).f3⟩ : S67)]) true (wrap64 (x7_1 + 1)) a1_0 a1_1 a1_2 a1_3 x220004_1) else (none)) else (none)) else (none)) = some r:=by rw [if_pos rfl] at H;exact H
         clear H
         have H:=H1
         clear H1
         by_cases c22 : 0 ≤ x7_1
         ·rw [if_pos c22] at H
          have c22b0 : decide (0 ≤ x7_1) = true:=decide_eq_true c22
          clear c22
          by_cases c23 : x7_1 < (l0.length : Int)
          ·rw [if_pos c23] at H
           have c23b0 : decide (x7_1 < (l0.length : Int)) = true:=decide_eq_true c23
           clear c23
           by_cases c24 : x5_1.length < 3518437208883
           ·rw [if_pos c24] at H
            have LMc24:=Aside0.mk c24
            clear c24
            obtain ⟨y236,hy236⟩ : ∃ y_ : List (S67),y_ = (x5_1 ++ [(⟨(rd_T67 l0 x7_1).f0,(rd_T67 l0 x7_1).f1,(⟨(rd_T67 l0 x7_1).f2.f0,(rd_T67 l0 x7_1).f2.f1⟩ : S26),(rd_T67 l0 x7_1).f3⟩ : S67)]):=⟨_,rfl⟩
            replace H : (spec_l2Put.l0 kj8 l0 y236 true (wrap64 (x7_1 + 1)) a1_0 a1_1 a1_2 a1_3 x220004_1) = some r:=by first|(rw [hy236];with_reducible exact H)|(have H2_:=(Option.bind_some _ _).symm.trans H;rw [hy236];with_reducible exact H2_)|(have H2_:=(Option.bind_some _ _).symm.trans H;with_reducible exact H2_)|with_reducible exact H|(rw [hy236];exact H)|exact H
            have Ny236:=Aside0.mk hy236
            clear hy236
            have H':=Aside0.mk H
            clear H
            have p235 : 0 ≤ (x7_1 : Int):=of_decide_eq_true (by first|(with_reducible assumption)|assumption)
            have q235 : x7_1 < (l0.length : Int):=of_decide_eq_true (by first|(with_reducible assumption)|assumption)
            obtain ⟨ad235,e235,hx235_0,hx235_1,hx235_2,hx235_3,hx235_4⟩:=at_T67 HR0.out x7_1 p235 q235
            obtain rfl : ad226 = ad235:=(by injection e235)
            replace hx235_0:=(HB.out.cell (bl_ w _ hx235_0)).trans hx235_0
            replace hx235_1:=(HB.out.cell (bl_ w _ hx235_1)).trans hx235_1
            replace hx235_2:=(HB.out.cell (bl_ w _ hx235_2)).trans hx235_2
            replace hx235_3:=(HB.out.cell (bl_ w _ hx235_3)).trans hx235_3
            replace hx235_4:=(HB.out.cell (bl_ w _ hx235_4)).trans hx235_4
            replace p235:=eq_true p235
            replace q235:=eq_true q235
            go_wp2_with (first|((with_reducible refine gate_builtin (b:=.append) (xs:=#[.tmp 51,.tmp 56]) rfl ?_);at_builtin;refine Kd.R_append k67 (w0:=w) w.heap.size rfl (.tmp 51) (.tmp 56) 45 67 (.agg #[(.int .i64 0),(.int .i64 0),(.int .i64 0),(.int .i64 0),(.int .i64 0)]) 40 rfl Try.underlying45 info67 rfl (by decide) (by omega) u5 x5_1 (⟨(rd_T67 l0 x7_1).f0,(rd_T67 l0 x7_1).f1,(⟨(rd_T67 l0 x7_1).f2.f0,(rd_T67 l0 x7_1).f2.f1⟩ : S26),(rd_T67 l0 x7_1).f3⟩ : S67) [.int .i64 ((rd_T67 l0 x7_1).f0),.int .i64 ((rd_T67 l0 x7_1).f1),.int .i64 ((rd_T67 l0 x7_1).f2.f0),.int .i64 ((rd_T67 l0 x7_1).f2.f1),.int .i64 ((rd_T67 l0 x7_1).f3)] (fun k_=>k_ ≠ gb219) (fun _=>False) rfl rfl ?aP (fun _ hk=>hk.elim) ?aF ?aO ?aB ?aS ?aL ?_;(case aP=>exact k67_mkM _ _ _ (⟨(rd_T67 l0 x7_1).f0,(rd_T67 l0 x7_1).f1,(⟨(rd_T67 l0 x7_1).f2.f0,(rd_T67 l0 x7_1).f2.f1⟩ : S26),(rd_T67 l0 x7_1).f3⟩ : S67));(case aB=>exact (by repeat (first|(with_reducible first|exact HB.out|apply below_alloc|apply pw_below_drewN|apply below_drew1|refine below_set ?_ GE219.out)|exact HB.out)));(case aF=>exact (fun k_ hk=>Kd.freshB (g:=gb219) (o:=.cells #[.int .i64 a1_0,.int .i64 a1_1,.int .i64 a1_2,.int .i64 a1_3,.int .i64 x220004_1] 67 (0,0)) (by (with_reducible repeat (first|refine blk_drewN ?_ _|refine blk_drew ?_|refine blk_alloc ?_ _));exact BK219.out) k_ hk));(case aO=>exact (by (with_reducible repeat (first|apply Kd.R_alloc|apply Kd.R_drewN|apply Kd.R_drew));exact HO_5.out));(case aS=>exact (below_size (by repeat (first|(with_reducible first|exact HB.out|apply below_alloc|apply pw_below_drewN|apply below_drew1|refine below_set ?_ GE219.out)|exact HB.out))));(case aL=>have:=LMc24.out;omega);intro v237 w25 ho hb hg hat;rw [← Ny236.out] at ho;have n0_:=Aside0.mk (blk_grown (g:=gb219) (o:=.cells #[.int .i64 a1_0,.int .i64 a1_1,.int .i64 a1_2,.int .i64 a1_3,.int .i64 x220004_1] 67 (0,0)) (by (with_reducible repeat (first|refine blk_drewN ?_ _|refine blk_drew ?_|refine blk_alloc ?_ _));exact BK219.out) hg (Kd.R_away HO_5.out (fun _ hk=>hk)));have n1_:=Aside0.mk (hb);have n2_:=Aside0.mk (ho);clear BK219;clear HB;clear HO_5;have BK219:=n0_;have HB:=n1_;have HO238:=n2_;clear n0_ n1_ n2_;clear ho hb hg hat))
            go_roundg kj8
            case measure=>have:=HK1.out;have:=HJ8.out;omega
            case rel=>exact ⟨(y236),(true),(wrap64 (x7_1 + 1)),(x220004_1),(by first|rfl|(simp;done)|(simp [*];done)),(by first|rfl|(simp;done)|(simp [*];done)),H',⟨by have:=HK1.out;have:=HJ8.out;omega⟩,⟨by (with_reducible repeat (first|apply Kd.R_alloc|apply Kd.R_drewN|apply Kd.R_drew));exact HO238.out⟩,⟨by (with_reducible repeat (first|refine blk_drewN ?_ _|refine blk_drew ?_|refine blk_alloc ?_ _));exact BK219.out⟩,⟨by repeat (first|(with_reducible first|exact HB.out|apply below_alloc|apply pw_below_drewN|apply below_drew1|refine below_set ?_ GE219.out)|exact HB.out)⟩⟩
           ·rw [if_neg c24] at H
            exact absurd H (by simp)
          ·rw [if_neg c23] at H
           exact absurd H (by simp)
         ·rw [if_neg c22] at H
          exact absurd H (by simp)
        ·replace c21:=Bool.eq_false_iff.mpr c21
         subst c21
         have H1 : (if t227 = 0 then (if 0 ≤ x7_1 then (if x7_1 < (l0.length : Int) then (if x5_1.length < 3518437208883 then (spec_l2Put.l0 kj8 l0 (x5_1 ++ [(⟨a1_0,a1_1,(⟨a1_2,a1_3⟩ : S26),wrap64 (x220004_1 + ((rd_T67 l0 x7_1).f3))⟩ : S67)]) true (wrap64 (x7_1 + 1)) a1_0 a1_1 a1_2 a1_3 (wrap64 (x220004_1 + ((rd_T67 l0 x7_1).f3)))) else (none)) else (none)) else (none)) else (if 0 ≤ x7_1 then (if x7_1 < (l0.length : Int) then (if x5_1.length < 3518437208883 then (spec_l2Put.l0 kj8 l0 (x5_1 ++ [(⟨(rd_T67 l0 x7_1).f0,(rd_T67 l0 x7_1).f1,(⟨(rd_T67 l0 x7_1).f2.f0,(rd_T67 l0 x7_1).f2.f1⟩ : S26),(rd_T67 l0 x7_1).f3⟩ : S67)]) false (wrap64 (x7_1 + 1)) a1_0 a1_1 a1_2 a1_3 x220004_1) else (none)) else (none)) else (none))) = some r:=by rw [if_neg (show ¬ (false = true) by decide)] at H;exact H
         clear H
         have H:=H1
         clear H1
         by_cases c26 : t227 = 0
         ·rw [if_pos c26] at H
          have c26b0 : (t227 == 0) = true:=beq_iff_eq.mpr c26
          have c26b1 : (t227 != 0) = false:=bne_eq_false_iff_eq.mpr c26
          clear c26
          by_cases c27 : 0 ≤ x7_1
          ·rw [if_pos c27] at H
           have c27b0 : decide (0 ≤ x7_1) = true:=decide_eq_true c27
           clear c27
           by_cases c28 : x7_1 < (l0.length : Int)
           ·rw [if_pos c28] at H
            have c28b0 : decide (x7_1 < (l0.length : Int)) = true:=decide_eq_true c28
            clear c28
            by_cases c29 : x5_1.length < 3518437208883
            ·rw [if_pos c29] at H
             have LMc29:=Aside0.mk c29
             clear c29
             obtain ⟨y240,hy240⟩ : ∃ y_ : List (S67),y_ = (x5_1 ++ [(⟨a1_0,a1_1,(⟨a1_2,a1_3⟩ : S26),wrap64 (x220004_1 + ((rd_T67 l0 x7_1).f3))⟩ : S67)]):=⟨_,rfl⟩
             replace H : (spec_l2Put.l0 kj8 l0 y240 true (wrap64 (x7_1 + 1)) a1_0 a1_1 a1_2 a1_3 (wrap64 (x220004_1 + ((rd_T67 l0 x7_1).f3)))) = some r:=by first|(rw [hy240];with_reducible exact H)|(have H2_:=(Option.bind_some _ _).symm.trans H;rw [hy240];with_reducible exact H2_)|(have H2_:=(Option.bind_some _ _).symm.trans H;with_reducible exact H2_)|with_reducible exact H|(rw [hy240];exact H)|exact H
             have Ny240:=Aside0.mk hy240
             clear hy240
             have H':=Aside0.mk H
             clear H
             try go_wp2
             have n0_:=Aside0.mk (Kd.R_drew HO_5.out)
             have n1_:=Aside0.mk (blk_drew BK219.out)
             have n2_:=Aside0.mk (below_drew1 HB.out)
             clear HO_5
             clear BK219
             clear HB
             have HO_5:=n0_
             have BK219:=n1_
             have HB:=n2_
             clear n0_ n1_ n2_
             have p239 : 0 ≤ (x7_1 : Int):=of_decide_eq_true (by first|(with_reducible assumption)|assumption)
             have q239 : x7_1 < (l0.length : Int):=of_decide_eq_true (by first|(with_reducible assumption)|assumption)
             obtain ⟨ad239,e239,hx239_0,hx239_1,hx239_2,hx239_3,hx239_4⟩:=at_T67 HR0.out x7_1 p239 q239
             have hw239_4:=hx239_4
             have hw239_3:=hx239_3
             have hw239_2:=hx239_2
             have hw239_1:=hx239_1
             have hw239_0:=hx239_0
             obtain rfl : ad226 = ad239:=(by injection e239)
             replace hx239_0:=(HB.out.cell (bl_ w _ hx239_0)).trans hx239_0
             replace hx239_1:=(HB.out.cell (bl_ w _ hx239_1)).trans hx239_1
             replace hx239_2:=(HB.out.cell (bl_ w _ hx239_2)).trans hx239_2
             replace hx239_3:=(HB.out.cell (bl_ w _ hx239_3)).trans hx239_3
             replace hx239_4:=(HB.out.cell (bl_ w _ hx239_4)).trans hx239_4
             replace p239:=eq_true p239
             replace q239:=eq_true q239
             refine start_ (n:=10) (S:=fun w'=>w'.cell? ⟨gb219,0,none⟩ = some (.int .i64 a1_0) ∧ w'.cell? ⟨gb219,1,none⟩ = some (.int .i64 a1_1) ∧ w'.cell? ⟨gb219,2,none⟩ = some (.int .i64 a1_2) ∧ w'.cell? ⟨gb219,3,none⟩ = some (.int .i64 a1_3) ∧ w'.cell? ⟨gb219,4,none⟩ = some (.int .i64 x220004_1) ∧ w'.cell? (ad226.add ((x7_1).toNat * 5)) = some (.int .i64 ((rd_T67 l0 x7_1).f0)) ∧ w'.cell? ⟨(ad226.add ((x7_1).toNat * 5)).block,(ad226.add ((x7_1).toNat * 5)).off + 1,none⟩ = some (.int .i64 ((rd_T67 l0 x7_1).f1)) ∧ w'.cell? ⟨(ad226.add ((x7_1).toNat * 5)).block,(ad226.add ((x7_1).toNat * 5)).off + 2,none⟩ = some (.int .i64 ((rd_T67 l0 x7_1).f2.f0)) ∧ w'.cell? ⟨(ad226.add ((x7_1).toNat * 5)).block,(ad226.add ((x7_1).toNat * 5)).off + 3,none⟩ = some (.int .i64 ((rd_T67 l0 x7_1).f2.f1)) ∧ w'.cell? ⟨(ad226.add ((x7_1).toNat * 5)).block,(ad226.add ((x7_1).toNat * 5)).off + 4,none⟩ = some (.int .i64 ((rd_T67 l0 x7_1).f3))) (ds:=[9]) b10_0 (by kernel_rfl) rfl rfl ⟨(blk_cell BK219.out 0).trans rfl,(blk_cell BK219.out 1).trans rfl,(blk_cell BK219.out 2).trans rfl,(blk_cell BK219.out 3).trans rfl,(blk_cell BK219.out 4).trans rfl,(cb_ HB hw239_0:),(cb_ HB hw239_1:),(cb_ HB hw239_2:),(cb_ HB hw239_3:),(cb_ HB hw239_4:)⟩ (fun hHeld=>?_);refine with_tabW spec_l2Put.tab11 spec_l2Put.bits11 (fun HT_ HW_=>?_)
             generalize wc.drew = w30 at HO_5 BK219 HB hx239_0 hx239_1 hx239_2 hx239_3 hx239_4 hHeld ⊢
             refine pure_ (i:=0) (N:=some 38) (v:=?_) (a':=?_) b10_1 rfl rfl (any_of HT_.out (by kernel_rfl)) (fun _ _ _ h=>h) (Or.inl ⟨by rfl,?_⟩) ?_ ?_
             rotate_left
             ·intro w'
              go_simp
              with_reducible rfl
             rotate_left
             ·simp only [Act.put,sA_,sZ_,sS_,i64_w,i32_w]
              rfl
             refine pure_ (i:=2) (N:=some 40) (v:=?_) (a':=?_) c87 rfl rfl (any_of HT_.out (by kernel_rfl)) (fun _ _ _ h=>h) (Or.inl ⟨by rfl,?_⟩) ?_ ?_
             rotate_left
             ·intro w'
              go_simp
              with_reducible rfl
             rotate_left
             ·simp only [Act.put,sA_,sZ_,sS_,i64_w,i32_w]
              rfl
             refine pure_ (i:=3) (N:=some 41) (v:=?_) (a':=?_) c88 rfl rfl (any_of HT_.out (by kernel_rfl)) (fun _ _ _ h=>h) (Or.inl ⟨by rfl,?_⟩) ?_ ?_
             rotate_left
             ·intro w'
              go_simp
              with_reducible rfl
             rotate_left
             ·simp only [Act.put,sA_,sZ_,sS_,i64_w,i32_w]
              rfl
             refine pure_ (i:=4) (N:=some 42) (v:=?_) (a':=?_) c89 rfl rfl (any_of HT_.out (by kernel_rfl)) (fun _ _ _ h=>h) (Or.inl ⟨by rfl,?_⟩) ?_ ?_
             rotate_left
             ·intro w'
              go_simp
              with_reducible rfl
             rotate_left
             ·simp only [Act.put,sA_,sZ_,sS_,i64_w,i32_w]
              rfl
             refine pure_ (i:=5) (N:=some 43) (v:=?_) (a':=?_) c90 rfl rfl (any_of HT_.out (by kernel_rfl)) (fun _ _ _ h=>h) (Or.inl ⟨by rfl,?_⟩) ?_ ?_
             rotate_left
             ·intro w'
              go_simp
              with_reducible rfl
             rotate_left
             ·simp only [Act.put,sA_,sZ_,sS_,i64_w,i32_w]
              rfl
             refine take_ (i:=1) (N:=some 39) (v:=?_) (a':=?_) b10_6 rfl rfl (take_ofW HT_.out HW_.out (by kernel_rfl)) (fun _ _ _ h=>h) (Or.inl ⟨by rfl,?_⟩) hHeld ?_ ?_
             rotate_left
             ·rintro w' ⟨s0,s1,s2,s3,s4,s5,s6,s7,s8,s9⟩
              go_simp
              with_reducible rfl
             rotate_left
             ·simp only [Act.put,sA_,sZ_,sS_,i64_w,i32_w]
              rfl
             refine take_ (i:=6) (N:=some 44) (v:=?_) (a':=?_) b10_7 rfl rfl (take_ofW HT_.out HW_.out (by kernel_rfl)) (fun _ _ _ h=>h) (Or.inl ⟨by rfl,?_⟩) hHeld ?_ ?_
             rotate_left
             ·rintro w' ⟨s0,s1,s2,s3,s4,s5,s6,s7,s8,s9⟩
              go_simp
              with_reducible rfl
             rotate_left
             ·simp only [Act.put,sA_,sZ_,sS_,i64_w,i32_w]
              rfl
             refine pure_ (i:=7) (N:=some 45) (v:=?_) (a':=?_) b10_8 rfl rfl (any_of HT_.out (by kernel_rfl)) (fun _ _ _ h=>h) (Or.inl ⟨by rfl,?_⟩) ?_ ?_
             rotate_left
             ·intro w'
              go_simp
              with_reducible rfl
             rotate_left
             ·simp only [Act.put,sA_,sZ_,sS_,i64_w,i32_w]
              rfl
             refine pure_ (i:=8) (N:=some 46) (v:=?_) (a':=?_) b10_9 rfl rfl (any_of HT_.out (by kernel_rfl)) (fun _ _ _ h=>h) (Or.inl ⟨by rfl,?_⟩) ?_ ?_
             rotate_left
             ·intro w'
              go_simp
              with_reducible rfl
             rotate_left
             ·simp only [Act.put,sA_,sZ_,sS_,i64_w,i32_w]
              rfl
             refine last_ (i:=9) (N:=none) b10_10 rfl rfl (one_of HT_.out (by kernel_rfl)) (by decide) (fun K hK=>?_)
             have hs31 : w30.cell? ⟨gb219,4,none⟩ = some (.int .i64 x220004_1):=(blk_cell BK219.out 4).trans rfl
             have hfs31:=blk_frozen BK219.out 4
             refine skip_ (w1:=?_) (by rfl) rfl ?_ ?_
             rotate_left
             ·go_simp
              rfl
             refine hK.out _ _ ?_
             clear hK K
             refine done_ (done_of HT_.out (by kernel_rfl)) ?_
             have hcz32_0 : w30.cell? ⟨gb219,0,none⟩ = some (.int .i64 a1_0):=(blk_cell BK219.out 0).trans rfl
             have hcz32_1 : w30.cell? ⟨gb219,1,none⟩ = some (.int .i64 a1_1):=(blk_cell BK219.out 1).trans rfl
             have hcz32_2 : w30.cell? ⟨gb219,2,none⟩ = some (.int .i64 a1_2):=(blk_cell BK219.out 2).trans rfl
             have hcz32_3 : w30.cell? ⟨gb219,3,none⟩ = some (.int .i64 a1_3):=(blk_cell BK219.out 3).trans rfl
             have hcz32_4 : w30.cell? ⟨gb219,4,none⟩ = some (.int .i64 x220004_1):=(blk_cell BK219.out 4).trans rfl
             have hfz32_0:=blk_frozen BK219.out 0
             have hfz32_1:=blk_frozen BK219.out 1
             have hfz32_2:=blk_frozen BK219.out 2
             have hfz32_3:=blk_frozen BK219.out 3
             have hfz32_4:=blk_frozen BK219.out 4
             try go_wp2_with (first|((with_reducible refine gate_builtin (b:=.append) (xs:=#[.tmp 47,.tmp 49]) rfl ?_);at_builtin;refine Kd.R_append k67 (w0:=w) w.heap.size rfl (.tmp 47) (.tmp 49) 45 67 (.agg #[(.int .i64 0),(.int .i64 0),(.int .i64 0),(.int .i64 0),(.int .i64 0)]) 40 rfl Try.underlying45 info67 rfl (by decide) (by omega) u5 x5_1 (⟨a1_0,a1_1,(⟨a1_2,a1_3⟩ : S26),wrap64 (x220004_1 + ((rd_T67 l0 x7_1).f3))⟩ : S67) [.int .i64 a1_0,.int .i64 a1_1,.int .i64 a1_2,.int .i64 a1_3,.int .i64 (wrap64 (x220004_1 + ((rd_T67 l0 x7_1).f3)))] (fun k_=>k_ ≠ gb219) (fun _=>False) rfl (by first|(go_simp;done)|(go_simp;rfl)) ?aP (fun _ hk=>hk.elim) ?aF ?aO ?aB ?aS ?aL ?_;(case aP=>exact k67_mkM _ _ _ (⟨a1_0,a1_1,(⟨a1_2,a1_3⟩ : S26),wrap64 (x220004_1 + ((rd_T67 l0 x7_1).f3))⟩ : S67));(case aB=>exact (by repeat (first|(with_reducible first|exact HB.out|apply below_alloc|apply pw_below_drewN|apply below_drew1|refine below_set ?_ GE219.out)|exact HB.out)));(case aF=>exact (fun k_ hk=>Kd.freshB (g:=gb219) (o:=.cells #[.int .i64 a1_0,.int .i64 a1_1,.int .i64 a1_2,.int .i64 a1_3,.int .i64 (wrap64 (x220004_1 + ((rd_T67 l0 x7_1).f3)))] 67 (0,0)) (by (with_reducible repeat (first|refine blk_drewN ?_ _|refine blk_drew ?_|refine blk_alloc ?_ _));refine blk_put (cs:=#[.int .i64 a1_0,.int .i64 a1_1,.int .i64 a1_2,.int .i64 a1_3,.int .i64 x220004_1]) ?_ 4 _ rfl;(with_reducible repeat (first|refine blk_drewN ?_ _|refine blk_drew ?_|refine blk_alloc ?_ _));exact BK219.out) k_ hk));(case aO=>exact (by (with_reducible repeat (first|apply Kd.R_alloc|apply Kd.R_drewN|apply Kd.R_drew));exact Kd.R_mono (Kd.R_far (p:=⟨gb219,4,none⟩) (Kd.R_mono HO_5.out (fun k_ hk=>(⟨hk,hk⟩ : _ ∧ k_ ≠ gb219))) (fun _ hk=>hk.2) (.int .i64 (wrap64 (x220004_1 + ((rd_T67 l0 x7_1).f3))))) (fun _ hk=>hk.1)));(case aS=>exact (below_size (by repeat (first|(with_reducible first|exact HB.out|apply below_alloc|apply pw_below_drewN|apply below_drew1|refine below_set ?_ GE219.out)|exact HB.out))));(case aL=>have:=LMc29.out;omega);intro v241 w33 ho hb hg hat;rw [← Ny240.out] at ho;have n0_:=Aside0.mk (blk_grown (g:=gb219) (o:=.cells #[.int .i64 a1_0,.int .i64 a1_1,.int .i64 a1_2,.int .i64 a1_3,.int .i64 (wrap64 (x220004_1 + ((rd_T67 l0 x7_1).f3)))] 67 (0,0)) (by (with_reducible repeat (first|refine blk_drewN ?_ _|refine blk_drew ?_|refine blk_alloc ?_ _));refine blk_put (cs:=#[.int .i64 a1_0,.int .i64 a1_1,.int .i64 a1_2,.int .i64 a1_3,.int .i64 x220004_1]) ?_ 4 _ rfl;(with_reducible repeat (first|refine blk_drewN ?_ _|refine blk_drew ?_|refine blk_alloc ?_ _));exact BK219.out) hg (Kd.R_away HO_5.out (fun _ hk=>hk)));have n1_:=Aside0.mk (hb);have n2_:=Aside0.mk (ho);clear BK219;clear HB;clear HO_5;have BK219:=n0_;have HB:=n1_;have HO242:=n2_;clear n0_ n1_ n2_;clear ho hb hg hat))
             go_roundg kj8
             case measure=>have:=HK1.out;have:=HJ8.out;omega
             case rel=>exact ⟨(y240),(true),(wrap64 (x7_1 + 1)),(wrap64 (x220004_1 + ((rd_T67 l0 x7_1).f3))),(by first|rfl|(simp;done)|(simp [*];done)),(by first|rfl|(simp;done)|(simp [*];done)),H',⟨by have:=HK1.out;have:=HJ8.out;omega⟩,⟨by (with_reducible repeat (first|apply Kd.R_alloc|apply Kd.R_drewN|apply Kd.R_drew));exact HO242.out⟩,⟨by (with_reducible repeat (first|refine blk_drewN ?_ _|refine blk_drew ?_|refine blk_alloc ?_ _));exact BK219.out⟩,⟨by repeat (first|(with_reducible first|exact HB.out|apply below_alloc|apply pw_below_drewN|apply below_drew1|refine below_set ?_ GE219.out)|exact HB.out)⟩⟩
            ·rw [if_neg c29] at H
             exact absurd H (by simp)
           ·rw [if_neg c28] at H
            exact absurd H (by simp)
          ·rw [if_neg c27] at H
           exact absurd H (by simp)
         ·rw [if_neg c26] at H
          have c26b0 : (t227 == 0) = false:=beq_eq_false_iff_ne.mpr c26
          have c26b1 : (t227 != 0) = true:=bne_iff_ne.mpr c26
          by_cases c34 : 0 ≤ x7_1
          ·rw [if_pos c34] at H
           have c34b0 : decide (0 ≤ x7_1) = true:=decide_eq_true c34
           clear c34
           by_cases c35 : x7_1 < (l0.length : Int)
           ·rw [if_pos c35] at H
            have c35b0 : decide (x7_1 < (l0.length : Int)) = true:=decide_eq_true c35
            clear c35
            by_cases c36 : x5_1.length < 3518437208883
            ·rw [if_pos c36] at H
             have LMc36:=Aside0.mk c36
             clear c36
             obtain ⟨y244,hy244⟩ : ∃ y_ : List (S67),y_ = (x5_1 ++ [(⟨(rd_T67 l0 x7_1).f0,(rd_T67 l0 x7_1).f1,(⟨(rd_T67 l0 x7_1).f2.f0,(rd_T67 l0 x7_1).f2.f1⟩ : S26),(rd_T67 l0 x7_1).f3⟩ : S67)]):=⟨_,rfl⟩
             replace H : (spec_l2Put.l0 kj8 l0 y244 false (wrap64 (x7_1 + 1)) a1_0 a1_1 a1_2 a1_3 x220004_1) = some r:=by first|(rw [hy244];with_reducible exact H)|(have H2_:=(Option.bind_some _ _).symm.trans H;rw [hy244];with_reducible exact H2_)|(have H2_:=(Option.bind_some _ _).symm.trans H;with_reducible exact H2_)|with_reducible exact H|(rw [hy244];exact H)|exact H
             have Ny244:=Aside0.mk hy244
             clear hy244
             have H':=Aside0.mk H
             clear H
             have p243 : 0 ≤ (x7_1 : Int):=of_decide_eq_true (by first|(with_reducible assumption)|assumption)
             have q243 : x7_1 < (l0.length : Int):=of_decide_eq_true (by first|(with_reducible assumption)|assumption)
             obtain ⟨ad243,e243,hx243_0,hx243_1,hx243_2,hx243_3,hx243_4⟩:=at_T67 HR0.out x7_1 p243 q243
             obtain rfl : ad226 = ad243:=(by injection e243)
             replace hx243_0:=(HB.out.cell (bl_ w _ hx243_0)).trans hx243_0
             replace hx243_1:=(HB.out.cell (bl_ w _ hx243_1)).trans hx243_1
             replace hx243_2:=(HB.out.cell (bl_ w _ hx243_2)).trans hx243_2
             replace hx243_3:=(HB.out.cell (bl_ w _ hx243_3)).trans hx243_3
             replace hx243_4:=(HB.out.cell (bl_ w _ hx243_4)).trans hx243_4
             replace p243:=eq_true p243
             replace q243:=eq_true q243
             go_wp2_with (first|((with_reducible refine gate_builtin (b:=.append) (xs:=#[.tmp 51,.tmp 56]) rfl ?_);at_builtin;refine Kd.R_append k67 (w0:=w) w.heap.size rfl (.tmp 51) (.tmp 56) 45 67 (.agg #[(.int .i64 0),(.int .i64 0),(.int .i64 0),(.int .i64 0),(.int .i64 0)]) 40 rfl Try.underlying45 info67 rfl (by decide) (by omega) u5 x5_1 (⟨(rd_T67 l0 x7_1).f0,(rd_T67 l0 x7_1).f1,(⟨(rd_T67 l0 x7_1).f2.f0,(rd_T67 l0 x7_1).f2.f1⟩ : S26),(rd_T67 l0 x7_1).f3⟩ : S67) [.int .i64 ((rd_T67 l0 x7_1).f0),.int .i64 ((rd_T67 l0 x7_1).f1),.int .i64 ((rd_T67 l0 x7_1).f2.f0),.int .i64 ((rd_T67 l0 x7_1).f2.f1),.int .i64 ((rd_T67 l0 x7_1).f3)] (fun k_=>k_ ≠ gb219) (fun _=>False) rfl rfl ?aP (fun _ hk=>hk.elim) ?aF ?aO ?aB ?aS ?aL ?_;(case aP=>exact k67_mkM _ _ _ (⟨(rd_T67 l0 x7_1).f0,(rd_T67 l0 x7_1).f1,(⟨(rd_T67 l0 x7_1).f2.f0,(rd_T67 l0 x7_1).f2.f1⟩ : S26),(rd_T67 l0 x7_1).f3⟩ : S67));(case aB=>exact (by repeat (first|(with_reducible first|exact HB.out|apply below_alloc|apply pw_below_drewN|apply below_drew1|refine below_set ?_ GE219.out)|exact HB.out)));(case aF=>exact (fun k_ hk=>Kd.freshB (g:=gb219) (o:=.cells #[.int .i64 a1_0,.int .i64 a1_1,.int .i64 a1_2,.int .i64 a1_3,.int .i64 x220004_1] 67 (0,0)) (by (with_reducible repeat (first|refine blk_drewN ?_ _|refine blk_drew ?_|refine blk_alloc ?_ _));exact BK219.out) k_ hk));(case aO=>exact (by (with_reducible repeat (first|apply Kd.R_alloc|apply Kd.R_drewN|apply Kd.R_drew));exact HO_5.out));(case aS=>exact (below_size (by repeat (first|(with_reducible first|exact HB.out|apply below_alloc|apply pw_below_drewN|apply below_drew1|refine below_set ?_ GE219.out)|exact HB.out))));(case aL=>have:=LMc36.out;omega);intro v245 w37 ho hb hg hat;rw [← Ny244.out] at ho;have n0_:=Aside0.mk (blk_grown (g:=gb219) (o:=.cells #[.int .i64 a1_0,.int .i64 a1_1,.int .i64 a1_2,.int .i64 a1_3,.int .i64 x220004_1] 67 (0,0)) (by (with_reducible repeat (first|refine blk_drewN ?_ _|refine blk_drew ?_|refine blk_alloc ?_ _));exact BK219.out) hg (Kd.R_away HO_5.out (fun _ hk=>hk)));have n1_:=Aside0.mk (hb);have n2_:=Aside0.mk (ho);clear BK219;clear HB;clear HO_5;have BK219:=n0_;have HB:=n1_;have HO246:=n2_;clear n0_ n1_ n2_;clear ho hb hg hat))
             go_roundg kj8
             case measure=>have:=HK1.out;have:=HJ8.out;omega
             case rel=>exact ⟨(y244),(false),(wrap64 (x7_1 + 1)),(x220004_1),(by first|rfl|(simp;done)|(simp [*];done)),(by first|rfl|(simp;done)|(simp [*];done)),H',⟨by have:=HK1.out;have:=HJ8.out;omega⟩,⟨by (with_reducible repeat (first|apply Kd.R_alloc|apply Kd.R_drewN|apply Kd.R_drew));exact HO246.out⟩,⟨by (with_reducible repeat (first|refine blk_drewN ?_ _|refine blk_drew ?_|refine blk_alloc ?_ _));exact BK219.out⟩,⟨by repeat (first|(with_reducible first|exact HB.out|apply below_alloc|apply pw_below_drewN|apply below_drew1|refine below_set ?_ GE219.out)|exact HB.out)⟩⟩
            ·rw [if_neg c36] at H
             exact absurd H (by simp)
           ·rw [if_neg c35] at H
            exact absurd H (by simp)
          ·rw [if_neg c34] at H
           exact absurd H (by simp)
    ·rw [if_neg c7] at H
     exact absurd H (by simp)
   ·rw [if_neg c6] at H
    have c6b0 : decide (x7_1 < (l0.length : Int)) = false:=decide_eq_false c6
    clear c6
    by_cases c38 : x6_1 = true
    ·subst c38
     have H1 : (some x5_1) = some r:=by rw [if_pos rfl] at H;exact H
     clear H
     have H:=H1
     clear H1
     obtain rfl:=Option.some.inj H
     go_wp2
     go_ret
     exact ⟨_,by first|rfl|(simp [errW_none,errW_some] <;> rfl)|(simp [*,errW_none,errW_some] <;> rfl),by (with_reducible repeat (first|apply Kd.R_alloc|apply Kd.R_drewN|apply Kd.R_drew));exact Kd.R_mono HO_5.out (fun _ hk=>trivial),by repeat (first|(with_reducible first|exact HB.out|apply below_alloc|apply pw_below_drewN|apply below_drew1|refine below_set ?_ GE219.out)|exact HB.out)⟩
    ·replace c38:=Bool.eq_false_iff.mpr c38
     subst c38
     have H1 : (if x5_1.length < 3518437208883 then (some (x5_1 ++ [(⟨a1_0,a1_1,(⟨a1_2,a1_3⟩ : S26),x220004_1⟩ : S67)])) else (none)) = some r:=by rw [if_neg (show ¬ (false = true) by decide)] at H;exact H
     clear H
     have H:=H1
     clear H1
     by_cases c39 : x5_1.length < 3518437208883
     ·rw [if_pos c39] at H
      have LMc39:=Aside0.mk c39
      clear c39
      obtain ⟨y223,hy223⟩ : ∃ y_ : List (S67),y_ = (x5_1 ++ [(⟨a1_0,a1_1,(⟨a1_2,a1_3⟩ : S26),x220004_1⟩ : S67)]):=⟨_,rfl⟩
      replace H : (some y223) = some r:=by first|(rw [hy223];with_reducible exact H)|(have H2_:=(Option.bind_some _ _).symm.trans H;rw [hy223];with_reducible exact H2_)|(have H2_:=(Option.bind_some _ _).symm.trans H;with_reducible exact H2_)|with_reducible exact H|(rw [hy223];exact H)|exact H
      have Ny223:=Aside0.mk hy223
      clear hy223
      obtain rfl:=Option.some.inj H
      have hcz40_0 : wr.cell? ⟨gb219,0,none⟩ = some (.int .i64 a1_0):=(blk_cell BK219.out 0).trans rfl
      have hcz40_1 : wr.cell? ⟨gb219,1,none⟩ = some (.int .i64 a1_1):=(blk_cell BK219.out 1).trans rfl
      have hcz40_2 : wr.cell? ⟨gb219,2,none⟩ = some (.int .i64 a1_2):=(blk_cell BK219.out 2).trans rfl
      have hcz40_3 : wr.cell? ⟨gb219,3,none⟩ = some (.int .i64 a1_3):=(blk_cell BK219.out 3).trans rfl
      have hcz40_4 : wr.cell? ⟨gb219,4,none⟩ = some (.int .i64 x220004_1):=(blk_cell BK219.out 4).trans rfl
      have hfz40_0:=blk_frozen BK219.out 0
      have hfz40_1:=blk_frozen BK219.out 1
      have hfz40_2:=blk_frozen BK219.out 2
      have hfz40_3:=blk_frozen BK219.out 3
      have hfz40_4:=blk_frozen BK219.out 4
      go_wp2_with (first|((with_reducible refine gate_builtin (b:=.append) (xs:=#[.tmp 60,.tmp 62]) rfl ?_);at_builtin;refine Kd.R_append k67 (w0:=w) w.heap.size rfl (.tmp 60) (.tmp 62) 45 67 (.agg #[(.int .i64 0),(.int .i64 0),(.int .i64 0),(.int .i64 0),(.int .i64 0)]) 40 rfl Try.underlying45 info67 rfl (by decide) (by omega) u5 x5_1 (⟨a1_0,a1_1,(⟨a1_2,a1_3⟩ : S26),x220004_1⟩ : S67) [.int .i64 a1_0,.int .i64 a1_1,.int .i64 a1_2,.int .i64 a1_3,.int .i64 x220004_1] (fun k_=>k_ ≠ gb219) (fun _=>False) rfl rfl ?aP (fun _ hk=>hk.elim) ?aF ?aO ?aB ?aS ?aL ?_;(case aP=>exact k67_mkM _ _ _ (⟨a1_0,a1_1,(⟨a1_2,a1_3⟩ : S26),x220004_1⟩ : S67));(case aB=>exact (by repeat (first|(with_reducible first|exact HB.out|apply below_alloc|apply pw_below_drewN|apply below_drew1|refine below_set ?_ GE219.out)|exact HB.out)));(case aF=>exact (fun k_ hk=>Kd.freshB (g:=gb219) (o:=.cells #[.int .i64 a1_0,.int .i64 a1_1,.int .i64 a1_2,.int .i64 a1_3,.int .i64 x220004_1] 67 (0,0)) (by (with_reducible repeat (first|refine blk_drewN ?_ _|refine blk_drew ?_|refine blk_alloc ?_ _));exact BK219.out) k_ hk));(case aO=>exact (by (with_reducible repeat (first|apply Kd.R_alloc|apply Kd.R_drewN|apply Kd.R_drew));exact HO_5.out));(case aS=>exact (below_size (by repeat (first|(with_reducible first|exact HB.out|apply below_alloc|apply pw_below_drewN|apply below_drew1|refine below_set ?_ GE219.out)|exact HB.out))));(case aL=>have:=LMc39.out;omega);intro v224 w41 ho hb hg hat;rw [← Ny223.out] at ho;have n0_:=Aside0.mk (blk_grown (g:=gb219) (o:=.cells #[.int .i64 a1_0,.int .i64 a1_1,.int .i64 a1_2,.int .i64 a1_3,.int .i64 x220004_1] 67 (0,0)) (by (with_reducible repeat (first|refine blk_drewN ?_ _|refine blk_drew ?_|refine blk_alloc ?_ _));exact BK219.out) hg (Kd.R_away HO_5.out (fun _ hk=>hk)));have n1_:=Aside0.mk (hb);have n2_:=Aside0.mk (ho);clear BK219;clear HB;clear HO_5;have BK219:=n0_;have HB:=n1_;have HO225:=n2_;clear n0_ n1_ n2_;clear ho hb hg hat))
      go_ret
      exact ⟨_,by first|rfl|(simp [errW_none,errW_some] <;> rfl)|(simp [*,errW_none,errW_some] <;> rfl),by (with_reducible repeat (first|apply Kd.R_alloc|apply Kd.R_drewN|apply Kd.R_drew));exact Kd.R_mono HO225.out (fun _ hk=>trivial),by repeat (first|(with_reducible first|exact HB.out|apply below_alloc|apply pw_below_drewN|apply below_drew1|refine below_set ?_ GE219.out)|exact HB.out)⟩
     ·rw [if_neg c39] at H
      exact absurd H (by simp)
mutual
def spec_l2Sum.l0 : Nat → List (S67) → List (S67) → Int → Option ((List (S67)))
 | 0, _, _, _ => none
 | k + 1, x0, x3, x4 => if x4 < (x0.length : Int) then (if 0 ≤ x4 then ((spec_l2Put.f k x3 ((rd_T67 x0 x4).f0) ((rd_T67 x0 x4).f1) ((rd_T67 x0 x4).f2.f0) ((rd_T67 x0 x4).f2.f1) ((rd_T67 x0 x4).f3)).bind fun t251 => (spec_l2Sum.l0 k x0 t251 (wrap64 (x4 + 1)))) else (none)) else (spec_l2Sum.l1 k x3 (([] : List (S67))) 0)
def spec_l2Sum.l1 : Nat → List (S67) → List (S67) → Int → Option ((List (S67)))
 | 0, _, _, _ => none
 | k + 1, x3, x5, x6 => if x6 < (x3.length : Int) then (if 0 ≤ x6 then (if ((rd_T67 x3 x6).f3) = 0 then (spec_l2Sum.l1 k x3 x5 (wrap64 (x6 + 1))) else (if x5.length < 3518437208883 then (spec_l2Sum.l1 k x3 (x5 ++ [(⟨(rd_T67 x3 x6).f0, (rd_T67 x3 x6).f1, (⟨(rd_T67 x3 x6).f2.f0, (rd_T67 x3 x6).f2.f1⟩ : S26), (rd_T67 x3 x6).f3⟩ : S67)]) (wrap64 (x6 + 1))) else (none))) else (none)) else (some x5)
end
def spec_l2Sum.f (k : Nat) (l0 : List (S67)) : Option ((List (S67))) := spec_l2Sum.l0 k l0 (([] : List (S67))) 0
theorem spec_l2Sum.mono_l : ∀ k,(∀ y0 y1 y2,LeO (spec_l2Sum.l0 k y0 y1 y2) (spec_l2Sum.l0 (k + 1) y0 y1 y2)) ∧ (∀ y0 y1 y2,LeO (spec_l2Sum.l1 k y0 y1 y2) (spec_l2Sum.l1 (k + 1) y0 y1 y2))
 | 0=>⟨fun _ _ _ r h=>by simp [spec_l2Sum.l0] at h,fun _ _ _ r h=>by simp [spec_l2Sum.l1] at h⟩
 | k + 1=>by
  obtain ⟨ih0,ih1⟩:=spec_l2Sum.mono_l k
  refine ⟨?_,?_⟩
  ·intro y0 y1 y2
   unfold spec_l2Sum.l0
   repeat' first
   | (with_reducible exact ih0 _ _ _)
   | (with_reducible exact ih1 _ _ _)
   | (with_reducible exact spec_l2Put.mono _ _ _ _ _ _ _)
   | (with_reducible exact LeO.refl _)
   | (with_reducible exact LeO.none _)
   | (with_reducible refine LeO.ite ?_ ?_)
   | (with_reducible refine LeO.bind ?_ (fun _=>?_))
   | exact ih0 _ _ _
   | exact ih1 _ _ _
   | exact spec_l2Put.mono _ _ _ _ _ _ _
   | exact LeO.none _
   | refine LeO.ite ?_ ?_
   | refine LeO.bind ?_ (fun _=>?_)
  ·intro y0 y1 y2
   unfold spec_l2Sum.l1
   repeat' first
   | (with_reducible exact ih0 _ _ _)
   | (with_reducible exact ih1 _ _ _)
   | (with_reducible exact spec_l2Put.mono _ _ _ _ _ _ _)
   | (with_reducible exact LeO.refl _)
   | (with_reducible exact LeO.none _)
   | (with_reducible refine LeO.ite ?_ ?_)
   | (with_reducible refine LeO.bind ?_ (fun _=>?_))
   | exact ih0 _ _ _
   | exact ih1 _ _ _
   | exact spec_l2Put.mono _ _ _ _ _ _ _
   | exact LeO.none _
   | refine LeO.ite ?_ ?_
   | refine LeO.bind ?_ (fun _=>?_)
theorem spec_l2Sum.mono : ∀ a0 k,LeO (spec_l2Sum.f k a0) (spec_l2Sum.f (k + 1) a0):=by
 intro a0 k
 obtain ⟨ih0,ih1⟩:=spec_l2Sum.mono_l k
 unfold spec_l2Sum.f
 repeat' first
   | (with_reducible exact ih0 _ _ _)
   | (with_reducible exact ih1 _ _ _)
   | (with_reducible exact spec_l2Put.mono _ _ _ _ _ _ _)
   | (with_reducible exact LeO.refl _)
   | (with_reducible exact LeO.none _)
   | (with_reducible refine LeO.ite ?_ ?_)
   | (with_reducible refine LeO.bind ?_ (fun _=>?_))
   | exact ih0 _ _ _
   | exact ih1 _ _ _
   | exact spec_l2Put.mono _ _ _ _ _ _ _
   | exact LeO.none _
   | refine LeO.ite ?_ ?_
   | refine LeO.bind ?_ (fun _=>?_)
set_option maxHeartbeats 8000000 in
set_option maxRecDepth 100000 in
theorem spec_l2Sum.calls (k : Nat) (A0 : Option Addr) (c0 : Nat) (l0 : List (S67)) (r : List (S67)) (w : World) (hr0 : Kd.C k67 w A0 l0.length l0) (hc0 : l0.length ≤ c0) (h : spec_l2Sum.f k l0 = some r) :
  Calls Try.prog 99 #[.slice A0 l0.length c0] w fun e w'=>∃ v0_ : Value,e = .returned (v0_) ∧ Kd.R k67 67 w' w.heap.size (fun _=>True) v0_ r ∧ Below w.heap.size w w':=by
 have hu67:=Try.underlying67
 have HR0:=Aside0.mk hr0
 have HC0:=Aside0.mk hc0
 clear hr0 hc0
 have HB:=Aside0.mk (Below.refl w.heap.size w)
 have H : (spec_l2Sum.l0 k l0 (([] : List (S67))) 0) = some r:=h
 clear h
 obtain ⟨y247,hy247⟩ : ∃ y_ : List (S67),y_ = (([] : List (S67))):=⟨_,rfl⟩
 replace H : (spec_l2Sum.l0 k l0 y247 0) = some r:=by first|(rw [hy247];with_reducible exact H)|(have H2_:=(Option.bind_some _ _).symm.trans H;rw [hy247];with_reducible exact H2_)|(have H2_:=(Option.bind_some _ _).symm.trans H;with_reducible exact H2_)|with_reducible exact H|(rw [hy247];exact H)|exact H
 have Ny247:=Aside0.mk hy247
 clear hy247
 have H':=Aside0.mk H
 clear H
 go_enter Try.func99,Try.ntmps99
 go_wp2_with (first|((with_reducible refine gate_dst (N:=7) rfl ?_);refine Kd.R_lit k67 _ 67 ?hg (N:=7) ?hd (xs:=([] : List (S67))) (inner:=[]) (ok:=fun _=>True) (okp:=fun _=>True) ?hr ?hp (fun _ hk=>hk) trivial (Below.refl _ _) (Nat.le_refl _) (by simp) ?_;(case hd=>rfl);(case hg=>rfl);(case hr=>first|(go_simp;done)|(go_simp;rfl));(case hp=>exact (Reps.none _ _));intro v248 w2 ho3 hb hg_ hnew_;clear hg_ hnew_;(first|rw [← Ny247.out] at ho3|(simp only [Int.reduceToNat] at ho3;rw [← Ny247.out] at ho3));have n0_:=Aside0.mk (Kd.R_lower ho3 (below_size (by repeat (first|(with_reducible first|exact HB.out|apply below_alloc|apply pw_below_drewN|apply below_drew1)|exact HB.out))));have n1_:=Aside0.mk (below_step (by repeat (first|(with_reducible first|exact HB.out|apply below_alloc|apply pw_below_drewN|apply below_drew1)|exact HB.out)) hb);clear HB;have HO249:=n0_;have HB:=n1_;clear n0_ n1_;clear hb ho3))
 go_loopg [3,4] k (fun kq v3 v4 w'=>∃ (x3_1 : List (S67)) (x4_1 : Int),v4 = .int .i64 x4_1 ∧ Aside0 (spec_l2Sum.l0 kq l0 x3_1 x4_1 = some r) ∧ Aside0 (kq ≤ k) ∧ Aside0 (Kd.R k67 67 w' w.heap.size (fun _=>True) v3 x3_1) ∧ Aside0 (Below w.heap.size w w'))
 case atStart=>exact ⟨(y247),(0),(by first|rfl|(simp;done)|(simp [*];done)),H',⟨Nat.le_refl _⟩,⟨by (with_reducible repeat (first|apply Kd.R_alloc|apply Kd.R_drewN|apply Kd.R_drew));exact HO249.out⟩,⟨by repeat (first|(with_reducible first|exact HB.out|apply below_alloc|apply pw_below_drewN|apply below_drew1)|exact HB.out)⟩⟩
 case round =>
  clear H'
  try clear p2
  obtain ⟨x3_1,x4_1,rfl,HA,HK1,HO_3,HB⟩:=hrel
  cases gk with
  | zero=>exact absurd HA.out (by simp [spec_l2Sum.l0])
  | succ k1 =>
   have H:=HA.out
   clear HA
   simp only [spec_l2Sum.l0] at H
   by_cases c4 : x4_1 < (l0.length : Int)
   ·rw [if_pos c4] at H
    have c4b0 : decide (x4_1 < (l0.length : Int)) = true:=decide_eq_true c4
    clear c4
    by_cases c5 : 0 ≤ x4_1
    ·rw [if_pos c5] at H
     have c5b0 : decide (0 ≤ x4_1) = true:=decide_eq_true c5
     clear c5
     replace H:=Option.bind_eq_some_iff.mp H
     obtain ⟨t251,A60,H⟩:=H
     replace H : (spec_l2Sum.l0 k1 l0 t251 (wrap64 (x4_1 + 1))) = some r:=H
     have A6:=Aside0.mk A60
     clear A60
     have H':=Aside0.mk H
     clear H
     have p250 : 0 ≤ (x4_1 : Int):=of_decide_eq_true (by first|(with_reducible assumption)|assumption)
     have q250 : x4_1 < (l0.length : Int):=of_decide_eq_true (by first|(with_reducible assumption)|assumption)
     obtain ⟨ad250,e250,hx250_0,hx250_1,hx250_2,hx250_3,hx250_4⟩:=at_T67 HR0.out x4_1 p250 q250
     cases e250
     replace hx250_0:=(HB.out.cell (bl_ w _ hx250_0)).trans hx250_0
     replace hx250_1:=(HB.out.cell (bl_ w _ hx250_1)).trans hx250_1
     replace hx250_2:=(HB.out.cell (bl_ w _ hx250_2)).trans hx250_2
     replace hx250_3:=(HB.out.cell (bl_ w _ hx250_3)).trans hx250_3
     replace hx250_4:=(HB.out.cell (bl_ w _ hx250_4)).trans hx250_4
     replace p250:=eq_true p250
     replace q250:=eq_true q250
     obtain ⟨Ao7,co7,eo7⟩:=Kd.R_slice HO_3.out
     subst eo7
     go_wp2_with (first|((with_reducible refine gate_callee (f:=100) rfl ?_);refine goesL_ (some 19) rfl rfl Try.func100 (by kernel_rfl) rfl #[.slice Ao7 x3_1.length co7,.agg #[.int .i64 ((rd_T67 l0 x4_1).f0),.int .i64 ((rd_T67 l0 x4_1).f1),.int .i64 ((rd_T67 l0 x4_1).f2.f0),.int .i64 ((rd_T67 l0 x4_1).f2.f1),.int .i64 ((rd_T67 l0 x4_1).f3)]] rfl (by (try simp only [List.map_toArray,List.map_cons,List.map_nil]);first|done|rfl|(simp only [List.length_drop,List.length_take];rfl)) ?_;(with_reducible refine (spec_l2Put.calls k1 _ _ x3_1 ((rd_T67 l0 x4_1).f0) ((rd_T67 l0 x4_1).f1) ((rd_T67 l0 x4_1).f2.f0) ((rd_T67 l0 x4_1).f2.f1) ((rd_T67 l0 x4_1).f3) t251 _ ?side1 ?side2 A6.out).mono ?_);(case side1=>repeat (first|exact (Kd.R_reads' HO_3.out).2.2|(with_reducible refine Kd.C_alloc ?_ _)|(with_reducible refine Kd.C_drewN ?_ _)|(with_reducible refine Kd.C_drew ?_)));(case side2=>exact (Kd.R_reads' HO_3.out).2.1);rintro e w8 ⟨v252,rfl,ho0,hb⟩;refine ⟨_,rfl,?_⟩;have n0_:=Aside0.mk (Kd.R_elder' (by (with_reducible repeat (first|apply Kd.R_alloc|apply Kd.R_drewN|apply Kd.R_drew));exact HO_3.out) (Kd.R_base ho0) hb);have n1_:=Aside0.mk (Kd.R_lower (Kd.R_new' ho0 (Kd.R_lt (by (with_reducible repeat (first|apply Kd.R_alloc|apply Kd.R_drewN|apply Kd.R_drew));exact HO_3.out))) (below_size (by repeat (first|(with_reducible first|exact HB.out|apply below_alloc|apply pw_below_drewN|apply below_drew1)|exact HB.out))));have n2_:=Aside0.mk (below_step (by repeat (first|(with_reducible first|exact HB.out|apply below_alloc|apply pw_below_drewN|apply below_drew1)|exact HB.out)) hb);clear HO_3;clear HB;have HO_3:=n0_;have HO253:=n1_;have HB:=n2_;clear n0_ n1_ n2_;(try clear hb);(try clear hb2);(try clear hk);(try clear hi);(try clear ho0)))
     go_roundg k1
     case measure=>have:=HK1.out;omega
     case rel=>exact ⟨(t251),(wrap64 (x4_1 + 1)),(by first|rfl|(simp;done)|(simp [*];done)),H',⟨by have:=HK1.out;omega⟩,⟨by (with_reducible repeat (first|apply Kd.R_alloc|apply Kd.R_drewN|apply Kd.R_drew));exact Kd.R_mono HO253.out (fun _ hk=>trivial)⟩,⟨by repeat (first|(with_reducible first|exact HB.out|apply below_alloc|apply pw_below_drewN|apply below_drew1)|exact HB.out)⟩⟩
    ·rw [if_neg c5] at H
     exact absurd H (by simp)
   ·rw [if_neg c4] at H
    have c4b0 : decide (x4_1 < (l0.length : Int)) = false:=decide_eq_false c4
    clear c4
    obtain ⟨y254,hy254⟩ : ∃ y_ : List (S67),y_ = (([] : List (S67))):=⟨_,rfl⟩
    replace H : (spec_l2Sum.l1 k1 x3_1 y254 0) = some r:=by first|(rw [hy254];with_reducible exact H)|(have H2_:=(Option.bind_some _ _).symm.trans H;rw [hy254];with_reducible exact H2_)|(have H2_:=(Option.bind_some _ _).symm.trans H;with_reducible exact H2_)|with_reducible exact H|(rw [hy254];exact H)|exact H
    have Ny254:=Aside0.mk hy254
    clear hy254
    have H':=Aside0.mk H
    clear H
    go_wp2_with (first|((with_reducible refine gate_dst (N:=20) rfl ?_);refine Kd.R_lit k67 _ 67 ?hg (N:=20) ?hd (xs:=([] : List (S67))) (inner:=[]) (ok:=fun _=>True) (okp:=fun _=>True) ?hr ?hp (fun _ hk=>hk) trivial (Below.refl _ _) (Nat.le_refl _) (by simp) ?_;(case hd=>rfl);(case hg=>rfl);(case hr=>first|(go_simp;done)|(go_simp;rfl));(case hp=>exact (Reps.none _ _));intro v255 w9 ho10 hb hg_ hnew_;clear hg_ hnew_;(first|rw [← Ny254.out] at ho10|(simp only [Int.reduceToNat] at ho10;rw [← Ny254.out] at ho10));have n0_:=Aside0.mk (Kd.R_elder' (by (with_reducible repeat (first|apply Kd.R_alloc|apply Kd.R_drewN|apply Kd.R_drew));exact HO_3.out) (Kd.R_base ho10) hb);have n1_:=Aside0.mk (Kd.R_lower (Kd.R_new' ho10 (Kd.R_lt (by (with_reducible repeat (first|apply Kd.R_alloc|apply Kd.R_drewN|apply Kd.R_drew));exact HO_3.out))) (below_size (by repeat (first|(with_reducible first|exact HB.out|apply below_alloc|apply pw_below_drewN|apply below_drew1)|exact HB.out))));have n2_:=Aside0.mk (below_step (by repeat (first|(with_reducible first|exact HB.out|apply below_alloc|apply pw_below_drewN|apply below_drew1)|exact HB.out)) hb);clear HO_3;clear HB;have HO_3:=n0_;have HO256:=n1_;have HB:=n2_;clear n0_ n1_ n2_;clear hb ho10))
    go_loopg [5,6] k1 (fun kq v5 v6 w'=>∃ (x5_2 : List (S67)) (x6_2 : Int),v6 = .int .i64 x6_2 ∧ Aside0 (spec_l2Sum.l1 kq x3_1 x5_2 x6_2 = some r) ∧ Aside0 (kq ≤ k1) ∧ Aside0 (Kd.R k67 67 w' w.heap.size (fun k_=>some k_ ≠ (v5 : Value).ownBlock) u3 x3_1) ∧ Aside0 (Kd.R k67 67 w' w.heap.size (fun k_=>some k_ ≠ (u3 : Value).ownBlock) v5 x5_2) ∧ Aside0 (Below w.heap.size w w'))
    case atStart=>exact ⟨(y254),(0),(by first|rfl|(simp;done)|(simp [*];done)),H',⟨Nat.le_refl _⟩,⟨by (with_reducible repeat (first|apply Kd.R_alloc|apply Kd.R_drewN|apply Kd.R_drew));exact Kd.R_mono HO_3.out (fun _ hk=>hk.2)⟩,⟨by (with_reducible repeat (first|apply Kd.R_alloc|apply Kd.R_drewN|apply Kd.R_drew));exact Kd.R_mono HO256.out (fun _ hk=>hk.2)⟩,⟨by repeat (first|(with_reducible first|exact HB.out|apply below_alloc|apply pw_below_drewN|apply below_drew1)|exact HB.out)⟩⟩
    case round =>
     clear H'
     try clear c1
     try clear p2
     try clear q2
     try clear hx2
     try clear c4
     try clear c4b0
     try clear c5
     try clear c5b0
     try clear p6
     try clear c9
     try clear c10
     try clear hx250_0
     try clear hx250_1
     try clear hx250_2
     try clear hx250_3
     try clear hx250_4
     try clear p2
     try clear p250
     try clear q250
     obtain ⟨x5_2,x6_2,rfl,HA,HK2,HO_3,HO_5,HB⟩:=hrel
     cases gk with
     | zero=>exact absurd HA.out (by simp [spec_l2Sum.l1])
     | succ k2 =>
      have H:=HA.out
      clear HA
      simp only [spec_l2Sum.l1] at H
      by_cases c11 : x6_2 < (x3_1.length : Int)
      ·rw [if_pos c11] at H
       have c11b0 : decide (x6_2 < (x3_1.length : Int)) = true:=decide_eq_true c11
       clear c11
       by_cases c12 : 0 ≤ x6_2
       ·rw [if_pos c12] at H
        have c12b0 : decide (0 ≤ x6_2) = true:=decide_eq_true c12
        clear c12
        by_cases c13 : ((rd_T67 x3_1 x6_2).f3) = 0
        ·rw [if_pos c13] at H
         have c13b0 : (((rd_T67 x3_1 x6_2).f3) == 0) = true:=beq_iff_eq.mpr c13
         have c13b1 : (((rd_T67 x3_1 x6_2).f3) != 0) = false:=bne_eq_false_iff_eq.mpr c13
         clear c13
         have H':=Aside0.mk H
         clear H
         obtain ⟨Ao14,co14,eo14⟩:=Kd.R_slice HO_3.out
         subst eo14
         have p257 : 0 ≤ (x6_2 : Int):=of_decide_eq_true (by first|(with_reducible assumption)|assumption)
         have q257 : x6_2 < (x3_1.length : Int):=of_decide_eq_true (by first|(with_reducible assumption)|assumption)
         obtain ⟨ad257,e257,hx257_0,hx257_1,hx257_2,hx257_3,hx257_4⟩:=at_T67 (Kd.R_reads' HO_3.out).2.2 x6_2 p257 q257
         cases e257
         replace p257:=eq_true p257
         replace q257:=eq_true q257
         go_wp2
         go_roundg k2
         case measure=>have:=HK1.out;have:=HK2.out;omega
         case rel=>exact ⟨(x5_2),(wrap64 (x6_2 + 1)),(by first|rfl|(simp;done)|(simp [*];done)),H',⟨by have:=HK1.out;have:=HK2.out;omega⟩,⟨by (with_reducible repeat (first|apply Kd.R_alloc|apply Kd.R_drewN|apply Kd.R_drew));exact HO_3.out⟩,⟨by (with_reducible repeat (first|apply Kd.R_alloc|apply Kd.R_drewN|apply Kd.R_drew));exact HO_5.out⟩,⟨by repeat (first|(with_reducible first|exact HB.out|apply below_alloc|apply pw_below_drewN|apply below_drew1)|exact HB.out)⟩⟩
        ·rw [if_neg c13] at H
         have c13b0 : (((rd_T67 x3_1 x6_2).f3) == 0) = false:=beq_eq_false_iff_ne.mpr c13
         have c13b1 : (((rd_T67 x3_1 x6_2).f3) != 0) = true:=bne_iff_ne.mpr c13
         by_cases c15 : x5_2.length < 3518437208883
         ·rw [if_pos c15] at H
          have LMc15:=Aside0.mk c15
          clear c15
          obtain ⟨y259,hy259⟩ : ∃ y_ : List (S67),y_ = (x5_2 ++ [(⟨(rd_T67 x3_1 x6_2).f0,(rd_T67 x3_1 x6_2).f1,(⟨(rd_T67 x3_1 x6_2).f2.f0,(rd_T67 x3_1 x6_2).f2.f1⟩ : S26),(rd_T67 x3_1 x6_2).f3⟩ : S67)]):=⟨_,rfl⟩
          replace H : (spec_l2Sum.l1 k2 x3_1 y259 (wrap64 (x6_2 + 1))) = some r:=by first|(rw [hy259];with_reducible exact H)|(have H2_:=(Option.bind_some _ _).symm.trans H;rw [hy259];with_reducible exact H2_)|(have H2_:=(Option.bind_some _ _).symm.trans H;with_reducible exact H2_)|with_reducible exact H|(rw [hy259];exact H)|exact H
          have Ny259:=Aside0.mk hy259
          clear hy259
          have H':=Aside0.mk H
          clear H
          obtain ⟨Ao16,co16,eo16⟩:=Kd.R_slice HO_3.out
          subst eo16
          have p257 : 0 ≤ (x6_2 : Int):=of_decide_eq_true (by first|(with_reducible assumption)|assumption)
          have q257 : x6_2 < (x3_1.length : Int):=of_decide_eq_true (by first|(with_reducible assumption)|assumption)
          obtain ⟨ad257,e257,hx257_0,hx257_1,hx257_2,hx257_3,hx257_4⟩:=at_T67 (Kd.R_reads' HO_3.out).2.2 x6_2 p257 q257
          cases e257
          replace p257:=eq_true p257
          replace q257:=eq_true q257
          have p258 : 0 ≤ (x6_2 : Int):=of_decide_eq_true (by first|(with_reducible assumption)|assumption)
          have q258 : x6_2 < (x3_1.length : Int):=of_decide_eq_true (by first|(with_reducible assumption)|assumption)
          obtain ⟨ad258,e258,hx258_0,hx258_1,hx258_2,hx258_3,hx258_4⟩:=at_T67 (Kd.R_reads' HO_3.out).2.2 x6_2 p258 q258
          obtain rfl : ad257 = ad258:=(by injection e258)
          replace p258:=eq_true p258
          replace q258:=eq_true q258
          go_wp2_with (first|((with_reducible refine gate_builtin (b:=.append) (xs:=#[.tmp 33,.tmp 38]) rfl ?_);at_builtin;refine Kd.R_append k67 (w0:=w) w.heap.size rfl (.tmp 33) (.tmp 38) 45 67 (.agg #[(.int .i64 0),(.int .i64 0),(.int .i64 0),(.int .i64 0),(.int .i64 0)]) 40 rfl Try.underlying45 info67 rfl (by decide) (by omega) u5 x5_2 (⟨(rd_T67 x3_1 x6_2).f0,(rd_T67 x3_1 x6_2).f1,(⟨(rd_T67 x3_1 x6_2).f2.f0,(rd_T67 x3_1 x6_2).f2.f1⟩ : S26),(rd_T67 x3_1 x6_2).f3⟩ : S67) [.int .i64 ((rd_T67 x3_1 x6_2).f0),.int .i64 ((rd_T67 x3_1 x6_2).f1),.int .i64 ((rd_T67 x3_1 x6_2).f2.f0),.int .i64 ((rd_T67 x3_1 x6_2).f2.f1),.int .i64 ((rd_T67 x3_1 x6_2).f3)] (fun k_=>some k_ ≠ (.slice (some ad257) x3_1.length co16 : Value).ownBlock) (fun _=>False) rfl rfl ?aP (fun _ hk=>hk.elim) ?aF ?aO ?aB ?aS ?aL ?_;(case aP=>exact k67_mkM _ _ _ (⟨(rd_T67 x3_1 x6_2).f0,(rd_T67 x3_1 x6_2).f1,(⟨(rd_T67 x3_1 x6_2).f2.f0,(rd_T67 x3_1 x6_2).f2.f1⟩ : S26),(rd_T67 x3_1 x6_2).f3⟩ : S67));(case aB=>exact (by repeat (first|(with_reducible first|exact HB.out|apply below_alloc|apply pw_below_drewN|apply below_drew1)|exact HB.out)));(case aF=>exact (fun k_ hk=>Kd.fresh' (Kd.R_lt (by (with_reducible repeat (first|apply Kd.R_alloc|apply Kd.R_drewN|apply Kd.R_drew));exact HO_3.out)) k_ hk));(case aO=>exact (by (with_reducible repeat (first|apply Kd.R_alloc|apply Kd.R_drewN|apply Kd.R_drew));exact HO_5.out));(case aS=>exact (below_size (by repeat (first|(with_reducible first|exact HB.out|apply below_alloc|apply pw_below_drewN|apply below_drew1)|exact HB.out))));(case aL=>have:=LMc15.out;omega);intro v260 w17 ho hb hg hat;rw [← Ny259.out] at ho;have n0_:=Aside0.mk (Kd.R_after (ok:=(fun _=>True)) (by (with_reducible repeat (first|apply Kd.R_alloc|apply Kd.R_drewN|apply Kd.R_drew));exact Kd.R_mono HO_3.out (fun _ hk=>⟨trivial,hk⟩)) hg hat);have n1_:=Aside0.mk (hb);have n2_:=Aside0.mk (ho);clear HO_3;clear HB;clear HO_5;have HO_3:=n0_;have HB:=n1_;have HO261:=n2_;clear n0_ n1_ n2_;clear ho hb hg hat))
          go_roundg k2
          case measure=>have:=HK1.out;have:=HK2.out;omega
          case rel=>exact ⟨(y259),(wrap64 (x6_2 + 1)),(by first|rfl|(simp;done)|(simp [*];done)),H',⟨by have:=HK1.out;have:=HK2.out;omega⟩,⟨by (with_reducible repeat (first|apply Kd.R_alloc|apply Kd.R_drewN|apply Kd.R_drew));exact Kd.R_mono HO_3.out (fun _ hk=>hk.2)⟩,⟨by (with_reducible repeat (first|apply Kd.R_alloc|apply Kd.R_drewN|apply Kd.R_drew));exact HO261.out⟩,⟨by repeat (first|(with_reducible first|exact HB.out|apply below_alloc|apply pw_below_drewN|apply below_drew1)|exact HB.out)⟩⟩
         ·rw [if_neg c15] at H
          exact absurd H (by simp)
       ·rw [if_neg c12] at H
        exact absurd H (by simp)
      ·rw [if_neg c11] at H
       have c11b0 : decide (x6_2 < (x3_1.length : Int)) = false:=decide_eq_false c11
       clear c11
       obtain rfl:=Option.some.inj H
       obtain ⟨Ao18,co18,eo18⟩:=Kd.R_slice HO_3.out
       subst eo18
       go_wp2
       go_ret
       exact ⟨_,by first|rfl|(simp [errW_none,errW_some] <;> rfl)|(simp [*,errW_none,errW_some] <;> rfl),by (with_reducible repeat (first|apply Kd.R_alloc|apply Kd.R_drewN|apply Kd.R_drew));exact Kd.R_mono HO_5.out (fun _ hk=>trivial),by repeat (first|(with_reducible first|exact HB.out|apply below_alloc|apply pw_below_drewN|apply below_drew1)|exact HB.out)⟩
mutual
def spec_l2Items.l0 : Nat → List (S60) → List (S67) → Int → Option ((List (S60)))
 | 0, _, _, _ => none
 | k + 1, x0, x3, x4 => if x4 < (x0.length : Int) then (if 0 ≤ x4 then (if x3.length < 3518437208883 then (spec_l2Items.l0 k x0 (x3 ++ [(⟨(rd_T60 x0 x4).f0, (rd_T60 x0 x4).f1, (⟨0, 0⟩ : S26), (rd_T60 x0 x4).f2⟩ : S67)]) (wrap64 (x4 + 1))) else (none)) else (none)) else ((spec_l2Sum.f k x3).bind fun t271 => (spec_l2Items.l1 k t271 (([] : List (S60))) 0))
def spec_l2Items.l1 : Nat → List (S67) → List (S60) → Int → Option ((List (S60)))
 | 0, _, _, _ => none
 | k + 1, x5, x6, x7 => if x7 < (x5.length : Int) then (if 0 ≤ x7 then (if x6.length < 5864062014805 then (spec_l2Items.l1 k x5 (x6 ++ [(⟨(rd_T67 x5 x7).f0, (rd_T67 x5 x7).f1, (rd_T67 x5 x7).f3⟩ : S60)]) (wrap64 (x7 + 1))) else (none)) else (none)) else (some x6)
end
def spec_l2Items.f (k : Nat) (l0 : List (S60)) : Option ((List (S60))) := spec_l2Items.l0 k l0 (([] : List (S67))) 0
theorem spec_l2Items.mono_l : ∀ k,(∀ y0 y1 y2,LeO (spec_l2Items.l0 k y0 y1 y2) (spec_l2Items.l0 (k + 1) y0 y1 y2)) ∧ (∀ y0 y1 y2,LeO (spec_l2Items.l1 k y0 y1 y2) (spec_l2Items.l1 (k + 1) y0 y1 y2))
 | 0=>⟨fun _ _ _ r h=>by simp [spec_l2Items.l0] at h,fun _ _ _ r h=>by simp [spec_l2Items.l1] at h⟩
 | k + 1=>by
  obtain ⟨ih0,ih1⟩:=spec_l2Items.mono_l k
  refine ⟨?_,?_⟩
  ·intro y0 y1 y2
   unfold spec_l2Items.l0
   repeat' first
   | (with_reducible exact ih0 _ _ _)
   | (with_reducible exact ih1 _ _ _)
   | (with_reducible exact spec_l2Sum.mono _ _)
   | (with_reducible exact LeO.refl _)
   | (with_reducible exact LeO.none _)
   | (with_reducible refine LeO.ite ?_ ?_)
   | (with_reducible refine LeO.bind ?_ (fun _=>?_))
   | exact ih0 _ _ _
   | exact ih1 _ _ _
   | exact spec_l2Sum.mono _ _
   | exact LeO.none _
   | refine LeO.ite ?_ ?_
   | refine LeO.bind ?_ (fun _=>?_)
  ·intro y0 y1 y2
   unfold spec_l2Items.l1
   repeat' first
   | (with_reducible exact ih0 _ _ _)
   | (with_reducible exact ih1 _ _ _)
   | (with_reducible exact spec_l2Sum.mono _ _)
   | (with_reducible exact LeO.refl _)
   | (with_reducible exact LeO.none _)
   | (with_reducible refine LeO.ite ?_ ?_)
   | (with_reducible refine LeO.bind ?_ (fun _=>?_))
   | exact ih0 _ _ _
   | exact ih1 _ _ _
   | exact spec_l2Sum.mono _ _
   | exact LeO.none _
   | refine LeO.ite ?_ ?_
   | refine LeO.bind ?_ (fun _=>?_)
theorem spec_l2Items.mono : ∀ a0 k,LeO (spec_l2Items.f k a0) (spec_l2Items.f (k + 1) a0):=by
 intro a0 k
 obtain ⟨ih0,ih1⟩:=spec_l2Items.mono_l k
 unfold spec_l2Items.f
 repeat' first
   | (with_reducible exact ih0 _ _ _)
   | (with_reducible exact ih1 _ _ _)
   | (with_reducible exact spec_l2Sum.mono _ _)
   | (with_reducible exact LeO.refl _)
   | (with_reducible exact LeO.none _)
   | (with_reducible refine LeO.ite ?_ ?_)
   | (with_reducible refine LeO.bind ?_ (fun _=>?_))
   | exact ih0 _ _ _
   | exact ih1 _ _ _
   | exact spec_l2Sum.mono _ _
   | exact LeO.none _
   | refine LeO.ite ?_ ?_
   | refine LeO.bind ?_ (fun _=>?_)
def spec_l2Items.T5 : Bool × List (List Nat × List Nat) := (true, [([], []), ([], []), ([], []), ([1, 2], [1, 2]), ([3], [3]), ([4], [4]), ([], []), ([], []), ([6, 7], [6, 7]), ([8], [8]), ([9], [9]), ([], []), ([], []), ([11, 12], [11, 12]), ([13], [13]), ([14], [14]), ([5, 10, 15], [5, 10, 15]), ([16], [16]), ([0, 17], [0, 17]), ([18, 18, 0, 1, 2, 3, 4, 5, 6, 7, 8, 9, 10, 11, 12, 13, 14, 15, 16, 17, 18], [0, 18])])
def spec_l2Items.B5 : List Nat := [0, 0, 0, 6, 14, 30, 0, 0, 192, 448, 960, 0, 0, 6144, 14336, 30720, 65534, 131070, 262143, 524287]
theorem spec_l2Items.tab5 : rtab .any (opsOf Try.f96 5) = spec_l2Items.T5:=by kernel_rfl
theorem spec_l2Items.bits5 : waitsOk spec_l2Items.T5.2 spec_l2Items.B5 = true:=by kernel_rfl
def spec_l2Items.T11 : Bool × List (List Nat × List Nat) := (true, [([], []), ([], []), ([], []), ([1, 2], [1, 2]), ([3], [3]), ([4], [4]), ([], []), ([], []), ([6, 7], [6, 7]), ([8], [8]), ([9], [9]), ([], []), ([], []), ([11, 12], [11, 12]), ([13], [13]), ([14], [14]), ([5, 10, 15], [5, 10, 15]), ([16], [16]), ([0, 17], [0, 17]), ([18, 18, 0, 1, 2, 3, 4, 5, 6, 7, 8, 9, 10, 11, 12, 13, 14, 15, 16, 17, 18], [0, 18])])
def spec_l2Items.B11 : List Nat := [0, 0, 0, 6, 14, 30, 0, 0, 192, 448, 960, 0, 0, 6144, 14336, 30720, 65534, 131070, 262143, 524287]
theorem spec_l2Items.tab11 : rtab .any (opsOf Try.f96 11) = spec_l2Items.T11:=by kernel_rfl
theorem spec_l2Items.bits11 : waitsOk spec_l2Items.T11.2 spec_l2Items.B11 = true:=by kernel_rfl
end Go.Proofs.Ytiegpijhkhopgaa.PFnSetLeast
