/- Functions that the law comes to: each as a plain Lean function, with the contract of the Go function. -/
import Derived.Test.YtiegpijhkhopgaaVFnSetLeastw
import Derived.Test.YtiegpijhkhopgaaVFnSetLeastp0
import Derived.Test.YtiegpijhkhopgaaVFnSetLeastp1
import Derived.Test.YtiegpijhkhopgaaVFnSetLeastp2
import Derived.Test.YtiegpijhkhopgaaVFnSetLeastp5
namespace Go.Proofs.Ytiegpijhkhopgaa.PFnSetLeast
open Go.RowKit Go.Proofs.YtiegpijhkhopgaaW.PrintWords Go.Proofs.YtiegpijhkhopgaaW.PrintLast Go.Proofs.YtiegpijhkhopgaaW.PrintMore
attribute [local go_sem] max2_int min2_int max_two min_two max_three min_three max_four min_four
set_option linter.unusedVariables false
set_option linter.unusedSimpArgs false
attribute [local go_sem high] eqA60
set_option maxHeartbeats 8000000 in
set_option maxRecDepth 100000 in
theorem laws_FnSetLeast.calls (k : Nat) (A0 : Option Addr) (c0 : Nat) (l0 : List Int) (r : Bool) (w : World) (hr0 : Kd.C (Kd.int .u8) w A0 l0.length l0) (hc0 : l0.length ≤ c0) (h : laws_FnSetLeast.f k l0 = some r) (hr_ : r = true) :
  Calls Try.prog 15 #[.slice A0 l0.length c0] w fun e w'=>e = .returned (.bool r) ∧ Below w.heap.size w w':=by
 have hu60:=Try.underlying60
 have HR0:=Aside0.mk hr0
 have HC0:=Aside0.mk hc0
 clear hr0 hc0
 have HB:=Aside0.mk (Below.refl w.heap.size w)
 have hq_:=Aside0.mk hr_
 clear hr_
 have H : (if (l0.length : Int) > 1048576 then (some true) else ((spec_DrawSetLeast.f k l0).bind fun t386=>((impl_SetLeast.f k t386).bind fun t389=>((spec_SetLeast.f k t386).bind fun t392=>((laws_lwItems.f k t389 t392).bind fun t395=>(if t395 = true then ((spec_SetOk.f k t386).bind fun t396=>(laws_FnSetLeast.j0 k t386 t389 (!t396))) else (laws_FnSetLeast.j0 k t386 t389 true))))))) = some r:=h
 clear h
 by_cases c2 : (l0.length : Int) > 1048576
 ·rw [if_pos c2] at H
  have c2b0 : decide (1048576 < (l0.length : Int)) = true:=decide_eq_true c2
  have c2b1 : decide (1048576 < l0.length) = true:=decide_eq_true (by omega)
  clear c2
  obtain rfl:=Option.some.inj H
  go_enter Try.func15,Try.ntmps15
  go_wp2
  go_ret
  exact ⟨by first|rfl|(simp [errW_none,errW_some] <;> rfl)|(simp [*,errW_none,errW_some] <;> rfl),by repeat (first|(with_reducible first|exact HB.out|apply below_alloc|apply pw_below_drewN|apply below_drew1)|exact HB.out)⟩
 ·rw [if_neg c2] at H
  have c2b0 : decide (1048576 < (l0.length : Int)) = false:=decide_eq_false c2
  have c2b1 : decide (1048576 < l0.length) = false:=decide_eq_false (by omega)
  clear c2
  replace H:=Option.bind_eq_some_iff.mp H
  obtain ⟨t386,A30,H⟩:=H
  replace H : ((impl_SetLeast.f k t386).bind fun t389=>((spec_SetLeast.f k t386).bind fun t392=>((laws_lwItems.f k t389 t392).bind fun t395=>(if t395 = true then ((spec_SetOk.f k t386).bind fun t396=>(laws_FnSetLeast.j0 k t386 t389 (!t396))) else (laws_FnSetLeast.j0 k t386 t389 true))))) = some r:=H
  have A3:=Aside0.mk A30
  clear A30
  replace H:=Option.bind_eq_some_iff.mp H
  obtain ⟨t389,A40,H⟩:=H
  replace H : ((spec_SetLeast.f k t386).bind fun t392=>((laws_lwItems.f k t389 t392).bind fun t395=>(if t395 = true then ((spec_SetOk.f k t386).bind fun t396=>(laws_FnSetLeast.j0 k t386 t389 (!t396))) else (laws_FnSetLeast.j0 k t386 t389 true)))) = some r:=H
  have A4:=Aside0.mk A40
  clear A40
  have HC5:=Aside0.mk H
  clear H
  go_enter Try.func15,Try.ntmps15
  go_upto_region 5 with (first|((with_reducible refine gate_callee (f:=54) rfl ?_);refine goesL_ (some 14) rfl rfl Try.func54 (by kernel_rfl) rfl #[.slice A0 l0.length c0] rfl (by (try simp only [List.map_toArray,List.map_cons,List.map_nil]);first|done|rfl|(simp only [List.length_drop,List.length_take];rfl)) ?_;(with_reducible refine (spec_DrawSetLeast.calls k _ _ l0 t386 _ ?side1 ?side2 A3.out).mono ?_);(case side1=>repeat (first|exact HR0.out|(with_reducible refine Kd.C_alloc ?_ _)|(with_reducible refine Kd.C_drewN ?_ _)|(with_reducible refine Kd.C_drew ?_)));(case side2=>exact HC0.out);rintro e w6 ⟨v387,rfl,ho0,hb⟩;refine ⟨_,rfl,?_⟩;have n0_:=Aside0.mk (Kd.R_lower ho0 (below_size (by repeat (first|(with_reducible first|exact HB.out|apply below_alloc|apply pw_below_drewN|apply below_drew1)|exact HB.out))));have n1_:=Aside0.mk (below_step (by repeat (first|(with_reducible first|exact HB.out|apply below_alloc|apply pw_below_drewN|apply below_drew1)|exact HB.out)) hb);clear HB;have HO388:=n0_;have HB:=n1_;clear n0_ n1_;(try clear hb);(try clear hb2);(try clear hk);(try clear hi);(try clear ho0);obtain ⟨Ao7,co7,eo7⟩:=Kd.R_slice HO388.out;subst eo7)|((with_reducible refine gate_callee (f:=46) rfl ?_);refine goesL_ (some 16) rfl rfl Try.func46 (by kernel_rfl) rfl #[.slice Ao7 t386.length co7] rfl (by (try simp only [List.map_toArray,List.map_cons,List.map_nil]);first|done|rfl|(simp only [List.length_drop,List.length_take];rfl)) ?_;(with_reducible refine (impl_SetLeast.calls k _ _ t386 t389 _ ?side1 ?side2 A4.out).mono ?_);(case side1=>repeat (first|exact (Kd.R_reads' HO388.out).2.2|(with_reducible refine Kd.C_alloc ?_ _)|(with_reducible refine Kd.C_drewN ?_ _)|(with_reducible refine Kd.C_drew ?_)));(case side2=>exact (Kd.R_reads' HO388.out).2.1);rintro e w8 ⟨v390,rfl,ho0,hb⟩;refine ⟨_,rfl,?_⟩;have n0_:=Aside0.mk (Kd.R_elder' (by (with_reducible repeat (first|apply Kd.R_alloc|apply Kd.R_drewN|apply Kd.R_drew));exact HO388.out) (Kd.R_base ho0) hb);have n1_:=Aside0.mk (Kd.R_lower (Kd.R_new' ho0 (Kd.R_lt (by (with_reducible repeat (first|apply Kd.R_alloc|apply Kd.R_drewN|apply Kd.R_drew));exact HO388.out))) (below_size (by repeat (first|(with_reducible first|exact HB.out|apply below_alloc|apply pw_below_drewN|apply below_drew1)|exact HB.out))));have n2_:=Aside0.mk (below_step (by repeat (first|(with_reducible first|exact HB.out|apply below_alloc|apply pw_below_drewN|apply below_drew1)|exact HB.out)) hb);clear HO388;clear HB;have HO388:=n0_;have HO391:=n1_;have HB:=n2_;clear n0_ n1_ n2_;(try clear hb);(try clear hb2);(try clear hk);(try clear hi);(try clear ho0)))
  (try simp only [Act.put,sA_,sZ_,sS_])
  go_cut [26] (fun v26 wc=>∃ (kq : Nat) (x26_4 : Bool),v26 = .bool x26_4 ∧ Aside0 (laws_FnSetLeast.j0 kq t386 t389 x26_4 = some r) ∧ Aside0 (kq ≤ k) ∧ Aside0 (Kd.R k60 60 wc w.heap.size (fun k_=>some k_ ≠ (v390 : Value).ownBlock) (.slice Ao7 t386.length co7) t386) ∧ Aside0 (Kd.R k60 60 wc w.heap.size (fun k_=>some k_ ≠ ((.slice Ao7 t386.length co7) : Value).ownBlock) v390 t389) ∧ Aside0 (Below w.heap.size w wc))
  case first =>
   have H:=HC5.out
   clear HC5
   replace H:=Option.bind_eq_some_iff.mp H
   obtain ⟨t392,A90,H⟩:=H
   replace H : ((laws_lwItems.f k t389 t392).bind fun t395=>(if t395 = true then ((spec_SetOk.f k t386).bind fun t396=>(laws_FnSetLeast.j0 k t386 t389 (!t396))) else (laws_FnSetLeast.j0 k t386 t389 true))) = some r:=H
   have A9:=Aside0.mk A90
   clear A90
   replace H:=Option.bind_eq_some_iff.mp H
   obtain ⟨t395,A100,H⟩:=H
   replace H : (if t395 = true then ((spec_SetOk.f k t386).bind fun t396=>(laws_FnSetLeast.j0 k t386 t389 (!t396))) else (laws_FnSetLeast.j0 k t386 t389 true)) = some r:=H
   have A10:=Aside0.mk A100
   clear A100
   by_cases c11 : t395 = true
   ·subst c11
    have H1 : ((spec_SetOk.f k t386).bind fun t396=>(laws_FnSetLeast.j0 k t386 t389 (!t396))) = some r:=by rw [if_pos rfl] at H;exact H
    clear H
    have H:=H1
    clear H1
    replace H:=Option.bind_eq_some_iff.mp H
    obtain ⟨t396,A120,H⟩:=H
    replace H : (laws_FnSetLeast.j0 k t386 t389 (!t396)) = some r:=H
    have A12:=Aside0.mk A120
    clear A120
    have H':=Aside0.mk H
    clear H
    go_wp2_with (first|((with_reducible refine gate_callee (f:=45) rfl ?_);refine goesL_ (some 19) rfl rfl Try.func45 (by kernel_rfl) rfl #[.slice Ao7 t386.length co7] rfl (by (try simp only [List.map_toArray,List.map_cons,List.map_nil]);first|done|rfl|(simp only [List.length_drop,List.length_take];rfl)) ?_;(with_reducible refine (spec_SetLeast.calls k _ _ t386 t392 _ ?side1 ?side2 A9.out).mono ?_);(case side1=>repeat (first|exact (Kd.R_reads' HO388.out).2.2|(with_reducible refine Kd.C_alloc ?_ _)|(with_reducible refine Kd.C_drewN ?_ _)|(with_reducible refine Kd.C_drew ?_)));(case side2=>exact (Kd.R_reads' HO388.out).2.1);rintro e w13 ⟨v393,rfl,ho0,hb⟩;refine ⟨_,rfl,?_⟩;have n0_:=Aside0.mk (Kd.R_elder' (by (with_reducible repeat (first|apply Kd.R_alloc|apply Kd.R_drewN|apply Kd.R_drew));exact HO388.out) (Kd.R_base ho0) hb);have n1_:=Aside0.mk (Kd.R_elder' (by (with_reducible repeat (first|apply Kd.R_alloc|apply Kd.R_drewN|apply Kd.R_drew));exact HO391.out) (Kd.R_base ho0) hb);have n2_:=Aside0.mk (Kd.R_lower (Kd.R_new' (Kd.R_new' ho0 (Kd.R_lt (by (with_reducible repeat (first|apply Kd.R_alloc|apply Kd.R_drewN|apply Kd.R_drew));exact HO388.out))) (Kd.R_lt (by (with_reducible repeat (first|apply Kd.R_alloc|apply Kd.R_drewN|apply Kd.R_drew));exact HO391.out))) (below_size (by repeat (first|(with_reducible first|exact HB.out|apply below_alloc|apply pw_below_drewN|apply below_drew1)|exact HB.out))));have n3_:=Aside0.mk (below_step (by repeat (first|(with_reducible first|exact HB.out|apply below_alloc|apply pw_below_drewN|apply below_drew1)|exact HB.out)) hb);clear HO388;clear HO391;clear HB;have HO388:=n0_;have HO391:=n1_;have HO394:=n2_;have HB:=n3_;clear n0_ n1_ n2_ n3_;(try clear hb);(try clear hb2);(try clear hk);(try clear hi);(try clear ho0);obtain ⟨Ao14,co14,eo14⟩:=Kd.R_slice HO391.out;subst eo14;obtain ⟨Ao15,co15,eo15⟩:=Kd.R_slice HO394.out;subst eo15)|((with_reducible refine gate_callee (f:=50) rfl ?_);refine goesL_ (some 20) rfl rfl Try.func50 (by kernel_rfl) rfl #[.slice Ao14 t389.length co14,.slice Ao15 t392.length co15] rfl (by (try simp only [List.map_toArray,List.map_cons,List.map_nil]);first|done|rfl|(simp only [List.length_drop,List.length_take];rfl)) ?_;(with_reducible refine (laws_lwItems.calls k _ _ t389 _ _ t392 true _ ?side1 ?side2 ?side3 ?side4 A10.out).mono ?_);(case side1=>repeat (first|exact (Kd.R_reads' HO391.out).2.2|(with_reducible refine Kd.C_alloc ?_ _)|(with_reducible refine Kd.C_drewN ?_ _)|(with_reducible refine Kd.C_drew ?_)));(case side2=>exact (Kd.R_reads' HO391.out).2.1);(case side3=>repeat (first|exact (Kd.R_reads' HO394.out).2.2|(with_reducible refine Kd.C_alloc ?_ _)|(with_reducible refine Kd.C_drewN ?_ _)|(with_reducible refine Kd.C_drew ?_)));(case side4=>exact (Kd.R_reads' HO394.out).2.1);rintro e w' ⟨rfl,⟨nd,rfl⟩⟩;refine ⟨_,rfl,?_⟩)|(go_at_call 51;(with_reducible refine (spec_SetOk.calls k _ _ t386 t396 _ ?side1 ?side2 A12.out).mono ?_);(case side1=>repeat (first|exact (Kd.R_reads' HO388.out).2.2|(with_reducible refine Kd.C_alloc ?_ _)|(with_reducible refine Kd.C_drewN ?_ _)|(with_reducible refine Kd.C_drew ?_)));(case side2=>exact (Kd.R_reads' HO388.out).2.1);rintro e w16 ⟨rfl,hb⟩;have n0_:=Aside0.mk (Kd.R_below (by (with_reducible repeat (first|apply Kd.R_alloc|apply Kd.R_drewN|apply Kd.R_drew));exact HO388.out) hb);have n1_:=Aside0.mk (Kd.R_below (by (with_reducible repeat (first|apply Kd.R_alloc|apply Kd.R_drewN|apply Kd.R_drew));exact HO391.out) hb);have n2_:=Aside0.mk (Kd.R_below (by (with_reducible repeat (first|apply Kd.R_alloc|apply Kd.R_drewN|apply Kd.R_drew));exact HO394.out) hb);have n3_:=Aside0.mk (below_step (by repeat (first|(with_reducible first|exact HB.out|apply below_alloc|apply pw_below_drewN|apply below_drew1)|exact HB.out)) hb);clear HO388;clear HO391;clear HO394;clear HB;have HO388:=n0_;have HO391:=n1_;have HO394:=n2_;have HB:=n3_;clear n0_ n1_ n2_ n3_;(try clear hb);(try clear hb2);(try clear hk);(try clear hi)))
    go_meet
    case rel=>exact ⟨_,(!t396),(by first|rfl|(simp;done)|(simp [*];done)),H',⟨by first|omega|exact Nat.le_refl _⟩,⟨by (with_reducible repeat (first|apply Kd.R_alloc|apply Kd.R_drewN|apply Kd.R_drew));exact Kd.R_mono HO388.out (fun _ hk=>hk.1.2)⟩,⟨by (with_reducible repeat (first|apply Kd.R_alloc|apply Kd.R_drewN|apply Kd.R_drew));exact Kd.R_mono HO391.out (fun _ hk=>hk.1.2)⟩,⟨by repeat (first|(with_reducible first|exact HB.out|apply below_alloc|apply pw_below_drewN|apply below_drew1)|exact HB.out)⟩⟩
   ·replace c11:=Bool.eq_false_iff.mpr c11
    subst c11
    have H1 : (laws_FnSetLeast.j0 k t386 t389 true) = some r:=by rw [if_neg (show ¬ (false = true) by decide)] at H;exact H
    clear H
    have H:=H1
    clear H1
    have H':=Aside0.mk H
    clear H
    go_wp2_with (first|((with_reducible refine gate_callee (f:=45) rfl ?_);refine goesL_ (some 19) rfl rfl Try.func45 (by kernel_rfl) rfl #[.slice Ao7 t386.length co7] rfl (by (try simp only [List.map_toArray,List.map_cons,List.map_nil]);first|done|rfl|(simp only [List.length_drop,List.length_take];rfl)) ?_;(with_reducible refine (spec_SetLeast.calls k _ _ t386 t392 _ ?side1 ?side2 A9.out).mono ?_);(case side1=>repeat (first|exact (Kd.R_reads' HO388.out).2.2|(with_reducible refine Kd.C_alloc ?_ _)|(with_reducible refine Kd.C_drewN ?_ _)|(with_reducible refine Kd.C_drew ?_)));(case side2=>exact (Kd.R_reads' HO388.out).2.1);rintro e w17 ⟨v393,rfl,ho0,hb⟩;refine ⟨_,rfl,?_⟩;have n0_:=Aside0.mk (Kd.R_elder' (by (with_reducible repeat (first|apply Kd.R_alloc|apply Kd.R_drewN|apply Kd.R_drew));exact HO388.out) (Kd.R_base ho0) hb);have n1_:=Aside0.mk (Kd.R_elder' (by (with_reducible repeat (first|apply Kd.R_alloc|apply Kd.R_drewN|apply Kd.R_drew));exact HO391.out) (Kd.R_base ho0) hb);have n2_:=Aside0.mk (Kd.R_lower (Kd.R_new' (Kd.R_new' ho0 (Kd.R_lt (by (with_reducible repeat (first|apply Kd.R_alloc|apply Kd.R_drewN|apply Kd.R_drew));exact HO388.out))) (Kd.R_lt (by (with_reducible repeat (first|apply Kd.R_alloc|apply Kd.R_drewN|apply Kd.R_drew));exact HO391.out))) (below_size (by repeat (first|(with_reducible first|exact HB.out|apply below_alloc|apply pw_below_drewN|apply below_drew1)|exact HB.out))));have n3_:=Aside0.mk (below_step (by repeat (first|(with_reducible first|exact HB.out|apply below_alloc|apply pw_below_drewN|apply below_drew1)|exact HB.out)) hb);clear HO388;clear HO391;clear HB;have HO388:=n0_;have HO391:=n1_;have HO394:=n2_;have HB:=n3_;clear n0_ n1_ n2_ n3_;(try clear hb);(try clear hb2);(try clear hk);(try clear hi);(try clear ho0);obtain ⟨Ao18,co18,eo18⟩:=Kd.R_slice HO391.out;subst eo18;obtain ⟨Ao19,co19,eo19⟩:=Kd.R_slice HO394.out;subst eo19)|((with_reducible refine gate_callee (f:=50) rfl ?_);refine goesL_ (some 20) rfl rfl Try.func50 (by kernel_rfl) rfl #[.slice Ao18 t389.length co18,.slice Ao19 t392.length co19] rfl (by (try simp only [List.map_toArray,List.map_cons,List.map_nil]);first|done|rfl|(simp only [List.length_drop,List.length_take];rfl)) ?_;(with_reducible refine (laws_lwItems.calls k _ _ t389 _ _ t392 false _ ?side1 ?side2 ?side3 ?side4 A10.out).mono ?_);(case side1=>repeat (first|exact (Kd.R_reads' HO391.out).2.2|(with_reducible refine Kd.C_alloc ?_ _)|(with_reducible refine Kd.C_drewN ?_ _)|(with_reducible refine Kd.C_drew ?_)));(case side2=>exact (Kd.R_reads' HO391.out).2.1);(case side3=>repeat (first|exact (Kd.R_reads' HO394.out).2.2|(with_reducible refine Kd.C_alloc ?_ _)|(with_reducible refine Kd.C_drewN ?_ _)|(with_reducible refine Kd.C_drew ?_)));(case side4=>exact (Kd.R_reads' HO394.out).2.1);rintro e w' ⟨rfl,⟨nd,rfl⟩⟩;refine ⟨_,rfl,?_⟩))
    go_meet
    case rel=>exact ⟨_,(true),(by first|rfl|(simp;done)|(simp [*];done)),H',⟨by first|omega|exact Nat.le_refl _⟩,⟨by (with_reducible repeat (first|apply Kd.R_alloc|apply Kd.R_drewN|apply Kd.R_drew));exact Kd.R_mono HO388.out (fun _ hk=>hk.1.2)⟩,⟨by (with_reducible repeat (first|apply Kd.R_alloc|apply Kd.R_drewN|apply Kd.R_drew));exact Kd.R_mono HO391.out (fun _ hk=>hk.1.2)⟩,⟨by repeat (first|(with_reducible first|exact HB.out|apply below_alloc|apply pw_below_drewN|apply below_drew1)|exact HB.out)⟩⟩
  case rest =>
   clear HC5
   try clear c1
   try clear c2
   try clear c2b0
   try clear c2b1
   try clear p2
   try clear c4
   try clear c5
   try clear c11
   try clear c15
   obtain ⟨kq,x26_4,rfl,HA,HJ4,HO_3,HO_4,HB⟩:=hcut
   cases kq with
   | zero=>exact absurd HA.out (by simp [laws_FnSetLeast.j0])
   | succ kj4 =>
    have H:=HA.out
    clear HA
    simp only [laws_FnSetLeast.j0] at H
    by_cases c20 : x26_4 = true
    ·subst c20
     have H1 : ((spec_SetLeast.f kj4 t386).bind fun t397=>((laws_lwItems.f kj4 t389 t397).bind fun t400=>(some t400))) = some r:=by rw [if_pos rfl] at H;exact H
     clear H
     have H:=H1
     clear H1
     replace H:=Option.bind_eq_some_iff.mp H
     obtain ⟨t397,A210,H⟩:=H
     replace H : ((laws_lwItems.f kj4 t389 t397).bind fun t400=>(some t400)) = some r:=H
     have A21:=Aside0.mk A210
     clear A210
     replace H:=Option.bind_eq_some_iff.mp H
     obtain ⟨t400,A220,H⟩:=H
     replace H : (some t400) = some r:=H
     have A22:=Aside0.mk A220
     clear A220
     obtain rfl:=Option.some.inj H
     go_wp2_with (first|((with_reducible refine gate_callee (f:=45) rfl ?_);refine goesL_ (some 29) rfl rfl Try.func45 (by kernel_rfl) rfl #[.slice Ao7 t386.length co7] rfl (by (try simp only [List.map_toArray,List.map_cons,List.map_nil]);first|done|rfl|(simp only [List.length_drop,List.length_take];rfl)) ?_;(with_reducible refine (spec_SetLeast.calls kj4 _ _ t386 t397 _ ?side1 ?side2 A21.out).mono ?_);(case side1=>repeat (first|exact (Kd.R_reads' HO_3.out).2.2|(with_reducible refine Kd.C_alloc ?_ _)|(with_reducible refine Kd.C_drewN ?_ _)|(with_reducible refine Kd.C_drew ?_)));(case side2=>exact (Kd.R_reads' HO_3.out).2.1);rintro e w23 ⟨v398,rfl,ho0,hb⟩;refine ⟨_,rfl,?_⟩;have n0_:=Aside0.mk (Kd.R_elder' (by (with_reducible repeat (first|apply Kd.R_alloc|apply Kd.R_drewN|apply Kd.R_drew));exact HO_3.out) (Kd.R_base ho0) hb);have n1_:=Aside0.mk (Kd.R_elder' (by (with_reducible repeat (first|apply Kd.R_alloc|apply Kd.R_drewN|apply Kd.R_drew));exact HO_4.out) (Kd.R_base ho0) hb);have n2_:=Aside0.mk (Kd.R_lower (Kd.R_new' (Kd.R_new' ho0 (Kd.R_lt (by (with_reducible repeat (first|apply Kd.R_alloc|apply Kd.R_drewN|apply Kd.R_drew));exact HO_3.out))) (Kd.R_lt (by (with_reducible repeat (first|apply Kd.R_alloc|apply Kd.R_drewN|apply Kd.R_drew));exact HO_4.out))) (below_size (by repeat (first|(with_reducible first|exact HB.out|apply below_alloc|apply pw_below_drewN|apply below_drew1)|exact HB.out))));have n3_:=Aside0.mk (below_step (by repeat (first|(with_reducible first|exact HB.out|apply below_alloc|apply pw_below_drewN|apply below_drew1)|exact HB.out)) hb);clear HO_3;clear HO_4;clear HB;have HO_3:=n0_;have HO_4:=n1_;have HO399:=n2_;have HB:=n3_;clear n0_ n1_ n2_ n3_;(try clear hb);(try clear hb2);(try clear hk);(try clear hi);(try clear ho0);obtain ⟨Ao24,co24,eo24⟩:=Kd.R_slice HO_4.out;subst eo24;obtain ⟨Ao25,co25,eo25⟩:=Kd.R_slice HO399.out;subst eo25)|((with_reducible refine gate_callee (f:=50) rfl ?_);refine goesL_ (some 30) rfl rfl Try.func50 (by kernel_rfl) rfl #[.slice Ao24 t389.length co24,.slice Ao25 t397.length co25] rfl (by (try simp only [List.map_toArray,List.map_cons,List.map_nil]);first|done|rfl|(simp only [List.length_drop,List.length_take];rfl)) ?_;(with_reducible refine (laws_lwItems.calls kj4 _ _ t389 _ _ t397 t400 _ ?side1 ?side2 ?side3 ?side4 A22.out).mono ?_);(case side1=>repeat (first|exact (Kd.R_reads' HO_4.out).2.2|(with_reducible refine Kd.C_alloc ?_ _)|(with_reducible refine Kd.C_drewN ?_ _)|(with_reducible refine Kd.C_drew ?_)));(case side2=>exact (Kd.R_reads' HO_4.out).2.1);(case side3=>repeat (first|exact (Kd.R_reads' HO399.out).2.2|(with_reducible refine Kd.C_alloc ?_ _)|(with_reducible refine Kd.C_drewN ?_ _)|(with_reducible refine Kd.C_drew ?_)));(case side4=>exact (Kd.R_reads' HO399.out).2.1);rintro e w' ⟨rfl,⟨nd,rfl⟩⟩;refine ⟨_,rfl,?_⟩))
     go_ret
     exact ⟨by first|rfl|(simp [errW_none,errW_some] <;> rfl)|(simp [*,errW_none,errW_some] <;> rfl),by repeat (first|(with_reducible first|exact HB.out|apply below_alloc|apply pw_below_drewN|apply below_drew1)|exact HB.out)⟩
    ·replace c20:=Bool.eq_false_iff.mpr c20
     subst c20
     have H1 : ((impl_SetOnce.f kj4 t386).bind fun t401=>(laws_FnSetLeast.l0 kj4 t389 t401 0)) = some r:=by rw [if_neg (show ¬ (false = true) by decide)] at H;exact H
     clear H
     have H:=H1
     clear H1
     replace H:=Option.bind_eq_some_iff.mp H
     obtain ⟨t401,A260,H⟩:=H
     replace H : (laws_FnSetLeast.l0 kj4 t389 t401 0) = some r:=H
     have A26:=Aside0.mk A260
     clear A260
     have H':=Aside0.mk H
     clear H
     go_wp2_with (first|((with_reducible refine gate_callee (f:=36) rfl ?_);refine goesL_ (some 32) rfl rfl Try.func36 (by kernel_rfl) rfl #[.slice Ao7 t386.length co7] rfl (by (try simp only [List.map_toArray,List.map_cons,List.map_nil]);first|done|rfl|(simp only [List.length_drop,List.length_take];rfl)) ?_;(with_reducible refine (impl_SetOnce.calls kj4 _ _ t386 t401 _ ?side1 ?side2 A26.out).mono ?_);(case side1=>repeat (first|exact (Kd.R_reads' HO_3.out).2.2|(with_reducible refine Kd.C_alloc ?_ _)|(with_reducible refine Kd.C_drewN ?_ _)|(with_reducible refine Kd.C_drew ?_)));(case side2=>exact (Kd.R_reads' HO_3.out).2.1);rintro e w27 ⟨v402,rfl,ho0,hb⟩;refine ⟨_,rfl,?_⟩;have n0_:=Aside0.mk (Kd.R_elder' (by (with_reducible repeat (first|apply Kd.R_alloc|apply Kd.R_drewN|apply Kd.R_drew));exact HO_3.out) (Kd.R_base ho0) hb);have n1_:=Aside0.mk (Kd.R_elder' (by (with_reducible repeat (first|apply Kd.R_alloc|apply Kd.R_drewN|apply Kd.R_drew));exact HO_4.out) (Kd.R_base ho0) hb);have n2_:=Aside0.mk (Kd.R_lower (Kd.R_new' (Kd.R_new' ho0 (Kd.R_lt (by (with_reducible repeat (first|apply Kd.R_alloc|apply Kd.R_drewN|apply Kd.R_drew));exact HO_3.out))) (Kd.R_lt (by (with_reducible repeat (first|apply Kd.R_alloc|apply Kd.R_drewN|apply Kd.R_drew));exact HO_4.out))) (below_size (by repeat (first|(with_reducible first|exact HB.out|apply below_alloc|apply pw_below_drewN|apply below_drew1)|exact HB.out))));have n3_:=Aside0.mk (below_step (by repeat (first|(with_reducible first|exact HB.out|apply below_alloc|apply pw_below_drewN|apply below_drew1)|exact HB.out)) hb);clear HO_3;clear HO_4;clear HB;have HO_3:=n0_;have HO_4:=n1_;have HO403:=n2_;have HB:=n3_;clear n0_ n1_ n2_ n3_;(try clear hb);(try clear hb2);(try clear hk);(try clear hi);(try clear ho0)))
     go_loopg [6] kj4 (fun kq v6 w'=>∃ (x6_2 : Int),v6 = .int .i64 x6_2 ∧ Aside0 (laws_FnSetLeast.l0 kq t389 t401 x6_2 = some r) ∧ Aside0 (kq ≤ kj4) ∧ Aside0 (Kd.R k60 60 w' w.heap.size (fun k_=>some k_ ≠ (v402 : Value).ownBlock) v390 t389) ∧ Aside0 (Kd.R k60 60 w' w.heap.size (fun k_=>some k_ ≠ (v390 : Value).ownBlock) v402 t401) ∧ Aside0 (Below w.heap.size w w'))
     case atStart=>exact ⟨(0),(by first|rfl|(simp;done)|(simp [*];done)),H',⟨Nat.le_refl _⟩,⟨by (with_reducible repeat (first|apply Kd.R_alloc|apply Kd.R_drewN|apply Kd.R_drew));exact Kd.R_mono HO_4.out (fun _ hk=>hk.2)⟩,⟨by (with_reducible repeat (first|apply Kd.R_alloc|apply Kd.R_drewN|apply Kd.R_drew));exact Kd.R_mono HO403.out (fun _ hk=>hk.2)⟩,⟨by repeat (first|(with_reducible first|exact HB.out|apply below_alloc|apply pw_below_drewN|apply below_drew1)|exact HB.out)⟩⟩
     case round =>
      clear H'
      try clear c1
      try clear c2
      try clear c2b0
      try clear c2b1
      try clear p2
      try clear c3
      try clear c4
      try clear c5
      try clear c11
      try clear c15
      try clear c20
      try clear p2
      obtain ⟨x6_2,rfl,HA,HK2,HO_4,HO_5,HB⟩:=hrel
      cases gk with
      | zero=>exact absurd HA.out (by simp [laws_FnSetLeast.l0])
      | succ k2 =>
       have H:=HA.out
       clear HA
       simp only [laws_FnSetLeast.l0] at H
       by_cases c28 : x6_2 < (t401.length : Int)
       ·rw [if_pos c28] at H
        have c28b0 : decide (x6_2 < (t401.length : Int)) = true:=decide_eq_true c28
        clear c28
        have H':=Aside0.mk H
        clear H
        obtain ⟨Ao29,co29,eo29⟩:=Kd.R_slice HO_5.out
        subst eo29
        go_wp2
        go_loopg [7,8] k2 (fun kq v7 v8 w'=>∃ (x7_3 : Bool) (x8_3 : Int),v7 = .bool x7_3 ∧ v8 = .int .i64 x8_3 ∧ Aside0 (laws_FnSetLeast.l1 kq t389 t401 x6_2 x7_3 x8_3 = some r) ∧ Aside0 (kq ≤ k2) ∧ Aside0 (Kd.R k60 60 w' w.heap.size (fun k_=>some k_ ≠ ((.slice Ao29 t401.length co29) : Value).ownBlock) v390 t389) ∧ Aside0 (Kd.R k60 60 w' w.heap.size (fun k_=>some k_ ≠ (v390 : Value).ownBlock) (.slice Ao29 t401.length co29) t401) ∧ Aside0 (Below w.heap.size w w'))
        case atStart=>exact ⟨(false),(0),(by first|rfl|(simp;done)|(simp [*];done)),(by first|rfl|(simp;done)|(simp [*];done)),H',⟨Nat.le_refl _⟩,⟨by (with_reducible repeat (first|apply Kd.R_alloc|apply Kd.R_drewN|apply Kd.R_drew));exact HO_4.out⟩,⟨by (with_reducible repeat (first|apply Kd.R_alloc|apply Kd.R_drewN|apply Kd.R_drew));exact HO_5.out⟩,⟨by repeat (first|(with_reducible first|exact HB.out|apply below_alloc|apply pw_below_drewN|apply below_drew1)|exact HB.out)⟩⟩
        case round =>
         clear H'
         try clear c1
         try clear c2
         try clear c2b0
         try clear c2b1
         try clear p2
         try clear c3
         try clear c4
         try clear c5
         try clear c11
         try clear c15
         try clear c20
         try clear c28
         try clear c28b0
         try clear p2
         obtain ⟨x7_3,x8_3,rfl,rfl,HA,HK3,HO_4,HO_5,HB⟩:=hrel
         cases gk with
         | zero=>exact absurd HA.out (by simp [laws_FnSetLeast.l1])
         | succ k3 =>
          have H:=HA.out
          clear HA
          simp only [laws_FnSetLeast.l1] at H
          by_cases c30 : x8_3 < (t389.length : Int)
          ·rw [if_pos c30] at H
           have c30b0 : decide (x8_3 < (t389.length : Int)) = true:=decide_eq_true c30
           clear c30
           by_cases c31 : x7_3 = true
           ·subst c31
            have H1 : (laws_FnSetLeast.l1 k3 t389 t401 x6_2 true (wrap64 (x8_3 + 1))) = some r:=by rw [if_pos rfl] at H;exact H
            clear H
            have H:=H1
            clear H1
            have H':=Aside0.mk H
            clear H
            obtain ⟨Ao32,co32,eo32⟩:=Kd.R_slice HO_4.out
            subst eo32
            try go_wp2
            have n0_:=Aside0.mk (Kd.R_drew HO_4.out)
            have n1_:=Aside0.mk (Kd.R_drew HO_5.out)
            have n2_:=Aside0.mk (below_drew1 HB.out)
            clear HO_4
            clear HO_5
            clear HB
            have HO_4:=n0_
            have HO_5:=n1_
            have HB:=n2_
            clear n0_ n1_ n2_
            refine start_ (n:=28) (S:=fun w'=>True) (ds:=[]) b28_0 (by kernel_rfl) rfl rfl trivial (fun hHeld=>?_);refine with_tabW laws_FnSetLeast.tab15 laws_FnSetLeast.bits15 (fun HT_ HW_=>?_)
            generalize wr.drew = w33 at HO_4 HO_5 HB hHeld ⊢
            refine pure_ (i:=0) (N:=some 45) (v:=?_) (a':=?_) b28_1 rfl rfl (any_of HT_.out (by kernel_rfl)) (fun _ _ _ h=>h) (Or.inl ⟨by rfl,?_⟩) ?_ ?_
            rotate_left
            ·intro w'
             go_simp
             with_reducible rfl
            rotate_left
            ·simp only [Act.put,sA_,sZ_,sS_,i64_w,i32_w]
             rfl
            refine pure_ (i:=1) (N:=some 46) (v:=?_) (a':=?_) b28_2 rfl rfl (any_of HT_.out (by kernel_rfl)) (fun _ _ _ h=>h) (Or.inl ⟨by rfl,?_⟩) ?_ ?_
            rotate_left
            ·intro w'
             go_simp
             with_reducible rfl
            rotate_left
            ·simp only [Act.put,sA_,sZ_,sS_,i64_w,i32_w]
             rfl
            refine pure_ (i:=2) (N:=some 47) (v:=undef) (a':=?_) b28_3 rfl rfl (any_of HT_.out (by kernel_rfl)) (fun _ _ _ h=>h) (Or.inr ⟨by rfl,rfl⟩) ?_ ?_
            rotate_left
            ·simp only [Act.put,sA_,sZ_,sS_,i64_w,i32_w]
             rfl
            refine pure_ (i:=3) (N:=some 48) (v:=undef) (a':=?_) b28_4 rfl rfl (any_of HT_.out (by kernel_rfl)) (fun _ _ _ h=>h) (Or.inr ⟨by rfl,rfl⟩) ?_ ?_
            rotate_left
            ·simp only [Act.put,sA_,sZ_,sS_,i64_w,i32_w]
             rfl
            refine pure_ (i:=4) (N:=some 49) (v:=undef) (a':=?_) b28_5 rfl rfl (any_of HT_.out (by kernel_rfl)) (fun _ _ _ h=>h) (Or.inr ⟨by rfl,rfl⟩) ?_ ?_
            rotate_left
            ·simp only [Act.put,sA_,sZ_,sS_,i64_w,i32_w]
             rfl
            refine pure_ (i:=5) (N:=some 50) (v:=undef) (a':=?_) b28_6 rfl rfl (any_of HT_.out (by kernel_rfl)) (fun _ _ _ h=>h) (Or.inr ⟨by rfl,rfl⟩) ?_ ?_
            rotate_left
            ·simp only [Act.put,sA_,sZ_,sS_,i64_w,i32_w]
             rfl
            refine pure_ (i:=6) (N:=some 51) (v:=undef) (a':=?_) b28_7 rfl rfl (any_of HT_.out (by kernel_rfl)) (fun _ _ _ h=>h) (Or.inr ⟨by rfl,rfl⟩) ?_ ?_
            rotate_left
            ·simp only [Act.put,sA_,sZ_,sS_,i64_w,i32_w]
             rfl
            refine pure_ (i:=7) (N:=some 52) (v:=undef) (a':=?_) b28_8 rfl rfl (any_of HT_.out (by kernel_rfl)) (fun _ _ _ h=>h) (Or.inr ⟨by rfl,rfl⟩) ?_ ?_
            rotate_left
            ·simp only [Act.put,sA_,sZ_,sS_,i64_w,i32_w]
             rfl
            refine pure_ (i:=8) (N:=some 53) (v:=undef) (a':=?_) b28_9 rfl rfl (any_of HT_.out (by kernel_rfl)) (fun _ _ _ h=>h) (Or.inr ⟨by rfl,rfl⟩) ?_ ?_
            rotate_left
            ·simp only [Act.put,sA_,sZ_,sS_,i64_w,i32_w]
             rfl
            refine pure_ (i:=9) (N:=some 54) (v:=undef) (a':=?_) b28_10 rfl rfl (any_of HT_.out (by kernel_rfl)) (fun _ _ _ h=>h) (Or.inr ⟨by rfl,rfl⟩) ?_ ?_
            rotate_left
            ·simp only [Act.put,sA_,sZ_,sS_,i64_w,i32_w]
             rfl
            refine pure_ (i:=10) (N:=some 55) (v:=undef) (a':=?_) b28_11 rfl rfl (any_of HT_.out (by kernel_rfl)) (fun _ _ _ h=>h) (Or.inr ⟨by rfl,rfl⟩) ?_ ?_
            rotate_left
            ·simp only [Act.put,sA_,sZ_,sS_,i64_w,i32_w]
             rfl
            refine pure_ (i:=11) (N:=some 56) (v:=undef) (a':=?_) b28_12 rfl rfl (any_of HT_.out (by kernel_rfl)) (fun _ _ _ h=>h) (Or.inr ⟨by rfl,rfl⟩) ?_ ?_
            rotate_left
            ·simp only [Act.put,sA_,sZ_,sS_,i64_w,i32_w]
             rfl
            refine pure_ (i:=12) (N:=some 57) (v:=undef) (a':=?_) b28_13 rfl rfl (any_of HT_.out (by kernel_rfl)) (fun _ _ _ h=>h) (Or.inr ⟨by rfl,rfl⟩) ?_ ?_
            rotate_left
            ·simp only [Act.put,sA_,sZ_,sS_,i64_w,i32_w]
             rfl
            refine pure_ (i:=13) (N:=some 58) (v:=undef) (a':=?_) b28_14 rfl rfl (any_of HT_.out (by kernel_rfl)) (fun _ _ _ h=>h) (Or.inr ⟨by rfl,rfl⟩) ?_ ?_
            rotate_left
            ·simp only [Act.put,sA_,sZ_,sS_,i64_w,i32_w]
             rfl
            refine pure_ (i:=14) (N:=some 59) (v:=undef) (a':=?_) b28_15 rfl rfl (any_of HT_.out (by kernel_rfl)) (fun _ _ _ h=>h) (Or.inr ⟨by rfl,rfl⟩) ?_ ?_
            rotate_left
            ·simp only [Act.put,sA_,sZ_,sS_,i64_w,i32_w]
             rfl
            refine pure_ (i:=15) (N:=some 60) (v:=undef) (a':=?_) b28_16 rfl rfl (any_of HT_.out (by kernel_rfl)) (fun _ _ _ h=>h) (Or.inr ⟨by rfl,rfl⟩) ?_ ?_
            rotate_left
            ·simp only [Act.put,sA_,sZ_,sS_,i64_w,i32_w]
             rfl
            refine pure_ (i:=16) (N:=some 61) (v:=undef) (a':=?_) b28_17 rfl rfl (any_of HT_.out (by kernel_rfl)) (fun _ _ _ h=>h) (Or.inr ⟨by rfl,rfl⟩) ?_ ?_
            rotate_left
            ·simp only [Act.put,sA_,sZ_,sS_,i64_w,i32_w]
             rfl
            refine pure_ (i:=17) (N:=some 62) (v:=undef) (a':=?_) b28_18 rfl rfl (any_of HT_.out (by kernel_rfl)) (fun _ _ _ h=>h) (Or.inr ⟨by rfl,rfl⟩) ?_ ?_
            rotate_left
            ·simp only [Act.put,sA_,sZ_,sS_,i64_w,i32_w]
             rfl
            refine pure_ (i:=18) (N:=some 63) (v:=undef) (a':=?_) b28_19 rfl rfl (any_of HT_.out (by kernel_rfl)) (fun _ _ _ h=>h) (Or.inr ⟨by rfl,rfl⟩) ?_ ?_
            rotate_left
            ·simp only [Act.put,sA_,sZ_,sS_,i64_w,i32_w]
             rfl
            refine pure_ (i:=19) (N:=some 64) (v:=undef) (a':=?_) b28_20 rfl rfl (any_of HT_.out (by kernel_rfl)) (fun _ _ _ h=>h) (Or.inr ⟨by rfl,rfl⟩) ?_ ?_
            rotate_left
            ·simp only [Act.put,sA_,sZ_,sS_,i64_w,i32_w]
             rfl
            refine pure_ (i:=20) (N:=some 65) (v:=undef) (a':=?_) b28_21 rfl rfl (any_of HT_.out (by kernel_rfl)) (fun _ _ _ h=>h) (Or.inr ⟨by rfl,rfl⟩) ?_ ?_
            rotate_left
            ·simp only [Act.put,sA_,sZ_,sS_,i64_w,i32_w]
             rfl
            refine pure_ (i:=21) (N:=some 66) (v:=undef) (a':=?_) b28_22 rfl rfl (any_of HT_.out (by kernel_rfl)) (fun _ _ _ h=>h) (Or.inr ⟨by rfl,rfl⟩) ?_ ?_
            rotate_left
            ·simp only [Act.put,sA_,sZ_,sS_,i64_w,i32_w]
             rfl
            refine pure_ (i:=22) (N:=some 67) (v:=undef) (a':=?_) b28_23 rfl rfl (any_of HT_.out (by kernel_rfl)) (fun _ _ _ h=>h) (Or.inr ⟨by rfl,rfl⟩) ?_ ?_
            rotate_left
            ·simp only [Act.put,sA_,sZ_,sS_,i64_w,i32_w]
             rfl
            refine pure_ (i:=23) (N:=some 68) (v:=undef) (a':=?_) b28_24 rfl rfl (any_of HT_.out (by kernel_rfl)) (fun _ _ _ h=>h) (Or.inr ⟨by rfl,rfl⟩) ?_ ?_
            rotate_left
            ·simp only [Act.put,sA_,sZ_,sS_,i64_w,i32_w]
             rfl
            refine pure_ (i:=24) (N:=some 69) (v:=undef) (a':=?_) b28_25 rfl rfl (any_of HT_.out (by kernel_rfl)) (fun _ _ _ h=>h) (Or.inr ⟨by rfl,rfl⟩) ?_ ?_
            rotate_left
            ·simp only [Act.put,sA_,sZ_,sS_,i64_w,i32_w]
             rfl
            refine pure_ (i:=25) (N:=some 70) (v:=undef) (a':=?_) b28_26 rfl rfl (any_of HT_.out (by kernel_rfl)) (fun _ _ _ h=>h) (Or.inr ⟨by rfl,rfl⟩) ?_ ?_
            rotate_left
            ·simp only [Act.put,sA_,sZ_,sS_,i64_w,i32_w]
             rfl
            refine pure_ (i:=26) (N:=some 71) (v:=?_) (a':=?_) b28_27 rfl rfl (any_of HT_.out (by kernel_rfl)) (fun _ _ _ h=>h) (Or.inl ⟨by rfl,?_⟩) ?_ ?_
            rotate_left
            ·intro w'
             go_simp
             with_reducible rfl
            rotate_left
            ·simp only [Act.put,sA_,sZ_,sS_,i64_w,i32_w]
             rfl
            refine pure_ (i:=27) (N:=some 7) (v:=?_) (a':=?_) b28_28 rfl rfl (any_of HT_.out (by kernel_rfl)) (fun _ _ _ h=>h) (Or.inl ⟨by rfl,?_⟩) ?_ ?_
            rotate_left
            ·intro w'
             go_simp
             with_reducible rfl
            rotate_left
            ·simp only [Act.put,sA_,sZ_,sS_,i64_w,i32_w]
             rfl
            refine done_ (done_of HT_.out (by kernel_rfl)) ?_
            try go_wp2
            go_roundg k3
            case measure=>have:=HJ4.out;have:=HK2.out;have:=HK3.out;omega
            case rel=>exact ⟨(true),(wrap64 (x8_3 + 1)),(by first|rfl|(simp;done)|(simp [*];done)),(by first|rfl|(simp;done)|(simp [*];done)),H',⟨by have:=HJ4.out;have:=HK2.out;have:=HK3.out;omega⟩,⟨by (with_reducible repeat (first|apply Kd.R_alloc|apply Kd.R_drewN|apply Kd.R_drew));exact HO_4.out⟩,⟨by (with_reducible repeat (first|apply Kd.R_alloc|apply Kd.R_drewN|apply Kd.R_drew));exact HO_5.out⟩,⟨by repeat (first|(with_reducible first|exact HB.out|apply below_alloc|apply pw_below_drewN|apply below_drew1)|exact HB.out)⟩⟩
           ·replace c31:=Bool.eq_false_iff.mpr c31
            subst c31
            have H1 : (if 0 ≤ x8_3 then (if 0 ≤ x6_2 then (if x6_2 < (t401.length : Int) then (if ((rd_T60 t389 x8_3).f0) = ((rd_T60 t401 x6_2).f0) then (laws_FnSetLeast.l1 k3 t389 t401 x6_2 (decide (((rd_T60 t389 x8_3).f1) ≤ ((rd_T60 t401 x6_2).f1))) (wrap64 (x8_3 + 1))) else (laws_FnSetLeast.l1 k3 t389 t401 x6_2 false (wrap64 (x8_3 + 1)))) else (none)) else (none)) else (none)) = some r:=by rw [if_neg (show ¬ (false = true) by decide)] at H;exact H
            clear H
            have H:=H1
            clear H1
            by_cases c34 : 0 ≤ x8_3
            ·rw [if_pos c34] at H
             have c34b0 : decide (0 ≤ x8_3) = true:=decide_eq_true c34
             clear c34
             by_cases c35 : 0 ≤ x6_2
             ·rw [if_pos c35] at H
              have c35b0 : decide (0 ≤ x6_2) = true:=decide_eq_true c35
              clear c35
              by_cases c36 : x6_2 < (t401.length : Int)
              ·rw [if_pos c36] at H
               have c36b0 : decide (x6_2 < (t401.length : Int)) = true:=decide_eq_true c36
               clear c36
               by_cases c37 : ((rd_T60 t389 x8_3).f0) = ((rd_T60 t401 x6_2).f0)
               ·rw [if_pos c37] at H
                have c37b0 : (((rd_T60 t389 x8_3).f0) == ((rd_T60 t401 x6_2).f0)) = true:=beq_iff_eq.mpr c37
                have c37b1 : (((rd_T60 t389 x8_3).f0) != ((rd_T60 t401 x6_2).f0)) = false:=bne_eq_false_iff_eq.mpr c37
                clear c37
                have H':=Aside0.mk H
                clear H
                obtain ⟨Ao38,co38,eo38⟩:=Kd.R_slice HO_4.out
                subst eo38
                try go_wp2
                have n0_:=Aside0.mk (Kd.R_drew HO_4.out)
                have n1_:=Aside0.mk (Kd.R_drew HO_5.out)
                have n2_:=Aside0.mk (below_drew1 HB.out)
                clear HO_4
                clear HO_5
                clear HB
                have HO_4:=n0_
                have HO_5:=n1_
                have HB:=n2_
                clear n0_ n1_ n2_
                have p404 : 0 ≤ (x8_3 : Int):=of_decide_eq_true (by first|(with_reducible assumption)|assumption)
                have q404 : x8_3 < (t389.length : Int):=of_decide_eq_true (by first|(with_reducible assumption)|assumption)
                obtain ⟨ad404,e404,hx404_0,hx404_1,hx404_2⟩:=at_T60 (Kd.R_reads' HO_4.out).2.2 x8_3 p404 q404
                cases e404
                replace p404:=eq_true p404
                replace q404:=eq_true q404
                have p405 : 0 ≤ (x6_2 : Int):=of_decide_eq_true (by first|(with_reducible assumption)|assumption)
                have q405 : x6_2 < (t401.length : Int):=of_decide_eq_true (by first|(with_reducible assumption)|assumption)
                obtain ⟨ad405,e405,hx405_0,hx405_1,hx405_2⟩:=at_T60 (Kd.R_reads' HO_5.out).2.2 x6_2 p405 q405
                cases e405
                replace p405:=eq_true p405
                replace q405:=eq_true q405
                have p406 : 0 ≤ (x8_3 : Int):=of_decide_eq_true (by first|(with_reducible assumption)|assumption)
                have q406 : x8_3 < (t389.length : Int):=of_decide_eq_true (by first|(with_reducible assumption)|assumption)
                obtain ⟨ad406,e406,hx406_0,hx406_1,hx406_2⟩:=at_T60 (Kd.R_reads' HO_4.out).2.2 x8_3 p406 q406
                obtain rfl : ad404 = ad406:=(by injection e406)
                replace p406:=eq_true p406
                replace q406:=eq_true q406
                have p407 : 0 ≤ (x6_2 : Int):=of_decide_eq_true (by first|(with_reducible assumption)|assumption)
                have q407 : x6_2 < (t401.length : Int):=of_decide_eq_true (by first|(with_reducible assumption)|assumption)
                obtain ⟨ad407,e407,hx407_0,hx407_1,hx407_2⟩:=at_T60 (Kd.R_reads' HO_5.out).2.2 x6_2 p407 q407
                obtain rfl : ad405 = ad407:=(by injection e407)
                replace p407:=eq_true p407
                replace q407:=eq_true q407
                refine start_ (n:=28) (S:=fun w'=>w'.cell? (ad404.add ((x8_3).toNat * 3)) = some (.int .i64 ((rd_T60 t389 x8_3).f0)) ∧ w'.cell? ⟨(ad404.add ((x8_3).toNat * 3)).block,(ad404.add ((x8_3).toNat * 3)).off + 1,none⟩ = some (.int .i64 ((rd_T60 t389 x8_3).f1)) ∧ w'.cell? ⟨(ad404.add ((x8_3).toNat * 3)).block,(ad404.add ((x8_3).toNat * 3)).off + 2,none⟩ = some (.int .i64 ((rd_T60 t389 x8_3).f2)) ∧ w'.cell? (ad405.add ((x6_2).toNat * 3)) = some (.int .i64 ((rd_T60 t401 x6_2).f0)) ∧ w'.cell? ⟨(ad405.add ((x6_2).toNat * 3)).block,(ad405.add ((x6_2).toNat * 3)).off + 1,none⟩ = some (.int .i64 ((rd_T60 t401 x6_2).f1)) ∧ w'.cell? ⟨(ad405.add ((x6_2).toNat * 3)).block,(ad405.add ((x6_2).toNat * 3)).off + 2,none⟩ = some (.int .i64 ((rd_T60 t401 x6_2).f2)) ∧ w'.cell? (ad404.add ((x8_3).toNat * 3)) = some (.int .i64 ((rd_T60 t389 x8_3).f0)) ∧ w'.cell? ⟨(ad404.add ((x8_3).toNat * 3)).block,(ad404.add ((x8_3).toNat * 3)).off + 1,none⟩ = some (.int .i64 ((rd_T60 t389 x8_3).f1)) ∧ w'.cell? ⟨(ad404.add ((x8_3).toNat * 3)).block,(ad404.add ((x8_3).toNat * 3)).off + 2,none⟩ = some (.int .i64 ((rd_T60 t389 x8_3).f2)) ∧ w'.cell? (ad405.add ((x6_2).toNat * 3)) = some (.int .i64 ((rd_T60 t401 x6_2).f0)) ∧ w'.cell? ⟨(ad405.add ((x6_2).toNat * 3)).block,(ad405.add ((x6_2).toNat * 3)).off + 1,none⟩ = some (.int .i64 ((rd_T60 t401 x6_2).f1)) ∧ w'.cell? ⟨(ad405.add ((x6_2).toNat * 3)).block,(ad405.add ((x6_2).toNat * 3)).off + 2,none⟩ = some (.int .i64 ((rd_T60 t401 x6_2).f2))) (ds:=[]) b28_0 (by kernel_rfl) rfl rfl ⟨hx404_0,hx404_1,hx404_2,hx405_0,hx405_1,hx405_2,hx406_0,hx406_1,hx406_2,hx407_0,hx407_1,hx407_2⟩ (fun hHeld=>?_);refine with_tabW laws_FnSetLeast.tab15 laws_FnSetLeast.bits15 (fun HT_ HW_=>?_)
                generalize wr.drew = w39 at HO_4 HO_5 HB hx404_0 hx404_1 hx404_2 hx405_0 hx405_1 hx405_2 hx406_0 hx406_1 hx406_2 hx407_0 hx407_1 hx407_2 hHeld ⊢
                refine pure_ (i:=0) (N:=some 45) (v:=?_) (a':=?_) b28_1 rfl rfl (any_of HT_.out (by kernel_rfl)) (fun _ _ _ h=>h) (Or.inl ⟨by rfl,?_⟩) ?_ ?_
                rotate_left
                ·intro w'
                 go_simp
                 with_reducible rfl
                rotate_left
                ·simp only [Act.put,sA_,sZ_,sS_,i64_w,i32_w]
                 rfl
                refine pure_ (i:=1) (N:=some 46) (v:=?_) (a':=?_) b28_2 rfl rfl (any_of HT_.out (by kernel_rfl)) (fun _ _ _ h=>h) (Or.inl ⟨by rfl,?_⟩) ?_ ?_
                rotate_left
                ·intro w'
                 go_simp
                 with_reducible rfl
                rotate_left
                ·simp only [Act.put,sA_,sZ_,sS_,i64_w,i32_w]
                 rfl
                refine pure_ (i:=2) (N:=some 47) (v:=?_) (a':=?_) b28_3 rfl rfl (any_of HT_.out (by kernel_rfl)) (fun _ _ _ h=>h) (Or.inl ⟨by rfl,?_⟩) ?_ ?_
                rotate_left
                ·intro w'
                 go_simp
                 with_reducible rfl
                rotate_left
                ·simp only [Act.put,sA_,sZ_,sS_,i64_w,i32_w]
                 rfl
                refine pure_ (i:=3) (N:=some 48) (v:=?_) (a':=?_) b28_4 rfl rfl (any_of HT_.out (by kernel_rfl)) (fun _ _ _ h=>h) (Or.inl ⟨by rfl,?_⟩) ?_ ?_
                rotate_left
                ·intro w'
                 go_simp
                 with_reducible rfl
                rotate_left
                ·simp only [Act.put,sA_,sZ_,sS_,i64_w,i32_w]
                 rfl
                refine pure_ (i:=4) (N:=some 49) (v:=?_) (a':=?_) b28_5 rfl rfl (any_of HT_.out (by kernel_rfl)) (fun _ _ _ h=>h) (Or.inl ⟨by rfl,?_⟩) ?_ ?_
                rotate_left
                ·intro w'
                 go_simp
                 with_reducible rfl
                rotate_left
                ·simp only [Act.put,sA_,sZ_,sS_,i64_w,i32_w]
                 rfl
                refine pure_ (i:=5) (N:=some 50) (v:=?_) (a':=?_) b28_6 rfl rfl (any_of HT_.out (by kernel_rfl)) (fun _ _ _ h=>h) (Or.inl ⟨by rfl,?_⟩) ?_ ?_
                rotate_left
                ·intro w'
                 go_simp
                 with_reducible rfl
                rotate_left
                ·simp only [Act.put,sA_,sZ_,sS_,i64_w,i32_w]
                 rfl
                refine pure_ (i:=7) (N:=some 52) (v:=?_) (a':=?_) c151 rfl rfl (any_of HT_.out (by kernel_rfl)) (fun _ _ _ h=>h) (Or.inl ⟨by rfl,?_⟩) ?_ ?_
                rotate_left
                ·intro w'
                 go_simp
                 with_reducible rfl
                rotate_left
                ·simp only [Act.put,sA_,sZ_,sS_,i64_w,i32_w]
                 rfl
                refine pure_ (i:=8) (N:=some 53) (v:=?_) (a':=?_) c152 rfl rfl (any_of HT_.out (by kernel_rfl)) (fun _ _ _ h=>h) (Or.inl ⟨by rfl,?_⟩) ?_ ?_
                rotate_left
                ·intro w'
                 go_simp
                 with_reducible rfl
                rotate_left
                ·simp only [Act.put,sA_,sZ_,sS_,i64_w,i32_w]
                 rfl
                refine pure_ (i:=9) (N:=some 54) (v:=?_) (a':=?_) c153 rfl rfl (any_of HT_.out (by kernel_rfl)) (fun _ _ _ h=>h) (Or.inl ⟨by rfl,?_⟩) ?_ ?_
                rotate_left
                ·intro w'
                 go_simp
                 with_reducible rfl
                rotate_left
                ·simp only [Act.put,sA_,sZ_,sS_,i64_w,i32_w]
                 rfl
                refine pure_ (i:=10) (N:=some 55) (v:=?_) (a':=?_) c154 rfl rfl (any_of HT_.out (by kernel_rfl)) (fun _ _ _ h=>h) (Or.inl ⟨by rfl,?_⟩) ?_ ?_
                rotate_left
                ·intro w'
                 go_simp
                 with_reducible rfl
                rotate_left
                ·simp only [Act.put,sA_,sZ_,sS_,i64_w,i32_w]
                 rfl
                refine take_ (i:=6) (N:=some 51) (v:=?_) (a':=?_) b28_11 rfl rfl (take_ofW HT_.out HW_.out (by kernel_rfl)) (fun _ _ _ h=>h) (Or.inl ⟨by rfl,?_⟩) hHeld ?_ ?_
                rotate_left
                ·rintro w' ⟨s0,s1,s2,s3,s4,s5,s6,s7,s8,s9,s10,s11⟩
                 go_simp
                 with_reducible rfl
                rotate_left
                ·simp only [Act.put,sA_,sZ_,sS_,i64_w,i32_w]
                 rfl
                refine take_ (i:=11) (N:=some 56) (v:=?_) (a':=?_) b28_12 rfl rfl (take_ofW HT_.out HW_.out (by kernel_rfl)) (fun _ _ _ h=>h) (Or.inl ⟨by rfl,?_⟩) hHeld ?_ ?_
                rotate_left
                ·rintro w' ⟨s0,s1,s2,s3,s4,s5,s6,s7,s8,s9,s10,s11⟩
                 go_simp
                 with_reducible rfl
                rotate_left
                ·simp only [Act.put,sA_,sZ_,sS_,i64_w,i32_w]
                 rfl
                refine pure_ (i:=12) (N:=some 57) (v:=?_) (a':=?_) b28_13 rfl rfl (any_of HT_.out (by kernel_rfl)) (fun _ _ _ h=>h) (Or.inl ⟨by rfl,?_⟩) ?_ ?_
                rotate_left
                ·intro w'
                 go_simp
                 with_reducible rfl
                rotate_left
                ·simp only [Act.put,sA_,sZ_,sS_,i64_w,i32_w]
                 rfl
                refine pure_ (i:=13) (N:=some 58) (v:=?_) (a':=?_) b28_14 rfl rfl (any_of HT_.out (by kernel_rfl)) (fun _ _ _ h=>h) (Or.inl ⟨by rfl,?_⟩) ?_ ?_
                rotate_left
                ·intro w'
                 go_simp
                 with_reducible rfl
                rotate_left
                ·simp only [Act.put,sA_,sZ_,sS_,i64_w,i32_w]
                 rfl
                refine pure_ (i:=14) (N:=some 59) (v:=?_) (a':=?_) b28_15 rfl rfl (any_of HT_.out (by kernel_rfl)) (fun _ _ _ h=>h) (Or.inl ⟨by rfl,?_⟩) ?_ ?_
                rotate_left
                ·intro w'
                 go_simp
                 with_reducible rfl
                rotate_left
                ·simp only [Act.put,sA_,sZ_,sS_,i64_w,i32_w]
                 rfl
                refine pure_ (i:=15) (N:=some 60) (v:=?_) (a':=?_) b28_16 rfl rfl (any_of HT_.out (by kernel_rfl)) (fun _ _ _ h=>h) (Or.inl ⟨by rfl,?_⟩) ?_ ?_
                rotate_left
                ·intro w'
                 go_simp
                 with_reducible rfl
                rotate_left
                ·simp only [Act.put,sA_,sZ_,sS_,i64_w,i32_w]
                 rfl
                refine pure_ (i:=16) (N:=some 61) (v:=?_) (a':=?_) b28_17 rfl rfl (any_of HT_.out (by kernel_rfl)) (fun _ _ _ h=>h) (Or.inl ⟨by rfl,?_⟩) ?_ ?_
                rotate_left
                ·intro w'
                 go_simp
                 with_reducible rfl
                rotate_left
                ·simp only [Act.put,sA_,sZ_,sS_,i64_w,i32_w]
                 rfl
                refine pure_ (i:=17) (N:=some 62) (v:=?_) (a':=?_) b28_18 rfl rfl (any_of HT_.out (by kernel_rfl)) (fun _ _ _ h=>h) (Or.inl ⟨by rfl,?_⟩) ?_ ?_
                rotate_left
                ·intro w'
                 go_simp
                 with_reducible rfl
                rotate_left
                ·simp only [Act.put,sA_,sZ_,sS_,i64_w,i32_w]
                 rfl
                refine pure_ (i:=19) (N:=some 64) (v:=?_) (a':=?_) c155 rfl rfl (any_of HT_.out (by kernel_rfl)) (fun _ _ _ h=>h) (Or.inl ⟨by rfl,?_⟩) ?_ ?_
                rotate_left
                ·intro w'
                 go_simp
                 with_reducible rfl
                rotate_left
                ·simp only [Act.put,sA_,sZ_,sS_,i64_w,i32_w]
                 rfl
                refine pure_ (i:=20) (N:=some 65) (v:=?_) (a':=?_) c156 rfl rfl (any_of HT_.out (by kernel_rfl)) (fun _ _ _ h=>h) (Or.inl ⟨by rfl,?_⟩) ?_ ?_
                rotate_left
                ·intro w'
                 go_simp
                 with_reducible rfl
                rotate_left
                ·simp only [Act.put,sA_,sZ_,sS_,i64_w,i32_w]
                 rfl
                refine pure_ (i:=21) (N:=some 66) (v:=?_) (a':=?_) c157 rfl rfl (any_of HT_.out (by kernel_rfl)) (fun _ _ _ h=>h) (Or.inl ⟨by rfl,?_⟩) ?_ ?_
                rotate_left
                ·intro w'
                 go_simp
                 with_reducible rfl
                rotate_left
                ·simp only [Act.put,sA_,sZ_,sS_,i64_w,i32_w]
                 rfl
                refine pure_ (i:=22) (N:=some 67) (v:=?_) (a':=?_) c158 rfl rfl (any_of HT_.out (by kernel_rfl)) (fun _ _ _ h=>h) (Or.inl ⟨by rfl,?_⟩) ?_ ?_
                rotate_left
                ·intro w'
                 go_simp
                 with_reducible rfl
                rotate_left
                ·simp only [Act.put,sA_,sZ_,sS_,i64_w,i32_w]
                 rfl
                refine take_ (i:=18) (N:=some 63) (v:=?_) (a':=?_) b28_23 rfl rfl (take_ofW HT_.out HW_.out (by kernel_rfl)) (fun _ _ _ h=>h) (Or.inl ⟨by rfl,?_⟩) hHeld ?_ ?_
                rotate_left
                ·rintro w' ⟨s0,s1,s2,s3,s4,s5,s6,s7,s8,s9,s10,s11⟩
                 go_simp
                 with_reducible rfl
                rotate_left
                ·simp only [Act.put,sA_,sZ_,sS_,i64_w,i32_w]
                 rfl
                refine take_ (i:=23) (N:=some 68) (v:=?_) (a':=?_) b28_24 rfl rfl (take_ofW HT_.out HW_.out (by kernel_rfl)) (fun _ _ _ h=>h) (Or.inl ⟨by rfl,?_⟩) hHeld ?_ ?_
                rotate_left
                ·rintro w' ⟨s0,s1,s2,s3,s4,s5,s6,s7,s8,s9,s10,s11⟩
                 go_simp
                 with_reducible rfl
                rotate_left
                ·simp only [Act.put,sA_,sZ_,sS_,i64_w,i32_w]
                 rfl
                refine pure_ (i:=24) (N:=some 69) (v:=?_) (a':=?_) b28_25 rfl rfl (any_of HT_.out (by kernel_rfl)) (fun _ _ _ h=>h) (Or.inl ⟨by rfl,?_⟩) ?_ ?_
                rotate_left
                ·intro w'
                 go_simp
                 with_reducible rfl
                rotate_left
                ·simp only [Act.put,sA_,sZ_,sS_,i64_w,i32_w]
                 rfl
                refine pure_ (i:=25) (N:=some 70) (v:=?_) (a':=?_) b28_26 rfl rfl (any_of HT_.out (by kernel_rfl)) (fun _ _ _ h=>h) (Or.inl ⟨by rfl,?_⟩) ?_ ?_
                rotate_left
                ·intro w'
                 go_simp
                 with_reducible rfl
                rotate_left
                ·simp only [Act.put,sA_,sZ_,sS_,i64_w,i32_w]
                 rfl
                refine pure_ (i:=26) (N:=some 71) (v:=?_) (a':=?_) b28_27 rfl rfl (any_of HT_.out (by kernel_rfl)) (fun _ _ _ h=>h) (Or.inl ⟨by rfl,?_⟩) ?_ ?_
                rotate_left
                ·intro w'
                 go_simp
                 with_reducible rfl
                rotate_left
                ·simp only [Act.put,sA_,sZ_,sS_,i64_w,i32_w]
                 rfl
                refine pure_ (i:=27) (N:=some 7) (v:=?_) (a':=?_) b28_28 rfl rfl (any_of HT_.out (by kernel_rfl)) (fun _ _ _ h=>h) (Or.inl ⟨by rfl,?_⟩) ?_ ?_
                rotate_left
                ·intro w'
                 go_simp
                 with_reducible rfl
                rotate_left
                ·simp only [Act.put,sA_,sZ_,sS_,i64_w,i32_w]
                 rfl
                refine done_ (done_of HT_.out (by kernel_rfl)) ?_
                try go_wp2
                go_roundg k3
                case measure=>have:=HJ4.out;have:=HK2.out;have:=HK3.out;omega
                case rel=>exact ⟨(decide (((rd_T60 t389 x8_3).f1) ≤ ((rd_T60 t401 x6_2).f1))),(wrap64 (x8_3 + 1)),(by first|rfl|(simp;done)|(simp [*];done)),(by first|rfl|(simp;done)|(simp [*];done)),H',⟨by have:=HJ4.out;have:=HK2.out;have:=HK3.out;omega⟩,⟨by (with_reducible repeat (first|apply Kd.R_alloc|apply Kd.R_drewN|apply Kd.R_drew));exact HO_4.out⟩,⟨by (with_reducible repeat (first|apply Kd.R_alloc|apply Kd.R_drewN|apply Kd.R_drew));exact HO_5.out⟩,⟨by repeat (first|(with_reducible first|exact HB.out|apply below_alloc|apply pw_below_drewN|apply below_drew1)|exact HB.out)⟩⟩
               ·rw [if_neg c37] at H
                have c37b0 : (((rd_T60 t389 x8_3).f0) == ((rd_T60 t401 x6_2).f0)) = false:=beq_eq_false_iff_ne.mpr c37
                have c37b1 : (((rd_T60 t389 x8_3).f0) != ((rd_T60 t401 x6_2).f0)) = true:=bne_iff_ne.mpr c37
                have H':=Aside0.mk H
                clear H
                obtain ⟨Ao40,co40,eo40⟩:=Kd.R_slice HO_4.out
                subst eo40
                try go_wp2
                have n0_:=Aside0.mk (Kd.R_drew HO_4.out)
                have n1_:=Aside0.mk (Kd.R_drew HO_5.out)
                have n2_:=Aside0.mk (below_drew1 HB.out)
                clear HO_4
                clear HO_5
                clear HB
                have HO_4:=n0_
                have HO_5:=n1_
                have HB:=n2_
                clear n0_ n1_ n2_
                have p404 : 0 ≤ (x8_3 : Int):=of_decide_eq_true (by first|(with_reducible assumption)|assumption)
                have q404 : x8_3 < (t389.length : Int):=of_decide_eq_true (by first|(with_reducible assumption)|assumption)
                obtain ⟨ad404,e404,hx404_0,hx404_1,hx404_2⟩:=at_T60 (Kd.R_reads' HO_4.out).2.2 x8_3 p404 q404
                cases e404
                replace p404:=eq_true p404
                replace q404:=eq_true q404
                have p405 : 0 ≤ (x6_2 : Int):=of_decide_eq_true (by first|(with_reducible assumption)|assumption)
                have q405 : x6_2 < (t401.length : Int):=of_decide_eq_true (by first|(with_reducible assumption)|assumption)
                obtain ⟨ad405,e405,hx405_0,hx405_1,hx405_2⟩:=at_T60 (Kd.R_reads' HO_5.out).2.2 x6_2 p405 q405
                cases e405
                replace p405:=eq_true p405
                replace q405:=eq_true q405
                refine start_ (n:=28) (S:=fun w'=>w'.cell? (ad404.add ((x8_3).toNat * 3)) = some (.int .i64 ((rd_T60 t389 x8_3).f0)) ∧ w'.cell? ⟨(ad404.add ((x8_3).toNat * 3)).block,(ad404.add ((x8_3).toNat * 3)).off + 1,none⟩ = some (.int .i64 ((rd_T60 t389 x8_3).f1)) ∧ w'.cell? ⟨(ad404.add ((x8_3).toNat * 3)).block,(ad404.add ((x8_3).toNat * 3)).off + 2,none⟩ = some (.int .i64 ((rd_T60 t389 x8_3).f2)) ∧ w'.cell? (ad405.add ((x6_2).toNat * 3)) = some (.int .i64 ((rd_T60 t401 x6_2).f0)) ∧ w'.cell? ⟨(ad405.add ((x6_2).toNat * 3)).block,(ad405.add ((x6_2).toNat * 3)).off + 1,none⟩ = some (.int .i64 ((rd_T60 t401 x6_2).f1)) ∧ w'.cell? ⟨(ad405.add ((x6_2).toNat * 3)).block,(ad405.add ((x6_2).toNat * 3)).off + 2,none⟩ = some (.int .i64 ((rd_T60 t401 x6_2).f2))) (ds:=[]) b28_0 (by kernel_rfl) rfl rfl ⟨hx404_0,hx404_1,hx404_2,hx405_0,hx405_1,hx405_2⟩ (fun hHeld=>?_);refine with_tabW laws_FnSetLeast.tab15 laws_FnSetLeast.bits15 (fun HT_ HW_=>?_)
                generalize wr.drew = w41 at HO_4 HO_5 HB hx404_0 hx404_1 hx404_2 hx405_0 hx405_1 hx405_2 hHeld ⊢
                refine pure_ (i:=0) (N:=some 45) (v:=?_) (a':=?_) b28_1 rfl rfl (any_of HT_.out (by kernel_rfl)) (fun _ _ _ h=>h) (Or.inl ⟨by rfl,?_⟩) ?_ ?_
                rotate_left
                ·intro w'
                 go_simp
                 with_reducible rfl
                rotate_left
                ·simp only [Act.put,sA_,sZ_,sS_,i64_w,i32_w]
                 rfl
                refine pure_ (i:=1) (N:=some 46) (v:=?_) (a':=?_) b28_2 rfl rfl (any_of HT_.out (by kernel_rfl)) (fun _ _ _ h=>h) (Or.inl ⟨by rfl,?_⟩) ?_ ?_
                rotate_left
                ·intro w'
                 go_simp
                 with_reducible rfl
                rotate_left
                ·simp only [Act.put,sA_,sZ_,sS_,i64_w,i32_w]
                 rfl
                refine pure_ (i:=2) (N:=some 47) (v:=?_) (a':=?_) b28_3 rfl rfl (any_of HT_.out (by kernel_rfl)) (fun _ _ _ h=>h) (Or.inl ⟨by rfl,?_⟩) ?_ ?_
                rotate_left
                ·intro w'
                 go_simp
                 with_reducible rfl
                rotate_left
                ·simp only [Act.put,sA_,sZ_,sS_,i64_w,i32_w]
                 rfl
                refine pure_ (i:=3) (N:=some 48) (v:=?_) (a':=?_) b28_4 rfl rfl (any_of HT_.out (by kernel_rfl)) (fun _ _ _ h=>h) (Or.inl ⟨by rfl,?_⟩) ?_ ?_
                rotate_left
                ·intro w'
                 go_simp
                 with_reducible rfl
                rotate_left
                ·simp only [Act.put,sA_,sZ_,sS_,i64_w,i32_w]
                 rfl
                refine pure_ (i:=4) (N:=some 49) (v:=?_) (a':=?_) b28_5 rfl rfl (any_of HT_.out (by kernel_rfl)) (fun _ _ _ h=>h) (Or.inl ⟨by rfl,?_⟩) ?_ ?_
                rotate_left
                ·intro w'
                 go_simp
                 with_reducible rfl
                rotate_left
                ·simp only [Act.put,sA_,sZ_,sS_,i64_w,i32_w]
                 rfl
                refine pure_ (i:=5) (N:=some 50) (v:=?_) (a':=?_) b28_6 rfl rfl (any_of HT_.out (by kernel_rfl)) (fun _ _ _ h=>h) (Or.inl ⟨by rfl,?_⟩) ?_ ?_
                rotate_left
                ·intro w'
                 go_simp
                 with_reducible rfl
                rotate_left
                ·simp only [Act.put,sA_,sZ_,sS_,i64_w,i32_w]
                 rfl
                refine pure_ (i:=7) (N:=some 52) (v:=?_) (a':=?_) c151 rfl rfl (any_of HT_.out (by kernel_rfl)) (fun _ _ _ h=>h) (Or.inl ⟨by rfl,?_⟩) ?_ ?_
                rotate_left
                ·intro w'
                 go_simp
                 with_reducible rfl
                rotate_left
                ·simp only [Act.put,sA_,sZ_,sS_,i64_w,i32_w]
                 rfl
                refine pure_ (i:=8) (N:=some 53) (v:=?_) (a':=?_) c152 rfl rfl (any_of HT_.out (by kernel_rfl)) (fun _ _ _ h=>h) (Or.inl ⟨by rfl,?_⟩) ?_ ?_
                rotate_left
                ·intro w'
                 go_simp
                 with_reducible rfl
                rotate_left
                ·simp only [Act.put,sA_,sZ_,sS_,i64_w,i32_w]
                 rfl
                refine pure_ (i:=9) (N:=some 54) (v:=?_) (a':=?_) c153 rfl rfl (any_of HT_.out (by kernel_rfl)) (fun _ _ _ h=>h) (Or.inl ⟨by rfl,?_⟩) ?_ ?_
                rotate_left
                ·intro w'
                 go_simp
                 with_reducible rfl
                rotate_left
                ·simp only [Act.put,sA_,sZ_,sS_,i64_w,i32_w]
                 rfl
                refine pure_ (i:=10) (N:=some 55) (v:=?_) (a':=?_) c154 rfl rfl (any_of HT_.out (by kernel_rfl)) (fun _ _ _ h=>h) (Or.inl ⟨by rfl,?_⟩) ?_ ?_
                rotate_left
                ·intro w'
                 go_simp
                 with_reducible rfl
                rotate_left
                ·simp only [Act.put,sA_,sZ_,sS_,i64_w,i32_w]
                 rfl
                refine take_ (i:=6) (N:=some 51) (v:=?_) (a':=?_) b28_11 rfl rfl (take_ofW HT_.out HW_.out (by kernel_rfl)) (fun _ _ _ h=>h) (Or.inl ⟨by rfl,?_⟩) hHeld ?_ ?_
                rotate_left
                ·rintro w' ⟨s0,s1,s2,s3,s4,s5⟩
                 go_simp
                 with_reducible rfl
                rotate_left
                ·simp only [Act.put,sA_,sZ_,sS_,i64_w,i32_w]
                 rfl
                refine take_ (i:=11) (N:=some 56) (v:=?_) (a':=?_) b28_12 rfl rfl (take_ofW HT_.out HW_.out (by kernel_rfl)) (fun _ _ _ h=>h) (Or.inl ⟨by rfl,?_⟩) hHeld ?_ ?_
                rotate_left
                ·rintro w' ⟨s0,s1,s2,s3,s4,s5⟩
                 go_simp
                 with_reducible rfl
                rotate_left
                ·simp only [Act.put,sA_,sZ_,sS_,i64_w,i32_w]
                 rfl
                refine pure_ (i:=12) (N:=some 57) (v:=?_) (a':=?_) b28_13 rfl rfl (any_of HT_.out (by kernel_rfl)) (fun _ _ _ h=>h) (Or.inl ⟨by rfl,?_⟩) ?_ ?_
                rotate_left
                ·intro w'
                 go_simp
                 with_reducible rfl
                rotate_left
                ·simp only [Act.put,sA_,sZ_,sS_,i64_w,i32_w]
                 rfl
                refine pure_ (i:=13) (N:=some 58) (v:=?_) (a':=?_) b28_14 rfl rfl (any_of HT_.out (by kernel_rfl)) (fun _ _ _ h=>h) (Or.inl ⟨by rfl,?_⟩) ?_ ?_
                rotate_left
                ·intro w'
                 go_simp
                 with_reducible rfl
                rotate_left
                ·simp only [Act.put,sA_,sZ_,sS_,i64_w,i32_w]
                 rfl
                refine pure_ (i:=14) (N:=some 59) (v:=undef) (a':=?_) b28_15 rfl rfl (any_of HT_.out (by kernel_rfl)) (fun _ _ _ h=>h) (Or.inr ⟨by rfl,rfl⟩) ?_ ?_
                rotate_left
                ·simp only [Act.put,sA_,sZ_,sS_,i64_w,i32_w]
                 rfl
                refine pure_ (i:=15) (N:=some 60) (v:=undef) (a':=?_) b28_16 rfl rfl (any_of HT_.out (by kernel_rfl)) (fun _ _ _ h=>h) (Or.inr ⟨by rfl,rfl⟩) ?_ ?_
                rotate_left
                ·simp only [Act.put,sA_,sZ_,sS_,i64_w,i32_w]
                 rfl
                refine pure_ (i:=16) (N:=some 61) (v:=undef) (a':=?_) b28_17 rfl rfl (any_of HT_.out (by kernel_rfl)) (fun _ _ _ h=>h) (Or.inr ⟨by rfl,rfl⟩) ?_ ?_
                rotate_left
                ·simp only [Act.put,sA_,sZ_,sS_,i64_w,i32_w]
                 rfl
                refine pure_ (i:=17) (N:=some 62) (v:=undef) (a':=?_) b28_18 rfl rfl (any_of HT_.out (by kernel_rfl)) (fun _ _ _ h=>h) (Or.inr ⟨by rfl,rfl⟩) ?_ ?_
                rotate_left
                ·simp only [Act.put,sA_,sZ_,sS_,i64_w,i32_w]
                 rfl
                refine pure_ (i:=18) (N:=some 63) (v:=undef) (a':=?_) b28_19 rfl rfl (any_of HT_.out (by kernel_rfl)) (fun _ _ _ h=>h) (Or.inr ⟨by rfl,rfl⟩) ?_ ?_
                rotate_left
                ·simp only [Act.put,sA_,sZ_,sS_,i64_w,i32_w]
                 rfl
                refine pure_ (i:=19) (N:=some 64) (v:=undef) (a':=?_) b28_20 rfl rfl (any_of HT_.out (by kernel_rfl)) (fun _ _ _ h=>h) (Or.inr ⟨by rfl,rfl⟩) ?_ ?_
                rotate_left
                ·simp only [Act.put,sA_,sZ_,sS_,i64_w,i32_w]
                 rfl
                refine pure_ (i:=20) (N:=some 65) (v:=undef) (a':=?_) b28_21 rfl rfl (any_of HT_.out (by kernel_rfl)) (fun _ _ _ h=>h) (Or.inr ⟨by rfl,rfl⟩) ?_ ?_
                rotate_left
                ·simp only [Act.put,sA_,sZ_,sS_,i64_w,i32_w]
                 rfl
                refine pure_ (i:=21) (N:=some 66) (v:=undef) (a':=?_) b28_22 rfl rfl (any_of HT_.out (by kernel_rfl)) (fun _ _ _ h=>h) (Or.inr ⟨by rfl,rfl⟩) ?_ ?_
                rotate_left
                ·simp only [Act.put,sA_,sZ_,sS_,i64_w,i32_w]
                 rfl
                refine pure_ (i:=22) (N:=some 67) (v:=undef) (a':=?_) b28_23 rfl rfl (any_of HT_.out (by kernel_rfl)) (fun _ _ _ h=>h) (Or.inr ⟨by rfl,rfl⟩) ?_ ?_
                rotate_left
                ·simp only [Act.put,sA_,sZ_,sS_,i64_w,i32_w]
                 rfl
                refine pure_ (i:=23) (N:=some 68) (v:=undef) (a':=?_) b28_24 rfl rfl (any_of HT_.out (by kernel_rfl)) (fun _ _ _ h=>h) (Or.inr ⟨by rfl,rfl⟩) ?_ ?_
                rotate_left
                ·simp only [Act.put,sA_,sZ_,sS_,i64_w,i32_w]
                 rfl
                refine pure_ (i:=24) (N:=some 69) (v:=undef) (a':=?_) b28_25 rfl rfl (any_of HT_.out (by kernel_rfl)) (fun _ _ _ h=>h) (Or.inr ⟨by rfl,rfl⟩) ?_ ?_
                rotate_left
                ·simp only [Act.put,sA_,sZ_,sS_,i64_w,i32_w]
                 rfl
                refine pure_ (i:=25) (N:=some 70) (v:=?_) (a':=?_) b28_26 rfl rfl (any_of HT_.out (by kernel_rfl)) (fun _ _ _ h=>h) (Or.inl ⟨by rfl,?_⟩) ?_ ?_
                rotate_left
                ·intro w'
                 go_simp
                 with_reducible rfl
                rotate_left
                ·simp only [Act.put,sA_,sZ_,sS_,i64_w,i32_w]
                 rfl
                refine pure_ (i:=26) (N:=some 71) (v:=?_) (a':=?_) b28_27 rfl rfl (any_of HT_.out (by kernel_rfl)) (fun _ _ _ h=>h) (Or.inl ⟨by rfl,?_⟩) ?_ ?_
                rotate_left
                ·intro w'
                 go_simp
                 with_reducible rfl
                rotate_left
                ·simp only [Act.put,sA_,sZ_,sS_,i64_w,i32_w]
                 rfl
                refine pure_ (i:=27) (N:=some 7) (v:=?_) (a':=?_) b28_28 rfl rfl (any_of HT_.out (by kernel_rfl)) (fun _ _ _ h=>h) (Or.inl ⟨by rfl,?_⟩) ?_ ?_
                rotate_left
                ·intro w'
                 go_simp
                 with_reducible rfl
                rotate_left
                ·simp only [Act.put,sA_,sZ_,sS_,i64_w,i32_w]
                 rfl
                refine done_ (done_of HT_.out (by kernel_rfl)) ?_
                try go_wp2
                go_roundg k3
                case measure=>have:=HJ4.out;have:=HK2.out;have:=HK3.out;omega
                case rel=>exact ⟨(false),(wrap64 (x8_3 + 1)),(by first|rfl|(simp;done)|(simp [*];done)),(by first|rfl|(simp;done)|(simp [*];done)),H',⟨by have:=HJ4.out;have:=HK2.out;have:=HK3.out;omega⟩,⟨by (with_reducible repeat (first|apply Kd.R_alloc|apply Kd.R_drewN|apply Kd.R_drew));exact HO_4.out⟩,⟨by (with_reducible repeat (first|apply Kd.R_alloc|apply Kd.R_drewN|apply Kd.R_drew));exact HO_5.out⟩,⟨by repeat (first|(with_reducible first|exact HB.out|apply below_alloc|apply pw_below_drewN|apply below_drew1)|exact HB.out)⟩⟩
              ·rw [if_neg c36] at H
               exact absurd H (by simp)
             ·rw [if_neg c35] at H
              exact absurd H (by simp)
            ·rw [if_neg c34] at H
             exact absurd H (by simp)
          ·rw [if_neg c30] at H
           have c30b0 : decide (x8_3 < (t389.length : Int)) = false:=decide_eq_false c30
           clear c30
           by_cases c42 : x7_3 = true
           ·subst c42
            have H1 : (laws_FnSetLeast.l0 k3 t389 t401 (wrap64 (x6_2 + 1))) = some r:=by rw [if_pos rfl] at H;exact H
            clear H
            have H:=H1
            clear H1
            have H':=Aside0.mk H
            clear H
            obtain ⟨Ao43,co43,eo43⟩:=Kd.R_slice HO_4.out
            subst eo43
            go_wp2
            go_roundg k3
            case measure=>have:=HJ4.out;have:=HK2.out;have:=HK3.out;omega
            case rel=>exact ⟨(wrap64 (x6_2 + 1)),(by first|rfl|(simp;done)|(simp [*];done)),H',⟨by have:=HJ4.out;have:=HK2.out;have:=HK3.out;omega⟩,⟨by (with_reducible repeat (first|apply Kd.R_alloc|apply Kd.R_drewN|apply Kd.R_drew));exact HO_4.out⟩,⟨by (with_reducible repeat (first|apply Kd.R_alloc|apply Kd.R_drewN|apply Kd.R_drew));exact HO_5.out⟩,⟨by repeat (first|(with_reducible first|exact HB.out|apply below_alloc|apply pw_below_drewN|apply below_drew1)|exact HB.out)⟩⟩
           ·replace c42:=Bool.eq_false_iff.mpr c42
            subst c42
            have H1 : (some false) = some r:=by rw [if_neg (show ¬ (false = true) by decide)] at H;exact H
            clear H
            have H:=H1
            clear H1
            exact absurd ((Option.some.inj H).trans hq_.out) (by decide)
       ·rw [if_neg c28] at H
        have c28b0 : decide (x6_2 < (t401.length : Int)) = false:=decide_eq_false c28
        clear c28
        have H':=Aside0.mk H
        clear H
        obtain ⟨Ao44,co44,eo44⟩:=Kd.R_slice HO_5.out
        subst eo44
        go_wp2
        go_loopg [9] k2 (fun kq v9 w'=>∃ (x9_3 : Int),v9 = .int .i64 x9_3 ∧ Aside0 (laws_FnSetLeast.l2 kq t389 t401 x9_3 = some r) ∧ Aside0 (kq ≤ k2) ∧ Aside0 (Kd.R k60 60 w' w.heap.size (fun k_=>some k_ ≠ ((.slice Ao44 t401.length co44) : Value).ownBlock) v390 t389) ∧ Aside0 (Kd.R k60 60 w' w.heap.size (fun k_=>some k_ ≠ (v390 : Value).ownBlock) (.slice Ao44 t401.length co44) t401) ∧ Aside0 (Below w.heap.size w w'))
        case atStart=>exact ⟨(0),(by first|rfl|(simp;done)|(simp [*];done)),H',⟨Nat.le_refl _⟩,⟨by (with_reducible repeat (first|apply Kd.R_alloc|apply Kd.R_drewN|apply Kd.R_drew));exact HO_4.out⟩,⟨by (with_reducible repeat (first|apply Kd.R_alloc|apply Kd.R_drewN|apply Kd.R_drew));exact HO_5.out⟩,⟨by repeat (first|(with_reducible first|exact HB.out|apply below_alloc|apply pw_below_drewN|apply below_drew1)|exact HB.out)⟩⟩
        case round =>
         clear H'
         try clear c2
         try clear p2
         try clear c3
         try clear c4
         try clear p4
         try clear q4
         try clear hx4
         try clear p6
         try clear c28
         try clear c28b0
         try clear c30
         try clear c30b0
         try clear c31
         try clear c34
         try clear c34b0
         try clear c35
         try clear c35b0
         try clear c36
         try clear c36b0
         try clear c37
         try clear c37b0
         try clear c37b1
         try clear p40
         try clear q40
         try clear hx40
         try clear c42
         try clear hx404_0
         try clear hx404_1
         try clear hx404_2
         try clear hx405_0
         try clear hx405_1
         try clear hx405_2
         try clear hx406_0
         try clear hx406_1
         try clear hx406_2
         try clear hx407_0
         try clear hx407_1
         try clear hx407_2
         try clear p404
         try clear p405
         try clear p406
         try clear p407
         try clear q404
         try clear q405
         try clear q406
         try clear q407
         obtain ⟨x9_3,rfl,HA,HK3,HO_4,HO_5,HB⟩:=hrel
         cases gk with
         | zero=>exact absurd HA.out (by simp [laws_FnSetLeast.l2])
         | succ k3 =>
          have H:=HA.out
          clear HA
          simp only [laws_FnSetLeast.l2] at H
          by_cases c45 : x9_3 < (t389.length : Int)
          ·rw [if_pos c45] at H
           have c45b0 : decide (x9_3 < (t389.length : Int)) = true:=decide_eq_true c45
           clear c45
           by_cases c46 : 0 ≤ x9_3
           ·rw [if_pos c46] at H
            have c46b0 : decide (0 ≤ x9_3) = true:=decide_eq_true c46
            clear c46
            replace H:=Option.bind_eq_some_iff.mp H
            obtain ⟨t409,A470,H⟩:=H
            replace H : (if t409 = true then (if x9_3 > 0 then (if 0 ≤ (wrap64 (x9_3 - 1)) then (if (wrap64 (x9_3 - 1)) < (t389.length : Int) then (if ((rd_T60 t389 (wrap64 (x9_3 - 1))).f0) ≥ ((rd_T60 t389 x9_3).f0) then (some false) else (laws_FnSetLeast.l2 k3 t389 t401 (wrap64 (x9_3 + 1)))) else (none)) else (none)) else (laws_FnSetLeast.l2 k3 t389 t401 (wrap64 (x9_3 + 1)))) else (some false)) = some r:=H
            have A47:=Aside0.mk A470
            clear A470
            by_cases c48 : t409 = true
            ·subst c48
             have H1 : (if x9_3 > 0 then (if 0 ≤ (wrap64 (x9_3 - 1)) then (if (wrap64 (x9_3 - 1)) < (t389.length : Int) then (if ((rd_T60 t389 (wrap64 (x9_3 - 1))).f0) ≥ ((rd_T60 t389 x9_3).f0) then (some false) else (laws_FnSetLeast.l2 k3 t389 t401 (wrap64 (x9_3 + 1)))) else (none)) else (none)) else (laws_FnSetLeast.l2 k3 t389 t401 (wrap64 (x9_3 + 1)))) = some r:=by rw [if_pos rfl] at H;exact H
             clear H
             have H:=H1
             clear H1
             by_cases c49 : x9_3 > 0
             ·rw [if_pos c49] at H
              have c49b0 : decide (0 < x9_3) = true:=decide_eq_true c49
              clear c49
              obtain ⟨ji50,hji50⟩ : ∃ j_ : Int,(wrap64 (x9_3 - 1)) = j_:=⟨_,rfl⟩
              replace H : (if 0 ≤ (ji50) then (if (ji50) < (t389.length : Int) then (if ((rd_T60 t389 (ji50)).f0) ≥ ((rd_T60 t389 x9_3).f0) then (some false) else (laws_FnSetLeast.l2 k3 t389 t401 (wrap64 (x9_3 + 1)))) else (none)) else (none)) = some r:=by first|(rw [hji50] at H;exact H)|(simp only [hji50] at H ⊢;exact H)
              (try rw [hji50] at A47)
              have hji50w : (IntKind.i64.wrap (x9_3 - 1)) = ji50:=(i64_w _).trans hji50
              by_cases c51 : 0 ≤ (ji50)
              ·rw [if_pos c51] at H
               have c51b0 : decide (0 ≤ (ji50)) = true:=decide_eq_true c51
               clear c51
               by_cases c52 : (ji50) < (t389.length : Int)
               ·rw [if_pos c52] at H
                have c52b0 : decide ((ji50) < (t389.length : Int)) = true:=decide_eq_true c52
                clear c52
                by_cases c53 : ((rd_T60 t389 (ji50)).f0) ≥ ((rd_T60 t389 x9_3).f0)
                ·rw [if_pos c53] at H
                 have c53b0 : decide (((rd_T60 t389 x9_3).f0) ≤ ((rd_T60 t389 (ji50)).f0)) = true:=decide_eq_true c53
                 clear c53
                 exact absurd ((Option.some.inj H).trans hq_.out) (by decide)
                ·rw [if_neg c53] at H
                 have c53b0 : decide (((rd_T60 t389 x9_3).f0) ≤ ((rd_T60 t389 (ji50)).f0)) = false:=decide_eq_false c53
                 clear c53
                 have H':=Aside0.mk H
                 clear H
                 obtain ⟨Ao54,co54,eo54⟩:=Kd.R_slice HO_4.out
                 subst eo54
                 try go_wp2
                 have n0_:=Aside0.mk (Kd.R_drew HO_4.out)
                 have n1_:=Aside0.mk (Kd.R_drew HO_5.out)
                 have n2_:=Aside0.mk (below_drew1 HB.out)
                 clear HO_4
                 clear HO_5
                 clear HB
                 have HO_4:=n0_
                 have HO_5:=n1_
                 have HB:=n2_
                 clear n0_ n1_ n2_
                 have p408 : 0 ≤ (x9_3 : Int):=of_decide_eq_true (by first|(with_reducible assumption)|assumption)
                 have q408 : x9_3 < (t389.length : Int):=of_decide_eq_true (by first|(with_reducible assumption)|assumption)
                 obtain ⟨ad408,e408,hx408_0,hx408_1,hx408_2⟩:=at_T60 (Kd.R_reads' HO_4.out).2.2 x9_3 p408 q408
                 cases e408
                 replace p408:=eq_true p408
                 replace q408:=eq_true q408
                 have p410 : 0 ≤ ((ji50) : Int):=of_decide_eq_true (by first|(with_reducible assumption)|assumption)
                 have q410 : (ji50) < (t389.length : Int):=of_decide_eq_true (by first|(with_reducible assumption)|assumption)
                 obtain ⟨ad410,e410,hx410_0,hx410_1,hx410_2⟩:=at_T60 (Kd.R_reads' HO_4.out).2.2 (ji50) p410 q410
                 obtain rfl : ad408 = ad410:=(by injection e410)
                 replace p410:=eq_true p410
                 replace q410:=eq_true q410
                 have p411 : 0 ≤ (x9_3 : Int):=of_decide_eq_true (by first|(with_reducible assumption)|assumption)
                 have q411 : x9_3 < (t389.length : Int):=of_decide_eq_true (by first|(with_reducible assumption)|assumption)
                 obtain ⟨ad411,e411,hx411_0,hx411_1,hx411_2⟩:=at_T60 (Kd.R_reads' HO_4.out).2.2 x9_3 p411 q411
                 obtain rfl : ad408 = ad411:=(by injection e411)
                 replace p411:=eq_true p411
                 replace q411:=eq_true q411
                 refine start_ (n:=25) (S:=fun w'=>w'.cell? (ad408.add ((x9_3).toNat * 3)) = some (.int .i64 ((rd_T60 t389 x9_3).f0)) ∧ w'.cell? ⟨(ad408.add ((x9_3).toNat * 3)).block,(ad408.add ((x9_3).toNat * 3)).off + 1,none⟩ = some (.int .i64 ((rd_T60 t389 x9_3).f1)) ∧ w'.cell? ⟨(ad408.add ((x9_3).toNat * 3)).block,(ad408.add ((x9_3).toNat * 3)).off + 2,none⟩ = some (.int .i64 ((rd_T60 t389 x9_3).f2)) ∧ w'.cell? (ad408.add (((ji50)).toNat * 3)) = some (.int .i64 ((rd_T60 t389 (ji50)).f0)) ∧ w'.cell? ⟨(ad408.add (((ji50)).toNat * 3)).block,(ad408.add (((ji50)).toNat * 3)).off + 1,none⟩ = some (.int .i64 ((rd_T60 t389 (ji50)).f1)) ∧ w'.cell? ⟨(ad408.add (((ji50)).toNat * 3)).block,(ad408.add (((ji50)).toNat * 3)).off + 2,none⟩ = some (.int .i64 ((rd_T60 t389 (ji50)).f2)) ∧ w'.cell? (ad408.add ((x9_3).toNat * 3)) = some (.int .i64 ((rd_T60 t389 x9_3).f0)) ∧ w'.cell? ⟨(ad408.add ((x9_3).toNat * 3)).block,(ad408.add ((x9_3).toNat * 3)).off + 1,none⟩ = some (.int .i64 ((rd_T60 t389 x9_3).f1)) ∧ w'.cell? ⟨(ad408.add ((x9_3).toNat * 3)).block,(ad408.add ((x9_3).toNat * 3)).off + 2,none⟩ = some (.int .i64 ((rd_T60 t389 x9_3).f2))) (ds:=[]) b25_0 (by kernel_rfl) rfl rfl ⟨hx408_0,hx408_1,hx408_2,hx410_0,hx410_1,hx410_2,hx411_0,hx411_1,hx411_2⟩ (fun hHeld=>?_);refine with_tabW laws_FnSetLeast.tab21 laws_FnSetLeast.bits21 (fun HT_ HW_=>?_)
                 generalize wr.drew = w55 at HO_4 HO_5 HB hx408_0 hx408_1 hx408_2 hx410_0 hx410_1 hx410_2 hx411_0 hx411_1 hx411_2 hHeld ⊢
                 refine pure_ (i:=0) (N:=some 80) (v:=?_) (a':=?_) b25_1 rfl rfl (any_of HT_.out (by kernel_rfl)) (fun _ _ _ h=>h) (Or.inl ⟨by rfl,?_⟩) ?_ ?_
                 rotate_left
                 ·intro w'
                  go_simp
                  with_reducible rfl
                 rotate_left
                 ·simp only [Act.put,sA_,sZ_,sS_,i64_w,i32_w]
                  rfl
                 refine pure_ (i:=1) (N:=some 81) (v:=?_) (a':=?_) b25_2 rfl rfl (any_of HT_.out (by kernel_rfl)) (fun _ _ _ h=>h) (Or.inl ⟨by rfl,?_⟩) ?_ ?_
                 rotate_left
                 ·intro w'
                  go_simp
                  with_reducible rfl
                 rotate_left
                 ·simp only [Act.put,sA_,sZ_,sS_,i64_w,i32_w]
                  rfl
                 refine pure_ (i:=2) (N:=some 82) (v:=?_) (a':=?_) b25_3 rfl rfl (any_of HT_.out (by kernel_rfl)) (fun _ _ _ h=>h) (Or.inl ⟨by rfl,?_⟩) ?_ ?_
                 rotate_left
                 ·intro w'
                  go_simp
                  with_reducible rfl
                 rotate_left
                 ·simp only [Act.put,sA_,sZ_,sS_,i64_w,i32_w]
                  rfl
                 refine pure_ (i:=3) (N:=some 83) (v:=?_) (a':=?_) b25_4 rfl rfl (any_of HT_.out (by kernel_rfl)) (fun _ _ _ h=>h) (Or.inl ⟨by rfl,?_⟩) ?_ ?_
                 rotate_left
                 ·intro w'
                  go_simp
                  with_reducible rfl
                 rotate_left
                 ·simp only [Act.put,sA_,sZ_,sS_,i64_w,i32_w]
                  rfl
                 refine take_ (i:=4) (N:=some 84) (v:=?_) (a':=?_) b25_5 rfl rfl (take_ofW HT_.out HW_.out (by kernel_rfl)) (fun _ _ _ h=>h) (Or.inl ⟨by rfl,?_⟩) hHeld ?_ ?_
                 rotate_left
                 ·rintro w' ⟨s0,s1,s2,s3,s4,s5,s6,s7,s8⟩
                  go_simp
                  with_reducible rfl
                 rotate_left
                 ·simp only [Act.put,sA_,sZ_,sS_,i64_w,i32_w]
                  rfl
                 refine one_ (i:=5) (N:=some 85) b25_6 rfl rfl (one_of HT_.out (by kernel_rfl)) (by decide) (fun K hK=>?_)
                 refine goes_ Try.func53 (by kernel_rfl) rfl #[.slice Ao44 t401.length co44,.agg #[.int .i64 ((rd_T60 t389 x9_3).f0),.int .i64 ((rd_T60 t389 x9_3).f1),.int .i64 ((rd_T60 t389 x9_3).f2)]] (by rfl) rfl rfl (by (try simp only [List.map_toArray,List.map_cons,List.map_nil]);first|done|rfl|(simp only [List.length_drop,List.length_take];rfl)) ?_
                 with_reducible refine (laws_lwHas.calls k3 _ _ t401 ((rd_T60 t389 x9_3).f0) ((rd_T60 t389 x9_3).f1) ((rd_T60 t389 x9_3).f2) true _ ?side1 ?side2 A47.out).mono ?_
                 (case side1=>repeat (first|exact (Kd.R_reads' HO_5.out).2.2|(with_reducible refine Kd.C_alloc ?_ _)|(with_reducible refine Kd.C_drewN ?_ _)|(with_reducible refine Kd.C_drew ?_)))
                 (case side2=>exact (Kd.R_reads' HO_5.out).2.1)
                 rintro e w56 ⟨rfl,hb⟩
                 have HS0_:=(hb.cell (bl_ _ _ (hHeld.1))).trans (hHeld.1)
                 have HS1_:=(hb.cell (bl_ _ _ (hHeld.2.1))).trans (hHeld.2.1)
                 have HS2_:=(hb.cell (bl_ _ _ (hHeld.2.2.1))).trans (hHeld.2.2.1)
                 have HS3_:=(hb.cell (bl_ _ _ (hHeld.2.2.2.1))).trans (hHeld.2.2.2.1)
                 have HS4_:=(hb.cell (bl_ _ _ (hHeld.2.2.2.2.1))).trans (hHeld.2.2.2.2.1)
                 have HS5_:=(hb.cell (bl_ _ _ (hHeld.2.2.2.2.2.1))).trans (hHeld.2.2.2.2.2.1)
                 have HS6_:=(hb.cell (bl_ _ _ (hHeld.2.2.2.2.2.2.1))).trans (hHeld.2.2.2.2.2.2.1)
                 have HS7_:=(hb.cell (bl_ _ _ (hHeld.2.2.2.2.2.2.2.1))).trans (hHeld.2.2.2.2.2.2.2.1)
                 have HS8_:=(hb.cell (bl_ _ _ (hHeld.2.2.2.2.2.2.2.2))).trans (hHeld.2.2.2.2.2.2.2.2)
                 refine ⟨_,rfl,?_⟩
                 have n0_:=Aside0.mk (Kd.R_below (by (with_reducible repeat (first|apply Kd.R_alloc|apply Kd.R_drewN|apply Kd.R_drew));exact HO_4.out) hb)
                 have n1_:=Aside0.mk (Kd.R_below (by (with_reducible repeat (first|apply Kd.R_alloc|apply Kd.R_drewN|apply Kd.R_drew));exact HO_5.out) hb)
                 have n2_:=Aside0.mk (below_step (by repeat (first|(with_reducible first|exact HB.out|apply below_alloc|apply pw_below_drewN|apply below_drew1)|exact HB.out)) hb)
                 clear HO_4
                 clear HO_5
                 clear HB
                 have HO_4:=n0_
                 have HO_5:=n1_
                 have HB:=n2_
                 clear n0_ n1_ n2_
                 (try clear hb)
                 (try clear hb2)
                 (try clear hk)
                 (try clear hi)
                 refine hK.out _ _ ⟨HS0_,HS1_,HS2_,HS3_,HS4_,HS5_,HS6_,HS7_,HS8_⟩ (fun hHeld=>?_)
                 clear hK K
                 refine norm_ (a':=?_) ?_ ?_
                 rotate_left
                 ·show Act.put _ (some 85) _ = _
                  simp only [Act.put,sA_,sZ_,sS_,i64_w,i32_w]
                  rfl
                 refine pure_ (i:=6) (N:=some 86) (v:=?_) (a':=?_) b25_7 rfl rfl (any_of HT_.out (by kernel_rfl)) (fun _ _ _ h=>h) (Or.inl ⟨by rfl,?_⟩) ?_ ?_
                 rotate_left
                 ·intro w'
                  go_simp
                  with_reducible rfl
                 rotate_left
                 ·simp only [Act.put,sA_,sZ_,sS_,i64_w,i32_w]
                  rfl
                 refine pure_ (i:=7) (N:=some 87) (v:=?_) (a':=?_) b25_8 rfl rfl (any_of HT_.out (by kernel_rfl)) (fun _ _ _ h=>h) (Or.inl ⟨by rfl,?_⟩) ?_ ?_
                 rotate_left
                 ·intro w'
                  go_simp
                  with_reducible rfl
                 rotate_left
                 ·simp only [Act.put,sA_,sZ_,sS_,i64_w,i32_w]
                  rfl
                 refine pure_ (i:=8) (N:=some 88) (v:=?_) (a':=?_) b25_9 rfl rfl (any_of HT_.out (by kernel_rfl)) (fun _ _ _ h=>h) (Or.inl ⟨by rfl,?_⟩) ?_ ?_
                 rotate_left
                 ·intro w'
                  go_simp
                  with_reducible rfl
                 rotate_left
                 ·simp only [Act.put,sA_,sZ_,sS_,i64_w,i32_w]
                  rfl
                 refine pure_ (i:=9) (N:=some 89) (v:=?_) (a':=?_) b25_10 rfl rfl (any_of HT_.out (by kernel_rfl)) (fun _ _ _ h=>h) (Or.inl ⟨by rfl,?_⟩) ?_ ?_
                 rotate_left
                 ·intro w'
                  go_simp
                  with_reducible rfl
                 rotate_left
                 ·simp only [Act.put,sA_,sZ_,sS_,i64_w,i32_w]
                  rfl
                 refine pure_ (i:=10) (N:=some 90) (v:=?_) (a':=?_) b25_11 rfl rfl (any_of HT_.out (by kernel_rfl)) (fun _ _ _ h=>h) (Or.inl ⟨by rfl,?_⟩) ?_ ?_
                 rotate_left
                 ·intro w'
                  go_simp
                  with_reducible rfl
                 rotate_left
                 ·simp only [Act.put,sA_,sZ_,sS_,i64_w,i32_w]
                  rfl
                 refine pure_ (i:=11) (N:=some 91) (v:=?_) (a':=?_) b25_12 rfl rfl (any_of HT_.out (by kernel_rfl)) (fun _ _ _ h=>h) (Or.inl ⟨by rfl,?_⟩) ?_ ?_
                 rotate_left
                 ·intro w'
                  go_simp
                  with_reducible rfl
                 rotate_left
                 ·simp only [Act.put,sA_,sZ_,sS_,i64_w,i32_w]
                  rfl
                 refine pure_ (i:=12) (N:=some 92) (v:=?_) (a':=?_) b25_13 rfl rfl (any_of HT_.out (by kernel_rfl)) (fun _ _ _ h=>h) (Or.inl ⟨by rfl,?_⟩) ?_ ?_
                 rotate_left
                 ·intro w'
                  go_simp
                  with_reducible rfl
                 rotate_left
                 ·simp only [Act.put,sA_,sZ_,sS_,i64_w,i32_w]
                  rfl
                 refine pure_ (i:=13) (N:=some 93) (v:=?_) (a':=?_) b25_14 rfl rfl (any_of HT_.out (by kernel_rfl)) (fun _ _ _ h=>h) (Or.inl ⟨by rfl,?_⟩) ?_ ?_
                 rotate_left
                 ·intro w'
                  go_simp
                  with_reducible rfl
                 rotate_left
                 ·simp only [Act.put,sA_,sZ_,sS_,i64_w,i32_w]
                  rfl
                 refine pure_ (i:=14) (N:=some 94) (v:=?_) (a':=?_) b25_15 rfl rfl (any_of HT_.out (by kernel_rfl)) (fun _ _ _ h=>h) (Or.inl ⟨by rfl,?_⟩) ?_ ?_
                 rotate_left
                 ·intro w'
                  go_simp
                  with_reducible rfl
                 rotate_left
                 ·simp only [Act.put,sA_,sZ_,sS_,i64_w,i32_w]
                  rfl
                 refine pure_ (i:=15) (N:=some 95) (v:=?_) (a':=?_) b25_16 rfl rfl (any_of HT_.out (by kernel_rfl)) (fun _ _ _ h=>h) (Or.inl ⟨by rfl,?_⟩) ?_ ?_
                 rotate_left
                 ·intro w'
                  go_simp
                  with_reducible rfl
                 rotate_left
                 ·simp only [Act.put,sA_,sZ_,sS_,i64_w,i32_w]
                  rfl
                 refine pure_ (i:=17) (N:=some 97) (v:=?_) (a':=?_) c176 rfl rfl (any_of HT_.out (by kernel_rfl)) (fun _ _ _ h=>h) (Or.inl ⟨by rfl,?_⟩) ?_ ?_
                 rotate_left
                 ·intro w'
                  go_simp
                  with_reducible rfl
                 rotate_left
                 ·simp only [Act.put,sA_,sZ_,sS_,i64_w,i32_w]
                  rfl
                 refine pure_ (i:=18) (N:=some 98) (v:=?_) (a':=?_) c177 rfl rfl (any_of HT_.out (by kernel_rfl)) (fun _ _ _ h=>h) (Or.inl ⟨by rfl,?_⟩) ?_ ?_
                 rotate_left
                 ·intro w'
                  go_simp
                  with_reducible rfl
                 rotate_left
                 ·simp only [Act.put,sA_,sZ_,sS_,i64_w,i32_w]
                  rfl
                 refine pure_ (i:=19) (N:=some 99) (v:=?_) (a':=?_) c178 rfl rfl (any_of HT_.out (by kernel_rfl)) (fun _ _ _ h=>h) (Or.inl ⟨by rfl,?_⟩) ?_ ?_
                 rotate_left
                 ·intro w'
                  go_simp
                  with_reducible rfl
                 rotate_left
                 ·simp only [Act.put,sA_,sZ_,sS_,i64_w,i32_w]
                  rfl
                 refine pure_ (i:=20) (N:=some 100) (v:=?_) (a':=?_) c179 rfl rfl (any_of HT_.out (by kernel_rfl)) (fun _ _ _ h=>h) (Or.inl ⟨by rfl,?_⟩) ?_ ?_
                 rotate_left
                 ·intro w'
                  go_simp
                  with_reducible rfl
                 rotate_left
                 ·simp only [Act.put,sA_,sZ_,sS_,i64_w,i32_w]
                  rfl
                 refine take_ (i:=16) (N:=some 96) (v:=?_) (a':=?_) b25_21 rfl rfl (take_ofW HT_.out HW_.out (by kernel_rfl)) (fun _ _ _ h=>h) (Or.inl ⟨by rfl,?_⟩) hHeld ?_ ?_
                 rotate_left
                 ·rintro w' ⟨s0,s1,s2,s3,s4,s5,s6,s7,s8⟩
                  go_simp
                  with_reducible rfl
                 rotate_left
                 ·simp only [Act.put,sA_,sZ_,sS_,i64_w,i32_w]
                  rfl
                 refine take_ (i:=21) (N:=some 101) (v:=?_) (a':=?_) b25_22 rfl rfl (take_ofW HT_.out HW_.out (by kernel_rfl)) (fun _ _ _ h=>h) (Or.inl ⟨by rfl,?_⟩) hHeld ?_ ?_
                 rotate_left
                 ·rintro w' ⟨s0,s1,s2,s3,s4,s5,s6,s7,s8⟩
                  go_simp
                  with_reducible rfl
                 rotate_left
                 ·simp only [Act.put,sA_,sZ_,sS_,i64_w,i32_w]
                  rfl
                 refine pure_ (i:=22) (N:=some 102) (v:=?_) (a':=?_) b25_23 rfl rfl (any_of HT_.out (by kernel_rfl)) (fun _ _ _ h=>h) (Or.inl ⟨by rfl,?_⟩) ?_ ?_
                 rotate_left
                 ·intro w'
                  go_simp
                  with_reducible rfl
                 rotate_left
                 ·simp only [Act.put,sA_,sZ_,sS_,i64_w,i32_w]
                  rfl
                 refine pure_ (i:=23) (N:=some 103) (v:=?_) (a':=?_) b25_24 rfl rfl (any_of HT_.out (by kernel_rfl)) (fun _ _ _ h=>h) (Or.inl ⟨by rfl,?_⟩) ?_ ?_
                 rotate_left
                 ·intro w'
                  go_simp
                  with_reducible rfl
                 rotate_left
                 ·simp only [Act.put,sA_,sZ_,sS_,i64_w,i32_w]
                  rfl
                 refine pure_ (i:=24) (N:=some 104) (v:=?_) (a':=?_) b25_25 rfl rfl (any_of HT_.out (by kernel_rfl)) (fun _ _ _ h=>h) (Or.inl ⟨by rfl,?_⟩) ?_ ?_
                 rotate_left
                 ·intro w'
                  go_simp
                  with_reducible rfl
                 rotate_left
                 ·simp only [Act.put,sA_,sZ_,sS_,i64_w,i32_w]
                  rfl
                 refine done_ (done_of HT_.out (by kernel_rfl)) ?_
                 try go_wp2
                 go_roundg k3
                 case measure=>have:=HJ4.out;have:=HK2.out;have:=HK3.out;omega
                 case rel=>exact ⟨(wrap64 (x9_3 + 1)),(by first|rfl|(simp;done)|(simp [*];done)),H',⟨by have:=HJ4.out;have:=HK2.out;have:=HK3.out;omega⟩,⟨by (with_reducible repeat (first|apply Kd.R_alloc|apply Kd.R_drewN|apply Kd.R_drew));exact HO_4.out⟩,⟨by (with_reducible repeat (first|apply Kd.R_alloc|apply Kd.R_drewN|apply Kd.R_drew));exact HO_5.out⟩,⟨by repeat (first|(with_reducible first|exact HB.out|apply below_alloc|apply pw_below_drewN|apply below_drew1)|exact HB.out)⟩⟩
               ·rw [if_neg c52] at H
                exact absurd H (by simp)
              ·rw [if_neg c51] at H
               exact absurd H (by simp)
             ·rw [if_neg c49] at H
              have c49b0 : decide (0 < x9_3) = false:=decide_eq_false c49
              clear c49
              have H':=Aside0.mk H
              clear H
              obtain ⟨Ao57,co57,eo57⟩:=Kd.R_slice HO_4.out
              subst eo57
              try go_wp2
              have n0_:=Aside0.mk (Kd.R_drew HO_4.out)
              have n1_:=Aside0.mk (Kd.R_drew HO_5.out)
              have n2_:=Aside0.mk (below_drew1 HB.out)
              clear HO_4
              clear HO_5
              clear HB
              have HO_4:=n0_
              have HO_5:=n1_
              have HB:=n2_
              clear n0_ n1_ n2_
              have p408 : 0 ≤ (x9_3 : Int):=of_decide_eq_true (by first|(with_reducible assumption)|assumption)
              have q408 : x9_3 < (t389.length : Int):=of_decide_eq_true (by first|(with_reducible assumption)|assumption)
              obtain ⟨ad408,e408,hx408_0,hx408_1,hx408_2⟩:=at_T60 (Kd.R_reads' HO_4.out).2.2 x9_3 p408 q408
              cases e408
              replace p408:=eq_true p408
              replace q408:=eq_true q408
              refine start_ (n:=25) (S:=fun w'=>w'.cell? (ad408.add ((x9_3).toNat * 3)) = some (.int .i64 ((rd_T60 t389 x9_3).f0)) ∧ w'.cell? ⟨(ad408.add ((x9_3).toNat * 3)).block,(ad408.add ((x9_3).toNat * 3)).off + 1,none⟩ = some (.int .i64 ((rd_T60 t389 x9_3).f1)) ∧ w'.cell? ⟨(ad408.add ((x9_3).toNat * 3)).block,(ad408.add ((x9_3).toNat * 3)).off + 2,none⟩ = some (.int .i64 ((rd_T60 t389 x9_3).f2))) (ds:=[]) b25_0 (by kernel_rfl) rfl rfl ⟨hx408_0,hx408_1,hx408_2⟩ (fun hHeld=>?_);refine with_tabW laws_FnSetLeast.tab21 laws_FnSetLeast.bits21 (fun HT_ HW_=>?_)
              generalize wr.drew = w58 at HO_4 HO_5 HB hx408_0 hx408_1 hx408_2 hHeld ⊢
              refine pure_ (i:=0) (N:=some 80) (v:=?_) (a':=?_) b25_1 rfl rfl (any_of HT_.out (by kernel_rfl)) (fun _ _ _ h=>h) (Or.inl ⟨by rfl,?_⟩) ?_ ?_
              rotate_left
              ·intro w'
               go_simp
               with_reducible rfl
              rotate_left
              ·simp only [Act.put,sA_,sZ_,sS_,i64_w,i32_w]
               rfl
              refine pure_ (i:=1) (N:=some 81) (v:=?_) (a':=?_) b25_2 rfl rfl (any_of HT_.out (by kernel_rfl)) (fun _ _ _ h=>h) (Or.inl ⟨by rfl,?_⟩) ?_ ?_
              rotate_left
              ·intro w'
               go_simp
               with_reducible rfl
              rotate_left
              ·simp only [Act.put,sA_,sZ_,sS_,i64_w,i32_w]
               rfl
              refine pure_ (i:=2) (N:=some 82) (v:=?_) (a':=?_) b25_3 rfl rfl (any_of HT_.out (by kernel_rfl)) (fun _ _ _ h=>h) (Or.inl ⟨by rfl,?_⟩) ?_ ?_
              rotate_left
              ·intro w'
               go_simp
               with_reducible rfl
              rotate_left
              ·simp only [Act.put,sA_,sZ_,sS_,i64_w,i32_w]
               rfl
              refine pure_ (i:=3) (N:=some 83) (v:=?_) (a':=?_) b25_4 rfl rfl (any_of HT_.out (by kernel_rfl)) (fun _ _ _ h=>h) (Or.inl ⟨by rfl,?_⟩) ?_ ?_
              rotate_left
              ·intro w'
               go_simp
               with_reducible rfl
              rotate_left
              ·simp only [Act.put,sA_,sZ_,sS_,i64_w,i32_w]
               rfl
              refine take_ (i:=4) (N:=some 84) (v:=?_) (a':=?_) b25_5 rfl rfl (take_ofW HT_.out HW_.out (by kernel_rfl)) (fun _ _ _ h=>h) (Or.inl ⟨by rfl,?_⟩) hHeld ?_ ?_
              rotate_left
              ·rintro w' ⟨s0,s1,s2⟩
               go_simp
               with_reducible rfl
              rotate_left
              ·simp only [Act.put,sA_,sZ_,sS_,i64_w,i32_w]
               rfl
              refine one_ (i:=5) (N:=some 85) b25_6 rfl rfl (one_of HT_.out (by kernel_rfl)) (by decide) (fun K hK=>?_)
              refine goes_ Try.func53 (by kernel_rfl) rfl #[.slice Ao44 t401.length co44,.agg #[.int .i64 ((rd_T60 t389 x9_3).f0),.int .i64 ((rd_T60 t389 x9_3).f1),.int .i64 ((rd_T60 t389 x9_3).f2)]] (by rfl) rfl rfl (by (try simp only [List.map_toArray,List.map_cons,List.map_nil]);first|done|rfl|(simp only [List.length_drop,List.length_take];rfl)) ?_
              with_reducible refine (laws_lwHas.calls k3 _ _ t401 ((rd_T60 t389 x9_3).f0) ((rd_T60 t389 x9_3).f1) ((rd_T60 t389 x9_3).f2) true _ ?side1 ?side2 A47.out).mono ?_
              (case side1=>repeat (first|exact (Kd.R_reads' HO_5.out).2.2|(with_reducible refine Kd.C_alloc ?_ _)|(with_reducible refine Kd.C_drewN ?_ _)|(with_reducible refine Kd.C_drew ?_)))
              (case side2=>exact (Kd.R_reads' HO_5.out).2.1)
              rintro e w59 ⟨rfl,hb⟩
              have HS0_:=(hb.cell (bl_ _ _ (hHeld.1))).trans (hHeld.1)
              have HS1_:=(hb.cell (bl_ _ _ (hHeld.2.1))).trans (hHeld.2.1)
              have HS2_:=(hb.cell (bl_ _ _ (hHeld.2.2))).trans (hHeld.2.2)
              refine ⟨_,rfl,?_⟩
              have n0_:=Aside0.mk (Kd.R_below (by (with_reducible repeat (first|apply Kd.R_alloc|apply Kd.R_drewN|apply Kd.R_drew));exact HO_4.out) hb)
              have n1_:=Aside0.mk (Kd.R_below (by (with_reducible repeat (first|apply Kd.R_alloc|apply Kd.R_drewN|apply Kd.R_drew));exact HO_5.out) hb)
              have n2_:=Aside0.mk (below_step (by repeat (first|(with_reducible first|exact HB.out|apply below_alloc|apply pw_below_drewN|apply below_drew1)|exact HB.out)) hb)
              clear HO_4
              clear HO_5
              clear HB
              have HO_4:=n0_
              have HO_5:=n1_
              have HB:=n2_
              clear n0_ n1_ n2_
              (try clear hb)
              (try clear hb2)
              (try clear hk)
              (try clear hi)
              refine hK.out _ _ ⟨HS0_,HS1_,HS2_⟩ (fun hHeld=>?_)
              clear hK K
              refine norm_ (a':=?_) ?_ ?_
              rotate_left
              ·show Act.put _ (some 85) _ = _
               simp only [Act.put,sA_,sZ_,sS_,i64_w,i32_w]
               rfl
              refine pure_ (i:=6) (N:=some 86) (v:=?_) (a':=?_) b25_7 rfl rfl (any_of HT_.out (by kernel_rfl)) (fun _ _ _ h=>h) (Or.inl ⟨by rfl,?_⟩) ?_ ?_
              rotate_left
              ·intro w'
               go_simp
               with_reducible rfl
              rotate_left
              ·simp only [Act.put,sA_,sZ_,sS_,i64_w,i32_w]
               rfl
              refine pure_ (i:=7) (N:=some 87) (v:=?_) (a':=?_) b25_8 rfl rfl (any_of HT_.out (by kernel_rfl)) (fun _ _ _ h=>h) (Or.inl ⟨by rfl,?_⟩) ?_ ?_
              rotate_left
              ·intro w'
               go_simp
               with_reducible rfl
              rotate_left
              ·simp only [Act.put,sA_,sZ_,sS_,i64_w,i32_w]
               rfl
              refine pure_ (i:=8) (N:=some 88) (v:=?_) (a':=?_) b25_9 rfl rfl (any_of HT_.out (by kernel_rfl)) (fun _ _ _ h=>h) (Or.inl ⟨by rfl,?_⟩) ?_ ?_
              rotate_left
              ·intro w'
               go_simp
               with_reducible rfl
              rotate_left
              ·simp only [Act.put,sA_,sZ_,sS_,i64_w,i32_w]
               rfl
              refine pure_ (i:=9) (N:=some 89) (v:=?_) (a':=?_) b25_10 rfl rfl (any_of HT_.out (by kernel_rfl)) (fun _ _ _ h=>h) (Or.inl ⟨by rfl,?_⟩) ?_ ?_
              rotate_left
              ·intro w'
               go_simp
               with_reducible rfl
              rotate_left
              ·simp only [Act.put,sA_,sZ_,sS_,i64_w,i32_w]
               rfl
              refine pure_ (i:=10) (N:=some 90) (v:=?_) (a':=?_) b25_11 rfl rfl (any_of HT_.out (by kernel_rfl)) (fun _ _ _ h=>h) (Or.inl ⟨by rfl,?_⟩) ?_ ?_
              rotate_left
              ·intro w'
               go_simp
               with_reducible rfl
              rotate_left
              ·simp only [Act.put,sA_,sZ_,sS_,i64_w,i32_w]
               rfl
              refine pure_ (i:=11) (N:=some 91) (v:=undef) (a':=?_) b25_12 rfl rfl (any_of HT_.out (by kernel_rfl)) (fun _ _ _ h=>h) (Or.inr ⟨by rfl,rfl⟩) ?_ ?_
              rotate_left
              ·simp only [Act.put,sA_,sZ_,sS_,i64_w,i32_w]
               rfl
              refine pure_ (i:=12) (N:=some 92) (v:=undef) (a':=?_) b25_13 rfl rfl (any_of HT_.out (by kernel_rfl)) (fun _ _ _ h=>h) (Or.inr ⟨by rfl,rfl⟩) ?_ ?_
              rotate_left
              ·simp only [Act.put,sA_,sZ_,sS_,i64_w,i32_w]
               rfl
              refine pure_ (i:=13) (N:=some 93) (v:=undef) (a':=?_) b25_14 rfl rfl (any_of HT_.out (by kernel_rfl)) (fun _ _ _ h=>h) (Or.inr ⟨by rfl,rfl⟩) ?_ ?_
              rotate_left
              ·simp only [Act.put,sA_,sZ_,sS_,i64_w,i32_w]
               rfl
              refine pure_ (i:=14) (N:=some 94) (v:=undef) (a':=?_) b25_15 rfl rfl (any_of HT_.out (by kernel_rfl)) (fun _ _ _ h=>h) (Or.inr ⟨by rfl,rfl⟩) ?_ ?_
              rotate_left
              ·simp only [Act.put,sA_,sZ_,sS_,i64_w,i32_w]
               rfl
              refine pure_ (i:=15) (N:=some 95) (v:=undef) (a':=?_) b25_16 rfl rfl (any_of HT_.out (by kernel_rfl)) (fun _ _ _ h=>h) (Or.inr ⟨by rfl,rfl⟩) ?_ ?_
              rotate_left
              ·simp only [Act.put,sA_,sZ_,sS_,i64_w,i32_w]
               rfl
              refine pure_ (i:=16) (N:=some 96) (v:=undef) (a':=?_) b25_17 rfl rfl (any_of HT_.out (by kernel_rfl)) (fun _ _ _ h=>h) (Or.inr ⟨by rfl,rfl⟩) ?_ ?_
              rotate_left
              ·simp only [Act.put,sA_,sZ_,sS_,i64_w,i32_w]
               rfl
              refine pure_ (i:=17) (N:=some 97) (v:=undef) (a':=?_) b25_18 rfl rfl (any_of HT_.out (by kernel_rfl)) (fun _ _ _ h=>h) (Or.inr ⟨by rfl,rfl⟩) ?_ ?_
              rotate_left
              ·simp only [Act.put,sA_,sZ_,sS_,i64_w,i32_w]
               rfl
              refine pure_ (i:=18) (N:=some 98) (v:=undef) (a':=?_) b25_19 rfl rfl (any_of HT_.out (by kernel_rfl)) (fun _ _ _ h=>h) (Or.inr ⟨by rfl,rfl⟩) ?_ ?_
              rotate_left
              ·simp only [Act.put,sA_,sZ_,sS_,i64_w,i32_w]
               rfl
              refine pure_ (i:=19) (N:=some 99) (v:=undef) (a':=?_) b25_20 rfl rfl (any_of HT_.out (by kernel_rfl)) (fun _ _ _ h=>h) (Or.inr ⟨by rfl,rfl⟩) ?_ ?_
              rotate_left
              ·simp only [Act.put,sA_,sZ_,sS_,i64_w,i32_w]
               rfl
              refine pure_ (i:=20) (N:=some 100) (v:=undef) (a':=?_) b25_21 rfl rfl (any_of HT_.out (by kernel_rfl)) (fun _ _ _ h=>h) (Or.inr ⟨by rfl,rfl⟩) ?_ ?_
              rotate_left
              ·simp only [Act.put,sA_,sZ_,sS_,i64_w,i32_w]
               rfl
              refine pure_ (i:=21) (N:=some 101) (v:=undef) (a':=?_) b25_22 rfl rfl (any_of HT_.out (by kernel_rfl)) (fun _ _ _ h=>h) (Or.inr ⟨by rfl,rfl⟩) ?_ ?_
              rotate_left
              ·simp only [Act.put,sA_,sZ_,sS_,i64_w,i32_w]
               rfl
              refine pure_ (i:=22) (N:=some 102) (v:=undef) (a':=?_) b25_23 rfl rfl (any_of HT_.out (by kernel_rfl)) (fun _ _ _ h=>h) (Or.inr ⟨by rfl,rfl⟩) ?_ ?_
              rotate_left
              ·simp only [Act.put,sA_,sZ_,sS_,i64_w,i32_w]
               rfl
              refine pure_ (i:=23) (N:=some 103) (v:=?_) (a':=?_) b25_24 rfl rfl (any_of HT_.out (by kernel_rfl)) (fun _ _ _ h=>h) (Or.inl ⟨by rfl,?_⟩) ?_ ?_
              rotate_left
              ·intro w'
               go_simp
               with_reducible rfl
              rotate_left
              ·simp only [Act.put,sA_,sZ_,sS_,i64_w,i32_w]
               rfl
              refine pure_ (i:=24) (N:=some 104) (v:=?_) (a':=?_) b25_25 rfl rfl (any_of HT_.out (by kernel_rfl)) (fun _ _ _ h=>h) (Or.inl ⟨by rfl,?_⟩) ?_ ?_
              rotate_left
              ·intro w'
               go_simp
               with_reducible rfl
              rotate_left
              ·simp only [Act.put,sA_,sZ_,sS_,i64_w,i32_w]
               rfl
              refine done_ (done_of HT_.out (by kernel_rfl)) ?_
              try go_wp2
              go_roundg k3
              case measure=>have:=HJ4.out;have:=HK2.out;have:=HK3.out;omega
              case rel=>exact ⟨(wrap64 (x9_3 + 1)),(by first|rfl|(simp;done)|(simp [*];done)),H',⟨by have:=HJ4.out;have:=HK2.out;have:=HK3.out;omega⟩,⟨by (with_reducible repeat (first|apply Kd.R_alloc|apply Kd.R_drewN|apply Kd.R_drew));exact HO_4.out⟩,⟨by (with_reducible repeat (first|apply Kd.R_alloc|apply Kd.R_drewN|apply Kd.R_drew));exact HO_5.out⟩,⟨by repeat (first|(with_reducible first|exact HB.out|apply below_alloc|apply pw_below_drewN|apply below_drew1)|exact HB.out)⟩⟩
            ·replace c48:=Bool.eq_false_iff.mpr c48
             subst c48
             have H1 : (some false) = some r:=by rw [if_neg (show ¬ (false = true) by decide)] at H;exact H
             clear H
             have H:=H1
             clear H1
             exact absurd ((Option.some.inj H).trans hq_.out) (by decide)
           ·rw [if_neg c46] at H
            exact absurd H (by simp)
          ·rw [if_neg c45] at H
           have c45b0 : decide (x9_3 < (t389.length : Int)) = false:=decide_eq_false c45
           clear c45
           replace H:=Option.bind_eq_some_iff.mp H
           obtain ⟨t412,A600,H⟩:=H
           replace H : ((laws_lwItems.f k3 t412 t389).bind fun t415=>(if t415 = true then ((impl_SetLeast.f k3 t389).bind fun t416=>((laws_lwItems.f k3 t416 t389).bind fun t419=>(some t419))) else (some false))) = some r:=H
           have A60:=Aside0.mk A600
           clear A600
           replace H:=Option.bind_eq_some_iff.mp H
           obtain ⟨t415,A610,H⟩:=H
           replace H : (if t415 = true then ((impl_SetLeast.f k3 t389).bind fun t416=>((laws_lwItems.f k3 t416 t389).bind fun t419=>(some t419))) else (some false)) = some r:=H
           have A61:=Aside0.mk A610
           clear A610
           by_cases c62 : t415 = true
           ·subst c62
            have H1 : ((impl_SetLeast.f k3 t389).bind fun t416=>((laws_lwItems.f k3 t416 t389).bind fun t419=>(some t419))) = some r:=by rw [if_pos rfl] at H;exact H
            clear H
            have H:=H1
            clear H1
            replace H:=Option.bind_eq_some_iff.mp H
            obtain ⟨t416,A630,H⟩:=H
            replace H : ((laws_lwItems.f k3 t416 t389).bind fun t419=>(some t419)) = some r:=H
            have A63:=Aside0.mk A630
            clear A630
            replace H:=Option.bind_eq_some_iff.mp H
            obtain ⟨t419,A640,H⟩:=H
            replace H : (some t419) = some r:=H
            have A64:=Aside0.mk A640
            clear A640
            obtain rfl:=Option.some.inj H
            obtain ⟨Ao65,co65,eo65⟩:=Kd.R_slice HO_4.out
            subst eo65
            go_wp2_with (first|((with_reducible refine gate_callee (f:=46) rfl ?_);refine goesL_ (some 106) rfl rfl Try.func46 (by kernel_rfl) rfl #[.slice Ao44 t401.length co44] rfl (by (try simp only [List.map_toArray,List.map_cons,List.map_nil]);first|done|rfl|(simp only [List.length_drop,List.length_take];rfl)) ?_;(with_reducible refine (impl_SetLeast.calls k3 _ _ t401 t412 _ ?side1 ?side2 A60.out).mono ?_);(case side1=>repeat (first|exact (Kd.R_reads' HO_5.out).2.2|(with_reducible refine Kd.C_alloc ?_ _)|(with_reducible refine Kd.C_drewN ?_ _)|(with_reducible refine Kd.C_drew ?_)));(case side2=>exact (Kd.R_reads' HO_5.out).2.1);rintro e w66 ⟨v413,rfl,ho0,hb⟩;refine ⟨_,rfl,?_⟩;have n0_:=Aside0.mk (Kd.R_elder' (by (with_reducible repeat (first|apply Kd.R_alloc|apply Kd.R_drewN|apply Kd.R_drew));exact HO_4.out) (Kd.R_base ho0) hb);have n1_:=Aside0.mk (Kd.R_elder' (by (with_reducible repeat (first|apply Kd.R_alloc|apply Kd.R_drewN|apply Kd.R_drew));exact HO_5.out) (Kd.R_base ho0) hb);have n2_:=Aside0.mk (Kd.R_lower (Kd.R_new' (Kd.R_new' ho0 (Kd.R_lt (by (with_reducible repeat (first|apply Kd.R_alloc|apply Kd.R_drewN|apply Kd.R_drew));exact HO_4.out))) (Kd.R_lt (by (with_reducible repeat (first|apply Kd.R_alloc|apply Kd.R_drewN|apply Kd.R_drew));exact HO_5.out))) (below_size (by repeat (first|(with_reducible first|exact HB.out|apply below_alloc|apply pw_below_drewN|apply below_drew1)|exact HB.out))));have n3_:=Aside0.mk (below_step (by repeat (first|(with_reducible first|exact HB.out|apply below_alloc|apply pw_below_drewN|apply below_drew1)|exact HB.out)) hb);clear HO_4;clear HO_5;clear HB;have HO_4:=n0_;have HO_5:=n1_;have HO414:=n2_;have HB:=n3_;clear n0_ n1_ n2_ n3_;(try clear hb);(try clear hb2);(try clear hk);(try clear hi);(try clear ho0);obtain ⟨Ao67,co67,eo67⟩:=Kd.R_slice HO414.out;subst eo67)|((with_reducible refine gate_callee (f:=50) rfl ?_);refine goesL_ (some 108) rfl rfl Try.func50 (by kernel_rfl) rfl #[.slice Ao67 t412.length co67,.slice Ao65 t389.length co65] rfl (by (try simp only [List.map_toArray,List.map_cons,List.map_nil]);first|done|rfl|(simp only [List.length_drop,List.length_take];rfl)) ?_;(with_reducible refine (laws_lwItems.calls k3 _ _ t412 _ _ t389 true _ ?side1 ?side2 ?side3 ?side4 A61.out).mono ?_);(case side1=>repeat (first|exact (Kd.R_reads' HO414.out).2.2|(with_reducible refine Kd.C_alloc ?_ _)|(with_reducible refine Kd.C_drewN ?_ _)|(with_reducible refine Kd.C_drew ?_)));(case side2=>exact (Kd.R_reads' HO414.out).2.1);(case side3=>repeat (first|exact (Kd.R_reads' HO_4.out).2.2|(with_reducible refine Kd.C_alloc ?_ _)|(with_reducible refine Kd.C_drewN ?_ _)|(with_reducible refine Kd.C_drew ?_)));(case side4=>exact (Kd.R_reads' HO_4.out).2.1);rintro e w' ⟨rfl,⟨nd,rfl⟩⟩;refine ⟨_,rfl,?_⟩)|(go_at_call 46;(with_reducible refine (impl_SetLeast.calls k3 _ _ t389 t416 _ ?side1 ?side2 A63.out).mono ?_);(case side1=>repeat (first|exact (Kd.R_reads' HO_4.out).2.2|(with_reducible refine Kd.C_alloc ?_ _)|(with_reducible refine Kd.C_drewN ?_ _)|(with_reducible refine Kd.C_drew ?_)));(case side2=>exact (Kd.R_reads' HO_4.out).2.1);rintro e w68 ⟨v417,rfl,ho0,hb⟩;have n0_:=Aside0.mk (Kd.R_elder' (by (with_reducible repeat (first|apply Kd.R_alloc|apply Kd.R_drewN|apply Kd.R_drew));exact HO_4.out) (Kd.R_base ho0) hb);have n1_:=Aside0.mk (Kd.R_elder' (by (with_reducible repeat (first|apply Kd.R_alloc|apply Kd.R_drewN|apply Kd.R_drew));exact HO_5.out) (Kd.R_base ho0) hb);have n2_:=Aside0.mk (Kd.R_elder' (by (with_reducible repeat (first|apply Kd.R_alloc|apply Kd.R_drewN|apply Kd.R_drew));exact HO414.out) (Kd.R_base ho0) hb);have n3_:=Aside0.mk (Kd.R_lower (Kd.R_new' (Kd.R_new' (Kd.R_new' ho0 (Kd.R_lt (by (with_reducible repeat (first|apply Kd.R_alloc|apply Kd.R_drewN|apply Kd.R_drew));exact HO_4.out))) (Kd.R_lt (by (with_reducible repeat (first|apply Kd.R_alloc|apply Kd.R_drewN|apply Kd.R_drew));exact HO_5.out))) (Kd.R_lt (by (with_reducible repeat (first|apply Kd.R_alloc|apply Kd.R_drewN|apply Kd.R_drew));exact HO414.out))) (below_size (by repeat (first|(with_reducible first|exact HB.out|apply below_alloc|apply pw_below_drewN|apply below_drew1)|exact HB.out))));have n4_:=Aside0.mk (below_step (by repeat (first|(with_reducible first|exact HB.out|apply below_alloc|apply pw_below_drewN|apply below_drew1)|exact HB.out)) hb);clear HO_4;clear HO_5;clear HO414;clear HB;have HO_4:=n0_;have HO_5:=n1_;have HO414:=n2_;have HO418:=n3_;have HB:=n4_;clear n0_ n1_ n2_ n3_ n4_;(try clear hb);(try clear hb2);(try clear hk);(try clear hi);(try clear ho0);obtain ⟨Ao69,co69,eo69⟩:=Kd.R_slice HO418.out;subst eo69)|(go_at_call 50;(with_reducible refine (laws_lwItems.calls k3 _ _ t416 _ _ t389 t419 _ ?side1 ?side2 ?side3 ?side4 A64.out).mono ?_);(case side1=>repeat (first|exact (Kd.R_reads' HO418.out).2.2|(with_reducible refine Kd.C_alloc ?_ _)|(with_reducible refine Kd.C_drewN ?_ _)|(with_reducible refine Kd.C_drew ?_)));(case side2=>exact (Kd.R_reads' HO418.out).2.1);(case side3=>repeat (first|exact (Kd.R_reads' HO_4.out).2.2|(with_reducible refine Kd.C_alloc ?_ _)|(with_reducible refine Kd.C_drewN ?_ _)|(with_reducible refine Kd.C_drew ?_)));(case side4=>exact (Kd.R_reads' HO_4.out).2.1);rintro e w' ⟨rfl,⟨nd,rfl⟩⟩))
            go_ret
            exact ⟨by first|rfl|(simp [errW_none,errW_some] <;> rfl)|(simp [*,errW_none,errW_some] <;> rfl),by repeat (first|(with_reducible first|exact HB.out|apply below_alloc|apply pw_below_drewN|apply below_drew1)|exact HB.out)⟩
           ·replace c62:=Bool.eq_false_iff.mpr c62
            subst c62
            have H1 : (some false) = some r:=by rw [if_neg (show ¬ (false = true) by decide)] at H;exact H
            clear H
            have H:=H1
            clear H1
            exact absurd ((Option.some.inj H).trans hq_.out) (by decide)
def laws_FnSetLeast.Pure : Prop := ∀ (l0 : List Int), l0.length ≤ maxLen → l0.length * 1 ≤ 140737488351232 → (∀ x ∈ l0, (Lit.int .u8 x).wf = true) → ∃ k, laws_FnSetLeast.f k l0 = some true
end Go.Proofs.Ytiegpijhkhopgaa.PFnSetLeast
