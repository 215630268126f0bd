/- Functions that the law comes to: each as a plain Lean function, with the contract of the Go function. -/
import Derived.Test.YtjlkffmdmifahaaVFnBatchMoveBothw
import Derived.Test.YtjlkffmdmifahaaVFnBatchMoveBothp0
import Derived.Test.YtjlkffmdmifahaaVFnBatchMoveBothp2
import Derived.Test.YtjlkffmdmifahaaVFnBatchMoveBothp3
namespace Go.Proofs.Ytjlkffmdmifahaa.PFnBatchMoveBoth
open Go.RowKit Go.Proofs.YtjlkffmdmifahaaW.PrintWords Go.Proofs.YtjlkffmdmifahaaW.PrintLast Go.Proofs.YtjlkffmdmifahaaW.PrintMore
attribute [local go_sem] max2_int min2_int max_two min_two max_three min_three max_four min_four
set_option linter.unusedVariables false
set_option linter.unusedSimpArgs false
attribute [local go_sem high] eqA36 eqA38
set_option maxHeartbeats 8000000 in
set_option maxRecDepth 100000 in
theorem laws_lwRows.calls (k : Nat) (A0 : Option Addr) (c0 : Nat) (l0 : List (S38)) (A1 : Option Addr) (c1 : Nat) (l1 : List (S38)) (r : Bool) (w : World) (hr0 : Kd.C k38 w A0 l0.length l0) (hc0 : l0.length ≤ c0) (hr1 : Kd.C k38 w A1 l1.length l1) (hc1 : l1.length ≤ c1) (h : laws_lwRows.f k l0 l1 = some r) :
  Calls Try.prog 18 #[.slice A0 l0.length c0,.slice A1 l1.length c1] w fun e w'=>e = .returned (.bool r) ∧ Drawn0 w w':=by
 have hu38:=Try.underlying38
 have HR0:=Aside0.mk hr0
 have HC0:=Aside0.mk hc0
 clear hr0 hc0
 have HR1:=Aside0.mk hr1
 have HC1:=Aside0.mk hc1
 clear hr1 hc1
 have H : (if (l0.length : Int) = (l1.length : Int) then (laws_lwRows.l0 k l0 l1 0) else (some false)) = some r:=h
 clear h
 by_cases c3 : (l0.length : Int) = (l1.length : Int)
 ·rw [if_pos c3] at H
  have c3b0 : ((l0.length : Int) == (l1.length : Int)) = true:=beq_iff_eq.mpr c3
  have c3b1 : ((l0.length : Int) != (l1.length : Int)) = false:=bne_eq_false_iff_eq.mpr c3
  have c3b2 : (l0.length == l1.length) = true:=by first|simpa using c3|(simp at c3 ⊢;omega)
  clear c3
  have H':=Aside0.mk H
  clear H
  go_enter Try.func18,Try.ntmps18
  go_wp2
  repeat (go_quiet (fail);try go_wp2)
  go_loopg [5] k (fun kq v5 w'=>∃ (x5_1 : Int),v5 = .int .i64 x5_1 ∧ Aside0 (laws_lwRows.l0 kq l0 l1 x5_1 = some r) ∧ Aside0 (kq ≤ k) ∧ Drawn0 w w')
  case atStart=>exact ⟨(0),Q5,H',⟨Nat.le_refl _⟩,Q9⟩
  case round =>
   clear H'
   try clear c1
   try clear p2
   try clear c3
   try clear c3b0
   try clear c3b1
   try clear c3b2
   obtain ⟨x5_1,rfl,HA,HK1,⟨m1,rfl⟩⟩:=hrel
   cases gk with
   | zero=>exact absurd HA.out (by simp [laws_lwRows.l0])
   | succ k1 =>
    have H:=HA.out
    clear HA
    simp only [laws_lwRows.l0] at H
    by_cases c4 : x5_1 < (l0.length : Int)
    ·rw [if_pos c4] at H
     have c4b0 : decide (x5_1 < (l0.length : Int)) = true:=decide_eq_true c4
     clear c4
     have c5 : 0 ≤ x5_1:=nn_ H
     rw [if_pos c5] at H
     have c5b0 : decide (0 ≤ x5_1) = true:=decide_eq_true c5
     clear c5
     have c6 : x5_1 < (l1.length : Int):=nn_ H
     rw [if_pos c6] at H
     have c6b0 : decide (x5_1 < (l1.length : Int)) = true:=decide_eq_true c6
     clear c6
     by_cases c7 : (!(((rd_T38 l0 x5_1).f0) == ((rd_T38 l1 x5_1).f0)) || (!(((rd_T38 l0 x5_1).f1) == ((rd_T38 l1 x5_1).f1)) || ((!(((rd_T38 l0 x5_1).f2.f0) == ((rd_T38 l1 x5_1).f2.f0)) || (!(((rd_T38 l0 x5_1).f2.f1) == ((rd_T38 l1 x5_1).f2.f1)))) || (!(((rd_T38 l0 x5_1).f3) == ((rd_T38 l1 x5_1).f3)))))) = true
     ·rw [if_pos c7] at H
      have c7b0 : (!(((rd_T38 l0 x5_1).f0) == ((rd_T38 l1 x5_1).f0)) || (!(((rd_T38 l0 x5_1).f1) == ((rd_T38 l1 x5_1).f1)) || ((!(((rd_T38 l0 x5_1).f2.f0) == ((rd_T38 l1 x5_1).f2.f0)) || (!(((rd_T38 l0 x5_1).f2.f1) == ((rd_T38 l1 x5_1).f2.f1)))) || (!(((rd_T38 l0 x5_1).f3) == ((rd_T38 l1 x5_1).f3)))))) = true:=c7
      clear c7
      obtain rfl:=Option.some.inj H
      have p416 : 0 ≤ (x5_1 : Int):=of_decide_eq_true Q6
      have q416 : x5_1 < (l0.length : Int):=of_decide_eq_true Q6
      obtain ⟨ad416,e416,hx416_0,hx416_1,hx416_2,hx416_3,hx416_4⟩:=at_T38 HR0.out x5_1 p416 q416
      cases e416
      replace p416:=eq_true p416
      replace q416:=eq_true q416
      have p417 : 0 ≤ (x5_1 : Int):=of_decide_eq_true Q6
      have q417 : x5_1 < (l1.length : Int):=of_decide_eq_true Q6
      obtain ⟨ad417,e417,hx417_0,hx417_1,hx417_2,hx417_3,hx417_4⟩:=at_T38 HR1.out x5_1 p417 q417
      cases e417
      replace p417:=eq_true p417
      replace q417:=eq_true q417
      go_wp2
      repeat (go_quiet (fail);try go_wp2)
      go_ret
      exact ⟨Q5,Q9⟩
     ·rw [if_neg c7] at H
      have c7b0 : (!(((rd_T38 l0 x5_1).f0) == ((rd_T38 l1 x5_1).f0)) || (!(((rd_T38 l0 x5_1).f1) == ((rd_T38 l1 x5_1).f1)) || ((!(((rd_T38 l0 x5_1).f2.f0) == ((rd_T38 l1 x5_1).f2.f0)) || (!(((rd_T38 l0 x5_1).f2.f1) == ((rd_T38 l1 x5_1).f2.f1)))) || (!(((rd_T38 l0 x5_1).f3) == ((rd_T38 l1 x5_1).f3)))))) = false:=by simpa using c7
      clear c7
      have H':=Aside0.mk H
      clear H
      have p416 : 0 ≤ (x5_1 : Int):=of_decide_eq_true Q6
      have q416 : x5_1 < (l0.length : Int):=of_decide_eq_true Q6
      obtain ⟨ad416,e416,hx416_0,hx416_1,hx416_2,hx416_3,hx416_4⟩:=at_T38 HR0.out x5_1 p416 q416
      cases e416
      replace p416:=eq_true p416
      replace q416:=eq_true q416
      have p417 : 0 ≤ (x5_1 : Int):=of_decide_eq_true Q6
      have q417 : x5_1 < (l1.length : Int):=of_decide_eq_true Q6
      obtain ⟨ad417,e417,hx417_0,hx417_1,hx417_2,hx417_3,hx417_4⟩:=at_T38 HR1.out x5_1 p417 q417
      cases e417
      replace p417:=eq_true p417
      replace q417:=eq_true q417
      go_wp2
      repeat (go_quiet (fail);try go_wp2)
      go_roundg k1
      case measure=>have:=HK1.out;omega
      case rel=>exact ⟨(wrap64 (x5_1 + 1)),Q5,H',⟨Q2⟩,Q9⟩
    ·rw [if_neg c4] at H
     have c4b0 : decide (x5_1 < (l0.length : Int)) = false:=decide_eq_false c4
     clear c4
     obtain rfl:=Option.some.inj H
     go_wp2
     repeat (go_quiet (fail);try go_wp2)
     go_ret
     exact ⟨Q5,Q9⟩
 ·rw [if_neg c3] at H
  have c3b0 : ((l0.length : Int) == (l1.length : Int)) = false:=beq_eq_false_iff_ne.mpr c3
  have c3b1 : ((l0.length : Int) != (l1.length : Int)) = true:=bne_iff_ne.mpr c3
  have c3b2 : (l0.length == l1.length) = false:=by first|simpa using c3|(simp at c3 ⊢;omega)
  obtain rfl:=Option.some.inj H
  go_enter Try.func18,Try.ntmps18
  go_wp2
  repeat (go_quiet (fail);try go_wp2)
  go_ret
  exact ⟨Q5,Q9⟩
def spec_l2Row.f (a0_0 : Int) (a0_1 : Int) (a0_2 : Int) (a0_3 : Int) (a0_4 : Int) : Option (Bool) := (spec_l6In.f a0_0 0 3).bind fun t419 => (if t419 = true then ((spec_l6In.f a0_1 0 99).bind fun t420 => (if t420 = true then ((spec_TimeOk.f a0_2 a0_3).bind fun t421 => (if t421 = true then ((spec_l6In.f a0_4 (-99999) 99999).bind fun t422 => (some t422)) else (some false))) else (some false))) else (some false))
set_option maxHeartbeats 8000000 in
set_option maxRecDepth 100000 in
theorem spec_l2Row.calls (a0_0 : Int) (a0_1 : Int) (a0_2 : Int) (a0_3 : Int) (a0_4 : Int) (r : Bool) (w : World) (h : spec_l2Row.f a0_0 a0_1 a0_2 a0_3 a0_4 = some r) :
  Calls Try.prog 59 #[.agg #[.int .i64 a0_0,.int .i64 a0_1,.int .i64 a0_2,.int .i64 a0_3,.int .i64 a0_4]] w fun e w'=>e = .returned (.bool r) ∧ Below w.heap.size w w':=by
 have hu38:=Try.underlying38
 have hu36:=Try.underlying36
 have HB:=am (Below.refl w.heap.size w)
 have H : ((spec_l6In.f a0_0 0 3).bind fun t419=>(if t419 = true then ((spec_l6In.f a0_1 0 99).bind fun t420=>(if t420 = true then ((spec_TimeOk.f a0_2 a0_3).bind fun t421=>(if t421 = true then ((spec_l6In.f a0_4 (-99999) 99999).bind fun t422=>(some t422)) else (some false))) else (some false))) else (some false))) = some r:=h
 clear h
 replace H:=Option.bind_eq_some_iff.mp H
 obtain ⟨t419,A20,H⟩:=H
 replace H : (if t419 = true then ((spec_l6In.f a0_1 0 99).bind fun t420=>(if t420 = true then ((spec_TimeOk.f a0_2 a0_3).bind fun t421=>(if t421 = true then ((spec_l6In.f a0_4 (-99999) 99999).bind fun t422=>(some t422)) else (some false))) else (some false))) else (some false)) = some r:=H
 have A2:=Aside0.mk A20
 clear A20
 by_cases c3 : t419 = true
 ·subst c3
  have H1 : ((spec_l6In.f a0_1 0 99).bind fun t420=>(if t420 = true then ((spec_TimeOk.f a0_2 a0_3).bind fun t421=>(if t421 = true then ((spec_l6In.f a0_4 (-99999) 99999).bind fun t422=>(some t422)) else (some false))) else (some false))) = some r:=by rw [if_pos rfl] at H;exact H
  clear H
  have H:=H1
  clear H1
  replace H:=Option.bind_eq_some_iff.mp H
  obtain ⟨t420,A40,H⟩:=H
  replace H : (if t420 = true then ((spec_TimeOk.f a0_2 a0_3).bind fun t421=>(if t421 = true then ((spec_l6In.f a0_4 (-99999) 99999).bind fun t422=>(some t422)) else (some false))) else (some false)) = some r:=H
  have A4:=Aside0.mk A40
  clear A40
  by_cases c5 : t420 = true
  ·subst c5
   have H1 : ((spec_TimeOk.f a0_2 a0_3).bind fun t421=>(if t421 = true then ((spec_l6In.f a0_4 (-99999) 99999).bind fun t422=>(some t422)) else (some false))) = some r:=by rw [if_pos rfl] at H;exact H
   clear H
   have H:=H1
   clear H1
   replace H:=Option.bind_eq_some_iff.mp H
   obtain ⟨t421,A60,H⟩:=H
   replace H : (if t421 = true then ((spec_l6In.f a0_4 (-99999) 99999).bind fun t422=>(some t422)) else (some false)) = some r:=H
   have A6:=Aside0.mk A60
   clear A60
   by_cases c7 : t421 = true
   ·subst c7
    have H1 : ((spec_l6In.f a0_4 (-99999) 99999).bind fun t422=>(some t422)) = some r:=by rw [if_pos rfl] at H;exact H
    clear H
    have H:=H1
    clear H1
    replace H:=Option.bind_eq_some_iff.mp H
    obtain ⟨t422,A80,H⟩:=H
    replace H : (some t422) = some r:=H
    have A8:=Aside0.mk A80
    clear A80
    obtain rfl:=Option.some.inj H
    go_enter Try.func59,Try.ntmps59
    go_wp2_with (first|((with_reducible refine gate_dst (N:=1) rfl ?_);refine box_event ?hg (N:=1) ?hd (cs:=#[.int .i64 a0_0,.int .i64 a0_1,.int .i64 a0_2,.int .i64 a0_3,.int .i64 a0_4]) (t:=38) ?hr ?_;(case hd=>rfl);(case hg=>rfl);(case hr=>first|(go_simp;done)|(go_simp;rfl));intro gb418 hg w9 hbox hb;have n0_:=am (below_step Q77 hb);have n1_:=am (hbox);have n2_:=am ((Q167 : w.heap.size ≤ gb418));have n3_:=n2_;clear HB;have HB:=n0_;have BK418:=n1_;have GW418:=n2_;have GE418:=n3_;clear n0_ n1_ n2_ n3_;clear hb hbox hg;obtain ⟨hcz10_0,hcz10_1,hcz10_2,hcz10_3,hcz10_4,hfz10_0,hfz10_1,hfz10_2,hfz10_3,hfz10_4⟩:=bx5_ BK418)|((with_reducible refine gate_callee (f:=89) rfl ?_);refine goesL_ (some 5) rfl rfl Try.func89 Q1 rfl #[.int .i64 a0_0,.int .i64 0,.int .i64 3] rfl Q79 ?_;(with_reducible refine (spec_l6In.calls a0_0 0 3 true _ A2.out).mono ?_);rintro e w' ⟨rfl,⟨nd,rfl⟩⟩;refine ⟨_,rfl,?_⟩)|(go_at_call 89;(with_reducible refine (spec_l6In.calls a0_1 0 99 true _ A4.out).mono ?_);rintro e w' ⟨rfl,⟨nd,rfl⟩⟩)|(go_at_call 60;(with_reducible refine (spec_TimeOk.calls a0_2 a0_3 true _ A6.out).mono ?_);rintro e w11 ⟨rfl,hb⟩;have n0_:=am (blk_below (g:=gb418) (o:=.cells #[.int .i64 a0_0,.int .i64 a0_1,.int .i64 a0_2,.int .i64 a0_3,.int .i64 a0_4] 38 (0,0)) (by (with_reducible repeat (first|refine blk_drewN ?_ _|refine blk_drew ?_|refine blk_alloc ?_ _));exact BK418.out) hb);have n1_:=am (below_step Q100 hb);clear BK418 HB;have BK418:=n0_;have HB:=n1_;clear n0_ n1_;(try clear hb);(try clear hb2);(try clear hk);(try clear hi);obtain ⟨hcz12_0,hcz12_1,hcz12_2,hcz12_3,hcz12_4,hfz12_0,hfz12_1,hfz12_2,hfz12_3,hfz12_4⟩:=bx5_ BK418)|(go_at_call 89;(with_reducible refine (spec_l6In.calls a0_4 (-99999) 99999 t422 _ A8.out).mono ?_);rintro e w' ⟨rfl,⟨nd,rfl⟩⟩))
    go_ret
    exact ⟨Q17,Q100⟩
   ·replace c7:=Bool.eq_false_iff.mpr c7
    subst c7
    have H1 : (some false) = some r:=by rw [if_neg (show ¬ (false = true) by decide)] at H;exact H
    clear H
    have H:=H1
    clear H1
    obtain rfl:=Option.some.inj H
    go_enter Try.func59,Try.ntmps59
    go_wp2_with (first|((with_reducible refine gate_dst (N:=1) rfl ?_);refine box_event ?hg (N:=1) ?hd (cs:=#[.int .i64 a0_0,.int .i64 a0_1,.int .i64 a0_2,.int .i64 a0_3,.int .i64 a0_4]) (t:=38) ?hr ?_;(case hd=>rfl);(case hg=>rfl);(case hr=>first|(go_simp;done)|(go_simp;rfl));intro gb418 hg w13 hbox hb;have n0_:=am (below_step Q77 hb);have n1_:=am (hbox);have n2_:=am ((Q167 : w.heap.size ≤ gb418));have n3_:=n2_;clear HB;have HB:=n0_;have BK418:=n1_;have GW418:=n2_;have GE418:=n3_;clear n0_ n1_ n2_ n3_;clear hb hbox hg;obtain ⟨hcz14_0,hcz14_1,hcz14_2,hcz14_3,hcz14_4,hfz14_0,hfz14_1,hfz14_2,hfz14_3,hfz14_4⟩:=bx5_ BK418)|((with_reducible refine gate_callee (f:=89) rfl ?_);refine goesL_ (some 5) rfl rfl Try.func89 Q1 rfl #[.int .i64 a0_0,.int .i64 0,.int .i64 3] rfl Q79 ?_;(with_reducible refine (spec_l6In.calls a0_0 0 3 true _ A2.out).mono ?_);rintro e w' ⟨rfl,⟨nd,rfl⟩⟩;refine ⟨_,rfl,?_⟩)|(go_at_call 89;(with_reducible refine (spec_l6In.calls a0_1 0 99 true _ A4.out).mono ?_);rintro e w' ⟨rfl,⟨nd,rfl⟩⟩)|(go_at_call 60;(with_reducible refine (spec_TimeOk.calls a0_2 a0_3 false _ A6.out).mono ?_);rintro e w15 ⟨rfl,hb⟩;have n0_:=am (blk_below (g:=gb418) (o:=.cells #[.int .i64 a0_0,.int .i64 a0_1,.int .i64 a0_2,.int .i64 a0_3,.int .i64 a0_4] 38 (0,0)) (by (with_reducible repeat (first|refine blk_drewN ?_ _|refine blk_drew ?_|refine blk_alloc ?_ _));exact BK418.out) hb);have n1_:=am (below_step Q100 hb);clear BK418 HB;have BK418:=n0_;have HB:=n1_;clear n0_ n1_;(try clear hb);(try clear hb2);(try clear hk);(try clear hi)))
    go_ret
    exact ⟨Q17,Q100⟩
  ·replace c5:=Bool.eq_false_iff.mpr c5
   subst c5
   have H1 : (some false) = some r:=by rw [if_neg (show ¬ (false = true) by decide)] at H;exact H
   clear H
   have H:=H1
   clear H1
   obtain rfl:=Option.some.inj H
   go_enter Try.func59,Try.ntmps59
   go_wp2_with (first|((with_reducible refine gate_dst (N:=1) rfl ?_);refine box_event ?hg (N:=1) ?hd (cs:=#[.int .i64 a0_0,.int .i64 a0_1,.int .i64 a0_2,.int .i64 a0_3,.int .i64 a0_4]) (t:=38) ?hr ?_;(case hd=>rfl);(case hg=>rfl);(case hr=>first|(go_simp;done)|(go_simp;rfl));intro gb418 hg w16 hbox hb;have n0_:=am (below_step Q77 hb);have n1_:=am (hbox);have n2_:=am ((Q167 : w.heap.size ≤ gb418));have n3_:=n2_;clear HB;have HB:=n0_;have BK418:=n1_;have GW418:=n2_;have GE418:=n3_;clear n0_ n1_ n2_ n3_;clear hb hbox hg;obtain ⟨hcz17_0,hcz17_1,hcz17_2,hcz17_3,hcz17_4,hfz17_0,hfz17_1,hfz17_2,hfz17_3,hfz17_4⟩:=bx5_ BK418)|((with_reducible refine gate_callee (f:=89) rfl ?_);refine goesL_ (some 5) rfl rfl Try.func89 Q1 rfl #[.int .i64 a0_0,.int .i64 0,.int .i64 3] rfl Q79 ?_;(with_reducible refine (spec_l6In.calls a0_0 0 3 true _ A2.out).mono ?_);rintro e w' ⟨rfl,⟨nd,rfl⟩⟩;refine ⟨_,rfl,?_⟩)|(go_at_call 89;(with_reducible refine (spec_l6In.calls a0_1 0 99 false _ A4.out).mono ?_);rintro e w' ⟨rfl,⟨nd,rfl⟩⟩))
   go_ret
   exact ⟨Q17,Q100⟩
 ·replace c3:=Bool.eq_false_iff.mpr c3
  subst c3
  have H1 : (some false) = some r:=by rw [if_neg (show ¬ (false = true) by decide)] at H;exact H
  clear H
  have H:=H1
  clear H1
  obtain rfl:=Option.some.inj H
  go_enter Try.func59,Try.ntmps59
  go_wp2_with (first|((with_reducible refine gate_dst (N:=1) rfl ?_);refine box_event ?hg (N:=1) ?hd (cs:=#[.int .i64 a0_0,.int .i64 a0_1,.int .i64 a0_2,.int .i64 a0_3,.int .i64 a0_4]) (t:=38) ?hr ?_;(case hd=>rfl);(case hg=>rfl);(case hr=>first|(go_simp;done)|(go_simp;rfl));intro gb418 hg w18 hbox hb;have n0_:=am (below_step Q77 hb);have n1_:=am (hbox);have n2_:=am ((Q167 : w.heap.size ≤ gb418));have n3_:=n2_;clear HB;have HB:=n0_;have BK418:=n1_;have GW418:=n2_;have GE418:=n3_;clear n0_ n1_ n2_ n3_;clear hb hbox hg;obtain ⟨hcz19_0,hcz19_1,hcz19_2,hcz19_3,hcz19_4,hfz19_0,hfz19_1,hfz19_2,hfz19_3,hfz19_4⟩:=bx5_ BK418)|((with_reducible refine gate_callee (f:=89) rfl ?_);refine goesL_ (some 5) rfl rfl Try.func89 Q1 rfl #[.int .i64 a0_0,.int .i64 0,.int .i64 3] rfl Q79 ?_;(with_reducible refine (spec_l6In.calls a0_0 0 3 false _ A2.out).mono ?_);rintro e w' ⟨rfl,⟨nd,rfl⟩⟩;refine ⟨_,rfl,?_⟩))
  go_ret
  exact ⟨Q17,Q100⟩
def spec_RowsOk.l0 : Nat → List (S38) → Int → Option (Bool)
 | 0, _, _ => none
 | k + 1, x0, x3 => if x3 < (x0.length : Int) then (if 0 ≤ x3 then ((spec_l2Row.f ((rd_T38 x0 x3).f0) ((rd_T38 x0 x3).f1) ((rd_T38 x0 x3).f2.f0) ((rd_T38 x0 x3).f2.f1) ((rd_T38 x0 x3).f3)).bind fun t424 => (if t424 = true then (spec_RowsOk.l0 k x0 (wrap64 (x3 + 1))) else (some false))) else (none)) else (some true)
def spec_RowsOk.f (k : Nat) (l0 : List (S38)) : Option (Bool) := if (l0.length : Int) > 400 then (some false) else (spec_RowsOk.l0 k l0 0)
set_option maxHeartbeats 8000000 in
set_option maxRecDepth 100000 in
theorem spec_RowsOk.calls (k : Nat) (A0 : Option Addr) (c0 : Nat) (l0 : List (S38)) (r : Bool) (w : World) (hr0 : Kd.C k38 w A0 l0.length l0) (hc0 : l0.length ≤ c0) (h : spec_RowsOk.f k l0 = some r) :
  Calls Try.prog 20 #[.slice A0 l0.length c0] w fun e w'=>e = .returned (.bool r) ∧ Below w.heap.size w w':=by
 have hu38:=Try.underlying38
 have HR0:=Aside0.mk hr0
 have HC0:=Aside0.mk hc0
 clear hr0 hc0
 have HB:=am (Below.refl w.heap.size w)
 have H : (if (l0.length : Int) > 400 then (some false) else (spec_RowsOk.l0 k l0 0)) = some r:=h
 clear h
 by_cases c2 : (l0.length : Int) > 400
 ·rw [if_pos c2] at H
  have c2b0 : decide (400 < (l0.length : Int)) = true:=decide_eq_true c2
  have c2b1 : decide (400 < l0.length) = true:=decide_eq_true (by omega)
  clear c2
  obtain rfl:=Option.some.inj H
  go_enter Try.func20,Try.ntmps20
  go_wp2
  go_ret
  exact ⟨Q17,Q77⟩
 ·rw [if_neg c2] at H
  have c2b0 : decide (400 < (l0.length : Int)) = false:=decide_eq_false c2
  have c2b1 : decide (400 < l0.length) = false:=decide_eq_false (by omega)
  clear c2
  have H':=Aside0.mk H
  clear H
  go_enter Try.func20,Try.ntmps20
  go_wp2
  go_loopg [3] k (fun kq v3 w'=>∃ (x3_1 : Int),v3 = .int .i64 x3_1 ∧ Aside0 (spec_RowsOk.l0 kq l0 x3_1 = some r) ∧ Aside0 (kq ≤ k) ∧ Aside0 (Below w.heap.size w w'))
  case atStart=>exact ⟨(0),Q5,H',⟨Nat.le_refl _⟩,⟨Q77⟩⟩
  case round =>
   clear H'
   try clear c2
   try clear c2b0
   try clear c2b1
   try clear p2
   obtain ⟨x3_1,rfl,HA,HK1,HB⟩:=hrel
   cases gk with
   | zero=>exact absurd HA.out (by simp [spec_RowsOk.l0])
   | succ k1 =>
    have H:=HA.out
    clear HA
    simp only [spec_RowsOk.l0] at H
    by_cases c3 : x3_1 < (l0.length : Int)
    ·rw [if_pos c3] at H
     have c3b0 : decide (x3_1 < (l0.length : Int)) = true:=decide_eq_true c3
     clear c3
     have c4 : 0 ≤ x3_1:=nn_ H
     rw [if_pos c4] at H
     have c4b0 : decide (0 ≤ x3_1) = true:=decide_eq_true c4
     clear c4
     replace H:=Option.bind_eq_some_iff.mp H
     obtain ⟨t424,A50,H⟩:=H
     replace H : (if t424 = true then (spec_RowsOk.l0 k1 l0 (wrap64 (x3_1 + 1))) else (some false)) = some r:=H
     have A5:=Aside0.mk A50
     clear A50
     by_cases c6 : t424 = true
     ·subst c6
      have H1 : (spec_RowsOk.l0 k1 l0 (wrap64 (x3_1 + 1))) = some r:=by rw [if_pos rfl] at H;exact H
      clear H
      have H:=H1
      clear H1
      have H':=Aside0.mk H
      clear H
      have p423 : 0 ≤ (x3_1 : Int):=of_decide_eq_true Q6
      have q423 : x3_1 < (l0.length : Int):=of_decide_eq_true Q6
      obtain ⟨ad423,e423,hx423_0,hx423_1,hx423_2,hx423_3,hx423_4⟩:=at_T38 HR0.out x3_1 p423 q423
      cases e423
      replace hx423_0:=cb_ HB hx423_0
      replace hx423_1:=cb_ HB hx423_1
      replace hx423_2:=cb_ HB hx423_2
      replace hx423_3:=cb_ HB hx423_3
      replace hx423_4:=cb_ HB hx423_4
      replace p423:=eq_true p423
      replace q423:=eq_true q423
      go_wp2_with (first|((with_reducible refine gate_callee (f:=59) rfl ?_);refine goesL_ (some 17) rfl rfl Try.func59 Q1 rfl #[.agg #[.int .i64 ((rd_T38 l0 x3_1).f0),.int .i64 ((rd_T38 l0 x3_1).f1),.int .i64 ((rd_T38 l0 x3_1).f2.f0),.int .i64 ((rd_T38 l0 x3_1).f2.f1),.int .i64 ((rd_T38 l0 x3_1).f3)]] rfl Q79 ?_;(with_reducible refine (spec_l2Row.calls ((rd_T38 l0 x3_1).f0) ((rd_T38 l0 x3_1).f1) ((rd_T38 l0 x3_1).f2.f0) ((rd_T38 l0 x3_1).f2.f1) ((rd_T38 l0 x3_1).f3) true _ A5.out).mono ?_);rintro e w7 ⟨rfl,hb⟩;refine ⟨_,rfl,?_⟩;have n0_:=am (below_step Q77 hb);clear HB;have HB:=n0_;clear n0_;(try clear hb);(try clear hb2);(try clear hk);(try clear hi)))
      go_roundg k1
      case measure=>have:=HK1.out;omega
      case rel=>exact ⟨(wrap64 (x3_1 + 1)),Q5,H',⟨Q2⟩,⟨Q77⟩⟩
     ·replace c6:=Bool.eq_false_iff.mpr c6
      subst c6
      have H1 : (some false) = some r:=by rw [if_neg (show ¬ (false = true) by decide)] at H;exact H
      clear H
      have H:=H1
      clear H1
      obtain rfl:=Option.some.inj H
      have p423 : 0 ≤ (x3_1 : Int):=of_decide_eq_true Q6
      have q423 : x3_1 < (l0.length : Int):=of_decide_eq_true Q6
      obtain ⟨ad423,e423,hx423_0,hx423_1,hx423_2,hx423_3,hx423_4⟩:=at_T38 HR0.out x3_1 p423 q423
      cases e423
      replace hx423_0:=cb_ HB hx423_0
      replace hx423_1:=cb_ HB hx423_1
      replace hx423_2:=cb_ HB hx423_2
      replace hx423_3:=cb_ HB hx423_3
      replace hx423_4:=cb_ HB hx423_4
      replace p423:=eq_true p423
      replace q423:=eq_true q423
      go_wp2_with (first|((with_reducible refine gate_callee (f:=59) rfl ?_);refine goesL_ (some 17) rfl rfl Try.func59 Q1 rfl #[.agg #[.int .i64 ((rd_T38 l0 x3_1).f0),.int .i64 ((rd_T38 l0 x3_1).f1),.int .i64 ((rd_T38 l0 x3_1).f2.f0),.int .i64 ((rd_T38 l0 x3_1).f2.f1),.int .i64 ((rd_T38 l0 x3_1).f3)]] rfl Q79 ?_;(with_reducible refine (spec_l2Row.calls ((rd_T38 l0 x3_1).f0) ((rd_T38 l0 x3_1).f1) ((rd_T38 l0 x3_1).f2.f0) ((rd_T38 l0 x3_1).f2.f1) ((rd_T38 l0 x3_1).f3) false _ A5.out).mono ?_);rintro e w8 ⟨rfl,hb⟩;refine ⟨_,rfl,?_⟩;have n0_:=am (below_step Q77 hb);clear HB;have HB:=n0_;clear n0_;(try clear hb);(try clear hb2);(try clear hk);(try clear hi)))
      go_ret
      exact ⟨Q17,Q77⟩
    ·rw [if_neg c3] at H
     have c3b0 : decide (x3_1 < (l0.length : Int)) = false:=decide_eq_false c3
     clear c3
     obtain rfl:=Option.some.inj H
     go_wp2
     go_ret
     exact ⟨Q17,Q77⟩
def spec_FrontOk.l0 : Nat → List (S36) → Int → Option (Bool)
 | 0, _, _ => none
 | k + 1, x0, x3 => if x3 < (x0.length : Int) then (if 0 ≤ x3 then ((spec_TimeOk.f ((rd_T36 x0 x3).f0) ((rd_T36 x0 x3).f1)).bind fun t426 => (if t426 = true then (if x3 > 0 then (if 0 ≤ (wrap64 (x3 - 1)) then (if (wrap64 (x3 - 1)) < (x0.length : Int) then (if ((rd_T36 x0 (wrap64 (x3 - 1))).f0) ≥ ((rd_T36 x0 x3).f0) then (some false) else (if ((rd_T36 x0 (wrap64 (x3 - 1))).f1) ≤ ((rd_T36 x0 x3).f1) then (some false) else (spec_FrontOk.l0 k x0 (wrap64 (x3 + 1))))) else (none)) else (none)) else (spec_FrontOk.l0 k x0 (wrap64 (x3 + 1)))) else (some false))) else (none)) else (some true)
def spec_FrontOk.f (k : Nat) (l0 : List (S36)) : Option (Bool) := spec_FrontOk.l0 k l0 0
def spec_FrontOk.T4 : Bool × List (List Nat × List Nat) := (true, [([], []), ([], []), ([0, 1], [0, 1]), ([2], [2]), ([3], [3]), ([4], [4]), ([5, 4], [5]), ([6], [6]), ([7, 6], [6, 7]), ([8, 6, 6], [6, 8]), ([9], [9]), ([9], [9]), ([11, 9], [9, 11]), ([10, 12, 9], [9, 10, 12]), ([13, 9], [9, 13]), ([14, 9], [9, 14]), ([9], [9]), ([9], [9]), ([16, 17, 9], [9, 16, 17]), ([18, 9], [9, 18]), ([19, 9], [9, 19]), ([15, 20, 9], [9, 15, 20]), ([21, 9, 9], [9, 21]), ([22], [22]), ([22], [22]), ([24, 22], [22, 24]), ([23, 25, 22], [22, 23, 25]), ([26, 22], [22, 26]), ([27, 22], [22, 27]), ([22], [22]), ([22], [22]), ([29, 30, 22], [22, 29, 30]), ([31, 22], [22, 31]), ([32, 22], [22, 32]), ([28, 33, 22], [22, 28, 33]), ([22, 34, 9], [9, 22, 34]), ([9, 35, 6], [6, 9, 35]), ([6, 36], [6, 36])])
def spec_FrontOk.B4 : List Nat := [0, 0, 3, 7, 15, 31, 63, 127, 255, 511, 1023, 1023, 3071, 8191, 16383, 32767, 1023, 1023, 197631, 459775, 984063, 2097151, 4194303, 8388607, 8388607, 25165823, 67108863, 134217727, 268435455, 8388607, 8388607, 1619001343, 3766484991, 8061452287, 17179869183, 34359738367, 68719476735, 137438953471]
theorem spec_FrontOk.tab4 : rtab .any (opsOf Try.f21 4) = spec_FrontOk.T4:=by kernel_rfl
theorem spec_FrontOk.bits4 : waitsOk spec_FrontOk.T4.2 spec_FrontOk.B4 = true:=by kernel_rfl
set_option maxHeartbeats 8000000 in
set_option maxRecDepth 100000 in
theorem spec_FrontOk.calls (k : Nat) (A0 : Option Addr) (c0 : Nat) (l0 : List (S36)) (r : Bool) (w : World) (hr0 : Kd.C k36 w A0 l0.length l0) (hc0 : l0.length ≤ c0) (h : spec_FrontOk.f k l0 = some r) :
  Calls Try.prog 21 #[.slice A0 l0.length c0] w fun e w'=>e = .returned (.bool r) ∧ Below w.heap.size w w':=by
 have hu36:=Try.underlying36
 have HR0:=Aside0.mk hr0
 have HC0:=Aside0.mk hc0
 clear hr0 hc0
 have HB:=am (Below.refl w.heap.size w)
 have H : (spec_FrontOk.l0 k l0 0) = some r:=h
 clear h
 have H':=Aside0.mk H
 clear H
 go_enter Try.func21,Try.ntmps21
 go_wp2
 go_loopg [3] k (fun kq v3 w'=>∃ (x3_1 : Int),v3 = .int .i64 x3_1 ∧ Aside0 (spec_FrontOk.l0 kq l0 x3_1 = some r) ∧ Aside0 (kq ≤ k) ∧ Aside0 (Below w.heap.size w w'))
 case atStart=>exact ⟨(0),Q5,H',⟨Nat.le_refl _⟩,⟨Q77⟩⟩
 case round =>
  clear H'
  obtain ⟨x3_1,rfl,HA,HK1,HB⟩:=hrel
  cases gk with
  | zero=>exact absurd HA.out (by simp [spec_FrontOk.l0])
  | succ k1 =>
   have H:=HA.out
   clear HA
   simp only [spec_FrontOk.l0] at H
   by_cases c2 : x3_1 < (l0.length : Int)
   ·rw [if_pos c2] at H
    have c2b0 : decide (x3_1 < (l0.length : Int)) = true:=decide_eq_true c2
    clear c2
    have c3 : 0 ≤ x3_1:=nn_ H
    rw [if_pos c3] at H
    have c3b0 : decide (0 ≤ x3_1) = true:=decide_eq_true c3
    clear c3
    replace H:=Option.bind_eq_some_iff.mp H
    obtain ⟨t426,A40,H⟩:=H
    replace H : (if t426 = true then (if x3_1 > 0 then (if 0 ≤ (wrap64 (x3_1 - 1)) then (if (wrap64 (x3_1 - 1)) < (l0.length : Int) then (if ((rd_T36 l0 (wrap64 (x3_1 - 1))).f0) ≥ ((rd_T36 l0 x3_1).f0) then (some false) else (if ((rd_T36 l0 (wrap64 (x3_1 - 1))).f1) ≤ ((rd_T36 l0 x3_1).f1) then (some false) else (spec_FrontOk.l0 k1 l0 (wrap64 (x3_1 + 1))))) else (none)) else (none)) else (spec_FrontOk.l0 k1 l0 (wrap64 (x3_1 + 1)))) else (some false)) = some r:=H
    have A4:=Aside0.mk A40
    clear A40
    by_cases c5 : t426 = true
    ·subst c5
     have H1 : (if x3_1 > 0 then (if 0 ≤ (wrap64 (x3_1 - 1)) then (if (wrap64 (x3_1 - 1)) < (l0.length : Int) then (if ((rd_T36 l0 (wrap64 (x3_1 - 1))).f0) ≥ ((rd_T36 l0 x3_1).f0) then (some false) else (if ((rd_T36 l0 (wrap64 (x3_1 - 1))).f1) ≤ ((rd_T36 l0 x3_1).f1) then (some false) else (spec_FrontOk.l0 k1 l0 (wrap64 (x3_1 + 1))))) else (none)) else (none)) else (spec_FrontOk.l0 k1 l0 (wrap64 (x3_1 + 1)))) = some r:=by rw [if_pos rfl] at H;exact H
     clear H
     have H:=H1
     clear H1
     by_cases c6 : x3_1 > 0
     ·rw [if_pos c6] at H
      have c6b0 : decide (0 < x3_1) = true:=decide_eq_true c6
      clear c6
      obtain ⟨ji7,hji7⟩ : ∃ j_ : Int,(wrap64 (x3_1 - 1)) = j_:=⟨_,rfl⟩
      replace H : (if 0 ≤ (ji7) then (if (ji7) < (l0.length : Int) then (if ((rd_T36 l0 (ji7)).f0) ≥ ((rd_T36 l0 x3_1).f0) then (some false) else (if ((rd_T36 l0 (ji7)).f1) ≤ ((rd_T36 l0 x3_1).f1) then (some false) else (spec_FrontOk.l0 k1 l0 (wrap64 (x3_1 + 1))))) else (none)) else (none)) = some r:=Q11
      (try rw [hji7] at A4)
      have hji7w : (IntKind.i64.wrap (x3_1 - 1)) = ji7:=(i64_w _).trans hji7
      have c8 : 0 ≤ (ji7):=nn_ H
      rw [if_pos c8] at H
      have c8b0 : decide (0 ≤ (ji7)) = true:=decide_eq_true c8
      clear c8
      have c9 : (ji7) < (l0.length : Int):=nn_ H
      rw [if_pos c9] at H
      have c9b0 : decide ((ji7) < (l0.length : Int)) = true:=decide_eq_true c9
      clear c9
      by_cases c10 : ((rd_T36 l0 (ji7)).f0) ≥ ((rd_T36 l0 x3_1).f0)
      ·rw [if_pos c10] at H
       have c10b0 : decide (((rd_T36 l0 x3_1).f0) ≤ ((rd_T36 l0 (ji7)).f0)) = true:=decide_eq_true c10
       clear c10
       obtain rfl:=Option.some.inj H
       try go_wp2
       have n0_:=am (below_drew1 HB.out)
       clear HB
       have HB:=n0_
       clear n0_
       have p425 : 0 ≤ (x3_1 : Int):=of_decide_eq_true Q6
       have q425 : x3_1 < (l0.length : Int):=of_decide_eq_true Q6
       obtain ⟨ad425,e425,hx425_0,hx425_1⟩:=at_T36 HR0.out x3_1 p425 q425
       have hw425_1:=hx425_1
       have hw425_0:=hx425_0
       cases e425
       replace hx425_0:=cb_ HB hx425_0
       replace hx425_1:=cb_ HB hx425_1
       replace p425:=eq_true p425
       replace q425:=eq_true q425
       have p427 : 0 ≤ ((ji7) : Int):=of_decide_eq_true Q6
       have q427 : (ji7) < (l0.length : Int):=of_decide_eq_true Q6
       obtain ⟨ad427,e427,hx427_0,hx427_1⟩:=at_T36 HR0.out (ji7) p427 q427
       have hw427_1:=hx427_1
       have hw427_0:=hx427_0
       obtain rfl : ad425 = ad427:=(by injection e427)
       replace hx427_0:=cb_ HB hx427_0
       replace hx427_1:=cb_ HB hx427_1
       replace p427:=eq_true p427
       replace q427:=eq_true q427
       have p428 : 0 ≤ (x3_1 : Int):=of_decide_eq_true Q6
       have q428 : x3_1 < (l0.length : Int):=of_decide_eq_true Q6
       obtain ⟨ad428,e428,hx428_0,hx428_1⟩:=at_T36 HR0.out x3_1 p428 q428
       have hw428_1:=hx428_1
       have hw428_0:=hx428_0
       obtain rfl : ad425 = ad428:=(by injection e428)
       replace hx428_0:=cb_ HB hx428_0
       replace hx428_1:=cb_ HB hx428_1
       replace p428:=eq_true p428
       replace q428:=eq_true q428
       refine start_ (n:=38) (S:=fun w'=>w'.cell? (ad425.add ((x3_1).toNat * 2)) = some (.int .i64 ((rd_T36 l0 x3_1).f0)) ∧ w'.cell? ⟨(ad425.add ((x3_1).toNat * 2)).block,(ad425.add ((x3_1).toNat * 2)).off + 1,none⟩ = some (.int .i64 ((rd_T36 l0 x3_1).f1)) ∧ w'.cell? (ad425.add (((ji7)).toNat * 2)) = some (.int .i64 ((rd_T36 l0 (ji7)).f0)) ∧ w'.cell? ⟨(ad425.add (((ji7)).toNat * 2)).block,(ad425.add (((ji7)).toNat * 2)).off + 1,none⟩ = some (.int .i64 ((rd_T36 l0 (ji7)).f1)) ∧ w'.cell? (ad425.add ((x3_1).toNat * 2)) = some (.int .i64 ((rd_T36 l0 x3_1).f0)) ∧ w'.cell? ⟨(ad425.add ((x3_1).toNat * 2)).block,(ad425.add ((x3_1).toNat * 2)).off + 1,none⟩ = some (.int .i64 ((rd_T36 l0 x3_1).f1))) (ds:=[]) b38_0 Q1 rfl rfl ⟨(cb_ HB hw425_0:),(cb_ HB hw425_1:),(cb_ HB hw427_0:),(cb_ HB hw427_1:),(cb_ HB hw428_0:),(cb_ HB hw428_1:)⟩ (fun hHeld=>?_);refine with_tabW spec_FrontOk.tab4 spec_FrontOk.bits4 (fun HT_ HW_=>?_)
       generalize wr.drew = w11 at HB hx425_0 hx425_1 hx427_0 hx427_1 hx428_0 hx428_1 hHeld ⊢
       refine pU_ 0 10 b38_1 ?_
       refine pU_ 1 11 b38_2 ?_
       refine pU_ 2 12 b38_3 ?_
       refine tU_ 3 13 b38_4 hHeld ?_
       refine one_ (i:=4) (N:=some 14) b38_5 rfl rfl (one_of HT_.out Q1) Q0 (fun K hK=>?_)
       refine goes_ Try.func60 Q1 rfl #[.agg #[.int .i64 ((rd_T36 l0 x3_1).f0),.int .i64 ((rd_T36 l0 x3_1).f1)]] (by rfl) rfl rfl Q79 ?_
       with_reducible refine (spec_TimeOk.calls ((rd_T36 l0 x3_1).f0) ((rd_T36 l0 x3_1).f1) true _ A4.out).mono ?_
       rintro e w12 ⟨rfl,hb⟩
       refine ⟨_,rfl,?_⟩
       have n0_:=am (below_step Q77 hb)
       clear HB
       have HB:=n0_
       clear n0_
       (try clear hb)
       (try clear hb2)
       (try clear hk)
       (try clear hi)
       refine hK.out _ _ ⟨(cb_ HB hw425_0:),(cb_ HB hw425_1:),(cb_ HB hw427_0:),(cb_ HB hw427_1:),(cb_ HB hw428_0:),(cb_ HB hw428_1:)⟩ (fun hHeld=>?_)
       clear hK K
       refine norm_ (a':=?_) ?_ ?_
       rotate_left
       ·show Act.put _ (some 14) _ = _
        simp only [Act.put,sA_,sZ_,sS_,i64_w,i32_w]
        rfl
       refine pU_ 5 15 b38_6 ?_
       refine pU_ 6 16 b38_7 ?_
       refine pU_ 7 17 b38_8 ?_
       refine pU_ 8 18 b38_9 ?_
       refine pU_ 9 19 b38_10 ?_
       refine pU_ 10 20 b38_11 ?_
       refine pU_ 11 21 b38_12 ?_
       refine pU_ 12 22 b38_13 ?_
       refine pU_ 13 23 b38_14 ?_
       refine pU_ 14 24 b38_15 ?_
       refine pU_ 16 26 c107 ?_
       refine pU_ 17 27 c108 ?_
       refine pU_ 18 28 c109 ?_
       refine pU_ 19 29 c110 ?_
       refine tU_ 15 25 b38_20 hHeld ?_
       refine tU_ 20 30 b38_21 hHeld ?_
       refine pU_ 21 31 b38_22 ?_
       refine pU_ 22 32 b38_23 ?_
       refine pV_ 23 33 b38_24 ?_
       refine pV_ 24 34 b38_25 ?_
       refine pV_ 25 35 b38_26 ?_
       refine pV_ 26 36 b38_27 ?_
       refine pV_ 27 37 b38_28 ?_
       refine pV_ 28 38 b38_29 ?_
       refine pV_ 29 39 b38_30 ?_
       refine pV_ 30 40 b38_31 ?_
       refine pV_ 31 41 b38_32 ?_
       refine pV_ 32 42 b38_33 ?_
       refine pV_ 33 43 b38_34 ?_
       refine pV_ 34 44 b38_35 ?_
       refine pU_ 35 45 b38_36 ?_
       refine pU_ 36 46 b38_37 ?_
       refine pU_ 37 47 b38_38 ?_
       refine done_ (done_of HT_.out Q1) ?_
       try go_wp2
       go_ret
       exact ⟨by first|rfl|(simp [errW_none,errW_some] <;> rfl)|(simp only [← hji7];first|rfl|(simp [errW_none,errW_some] <;> rfl))|(simp [*,errW_none,errW_some] <;> rfl),Q77⟩
      ·rw [if_neg c10] at H
       have c10b0 : decide (((rd_T36 l0 x3_1).f0) ≤ ((rd_T36 l0 (ji7)).f0)) = false:=decide_eq_false c10
       clear c10
       by_cases c13 : ((rd_T36 l0 (ji7)).f1) ≤ ((rd_T36 l0 x3_1).f1)
       ·rw [if_pos c13] at H
        have c13b0 : decide (((rd_T36 l0 (ji7)).f1) ≤ ((rd_T36 l0 x3_1).f1)) = true:=decide_eq_true c13
        clear c13
        obtain rfl:=Option.some.inj H
        try go_wp2
        have n0_:=am (below_drew1 HB.out)
        clear HB
        have HB:=n0_
        clear n0_
        have p425 : 0 ≤ (x3_1 : Int):=of_decide_eq_true Q6
        have q425 : x3_1 < (l0.length : Int):=of_decide_eq_true Q6
        obtain ⟨ad425,e425,hx425_0,hx425_1⟩:=at_T36 HR0.out x3_1 p425 q425
        have hw425_1:=hx425_1
        have hw425_0:=hx425_0
        cases e425
        replace hx425_0:=cb_ HB hx425_0
        replace hx425_1:=cb_ HB hx425_1
        replace p425:=eq_true p425
        replace q425:=eq_true q425
        have p427 : 0 ≤ ((ji7) : Int):=of_decide_eq_true Q6
        have q427 : (ji7) < (l0.length : Int):=of_decide_eq_true Q6
        obtain ⟨ad427,e427,hx427_0,hx427_1⟩:=at_T36 HR0.out (ji7) p427 q427
        have hw427_1:=hx427_1
        have hw427_0:=hx427_0
        obtain rfl : ad425 = ad427:=(by injection e427)
        replace hx427_0:=cb_ HB hx427_0
        replace hx427_1:=cb_ HB hx427_1
        replace p427:=eq_true p427
        replace q427:=eq_true q427
        have p428 : 0 ≤ (x3_1 : Int):=of_decide_eq_true Q6
        have q428 : x3_1 < (l0.length : Int):=of_decide_eq_true Q6
        obtain ⟨ad428,e428,hx428_0,hx428_1⟩:=at_T36 HR0.out x3_1 p428 q428
        have hw428_1:=hx428_1
        have hw428_0:=hx428_0
        obtain rfl : ad425 = ad428:=(by injection e428)
        replace hx428_0:=cb_ HB hx428_0
        replace hx428_1:=cb_ HB hx428_1
        replace p428:=eq_true p428
        replace q428:=eq_true q428
        have p429 : 0 ≤ ((ji7) : Int):=of_decide_eq_true Q6
        have q429 : (ji7) < (l0.length : Int):=of_decide_eq_true Q6
        obtain ⟨ad429,e429,hx429_0,hx429_1⟩:=at_T36 HR0.out (ji7) p429 q429
        have hw429_1:=hx429_1
        have hw429_0:=hx429_0
        obtain rfl : ad425 = ad429:=(by injection e429)
        replace hx429_0:=cb_ HB hx429_0
        replace hx429_1:=cb_ HB hx429_1
        replace p429:=eq_true p429
        replace q429:=eq_true q429
        have p430 : 0 ≤ (x3_1 : Int):=of_decide_eq_true Q6
        have q430 : x3_1 < (l0.length : Int):=of_decide_eq_true Q6
        obtain ⟨ad430,e430,hx430_0,hx430_1⟩:=at_T36 HR0.out x3_1 p430 q430
        have hw430_1:=hx430_1
        have hw430_0:=hx430_0
        obtain rfl : ad425 = ad430:=(by injection e430)
        replace hx430_0:=cb_ HB hx430_0
        replace hx430_1:=cb_ HB hx430_1
        replace p430:=eq_true p430
        replace q430:=eq_true q430
        refine start_ (n:=38) (S:=fun w'=>w'.cell? (ad425.add ((x3_1).toNat * 2)) = some (.int .i64 ((rd_T36 l0 x3_1).f0)) ∧ w'.cell? ⟨(ad425.add ((x3_1).toNat * 2)).block,(ad425.add ((x3_1).toNat * 2)).off + 1,none⟩ = some (.int .i64 ((rd_T36 l0 x3_1).f1)) ∧ w'.cell? (ad425.add (((ji7)).toNat * 2)) = some (.int .i64 ((rd_T36 l0 (ji7)).f0)) ∧ w'.cell? ⟨(ad425.add (((ji7)).toNat * 2)).block,(ad425.add (((ji7)).toNat * 2)).off + 1,none⟩ = some (.int .i64 ((rd_T36 l0 (ji7)).f1)) ∧ w'.cell? (ad425.add ((x3_1).toNat * 2)) = some (.int .i64 ((rd_T36 l0 x3_1).f0)) ∧ w'.cell? ⟨(ad425.add ((x3_1).toNat * 2)).block,(ad425.add ((x3_1).toNat * 2)).off + 1,none⟩ = some (.int .i64 ((rd_T36 l0 x3_1).f1)) ∧ w'.cell? (ad425.add (((ji7)).toNat * 2)) = some (.int .i64 ((rd_T36 l0 (ji7)).f0)) ∧ w'.cell? ⟨(ad425.add (((ji7)).toNat * 2)).block,(ad425.add (((ji7)).toNat * 2)).off + 1,none⟩ = some (.int .i64 ((rd_T36 l0 (ji7)).f1)) ∧ w'.cell? (ad425.add ((x3_1).toNat * 2)) = some (.int .i64 ((rd_T36 l0 x3_1).f0)) ∧ w'.cell? ⟨(ad425.add ((x3_1).toNat * 2)).block,(ad425.add ((x3_1).toNat * 2)).off + 1,none⟩ = some (.int .i64 ((rd_T36 l0 x3_1).f1))) (ds:=[]) b38_0 Q1 rfl rfl ⟨(cb_ HB hw425_0:),(cb_ HB hw425_1:),(cb_ HB hw427_0:),(cb_ HB hw427_1:),(cb_ HB hw428_0:),(cb_ HB hw428_1:),(cb_ HB hw429_0:),(cb_ HB hw429_1:),(cb_ HB hw430_0:),(cb_ HB hw430_1:)⟩ (fun hHeld=>?_);refine with_tabW spec_FrontOk.tab4 spec_FrontOk.bits4 (fun HT_ HW_=>?_)
        generalize wr.drew = w14 at HB hx425_0 hx425_1 hx427_0 hx427_1 hx428_0 hx428_1 hx429_0 hx429_1 hx430_0 hx430_1 hHeld ⊢
        refine pU_ 0 10 b38_1 ?_
        refine pU_ 1 11 b38_2 ?_
        refine pU_ 2 12 b38_3 ?_
        refine tU_ 3 13 b38_4 hHeld ?_
        refine one_ (i:=4) (N:=some 14) b38_5 rfl rfl (one_of HT_.out Q1) Q0 (fun K hK=>?_)
        refine goes_ Try.func60 Q1 rfl #[.agg #[.int .i64 ((rd_T36 l0 x3_1).f0),.int .i64 ((rd_T36 l0 x3_1).f1)]] (by rfl) rfl rfl Q79 ?_
        with_reducible refine (spec_TimeOk.calls ((rd_T36 l0 x3_1).f0) ((rd_T36 l0 x3_1).f1) true _ A4.out).mono ?_
        rintro e w15 ⟨rfl,hb⟩
        refine ⟨_,rfl,?_⟩
        have n0_:=am (below_step Q77 hb)
        clear HB
        have HB:=n0_
        clear n0_
        (try clear hb)
        (try clear hb2)
        (try clear hk)
        (try clear hi)
        refine hK.out _ _ ⟨(cb_ HB hw425_0:),(cb_ HB hw425_1:),(cb_ HB hw427_0:),(cb_ HB hw427_1:),(cb_ HB hw428_0:),(cb_ HB hw428_1:),(cb_ HB hw429_0:),(cb_ HB hw429_1:),(cb_ HB hw430_0:),(cb_ HB hw430_1:)⟩ (fun hHeld=>?_)
        clear hK K
        refine norm_ (a':=?_) ?_ ?_
        rotate_left
        ·show Act.put _ (some 14) _ = _
         simp only [Act.put,sA_,sZ_,sS_,i64_w,i32_w]
         rfl
        refine pU_ 5 15 b38_6 ?_
        refine pU_ 6 16 b38_7 ?_
        refine pU_ 7 17 b38_8 ?_
        refine pU_ 8 18 b38_9 ?_
        refine pU_ 9 19 b38_10 ?_
        refine pU_ 10 20 b38_11 ?_
        refine pU_ 11 21 b38_12 ?_
        refine pU_ 12 22 b38_13 ?_
        refine pU_ 13 23 b38_14 ?_
        refine pU_ 14 24 b38_15 ?_
        refine pU_ 16 26 c107 ?_
        refine pU_ 17 27 c108 ?_
        refine pU_ 18 28 c109 ?_
        refine pU_ 19 29 c110 ?_
        refine tU_ 15 25 b38_20 hHeld ?_
        refine tU_ 20 30 b38_21 hHeld ?_
        refine pU_ 21 31 b38_22 ?_
        refine pU_ 22 32 b38_23 ?_
        refine pU_ 23 33 b38_24 ?_
        refine pU_ 24 34 b38_25 ?_
        refine pU_ 25 35 b38_26 ?_
        refine pU_ 26 36 b38_27 ?_
        refine pU_ 27 37 b38_28 ?_
        refine pU_ 29 39 c130 ?_
        refine pU_ 30 40 c131 ?_
        refine pU_ 31 41 c132 ?_
        refine pU_ 32 42 c133 ?_
        refine tU_ 28 38 b38_33 hHeld ?_
        refine tU_ 33 43 b38_34 hHeld ?_
        refine pU_ 34 44 b38_35 ?_
        refine pU_ 35 45 b38_36 ?_
        refine pU_ 36 46 b38_37 ?_
        refine pU_ 37 47 b38_38 ?_
        refine done_ (done_of HT_.out Q1) ?_
        try go_wp2
        go_ret
        exact ⟨by first|rfl|(simp [errW_none,errW_some] <;> rfl)|(simp only [← hji7];first|rfl|(simp [errW_none,errW_some] <;> rfl))|(simp [*,errW_none,errW_some] <;> rfl),Q77⟩
       ·rw [if_neg c13] at H
        have c13b0 : decide (((rd_T36 l0 (ji7)).f1) ≤ ((rd_T36 l0 x3_1).f1)) = false:=decide_eq_false c13
        clear c13
        have H':=Aside0.mk H
        clear H
        try go_wp2
        have n0_:=am (below_drew1 HB.out)
        clear HB
        have HB:=n0_
        clear n0_
        have p425 : 0 ≤ (x3_1 : Int):=of_decide_eq_true Q6
        have q425 : x3_1 < (l0.length : Int):=of_decide_eq_true Q6
        obtain ⟨ad425,e425,hx425_0,hx425_1⟩:=at_T36 HR0.out x3_1 p425 q425
        have hw425_1:=hx425_1
        have hw425_0:=hx425_0
        cases e425
        replace hx425_0:=cb_ HB hx425_0
        replace hx425_1:=cb_ HB hx425_1
        replace p425:=eq_true p425
        replace q425:=eq_true q425
        have p427 : 0 ≤ ((ji7) : Int):=of_decide_eq_true Q6
        have q427 : (ji7) < (l0.length : Int):=of_decide_eq_true Q6
        obtain ⟨ad427,e427,hx427_0,hx427_1⟩:=at_T36 HR0.out (ji7) p427 q427
        have hw427_1:=hx427_1
        have hw427_0:=hx427_0
        obtain rfl : ad425 = ad427:=(by injection e427)
        replace hx427_0:=cb_ HB hx427_0
        replace hx427_1:=cb_ HB hx427_1
        replace p427:=eq_true p427
        replace q427:=eq_true q427
        have p428 : 0 ≤ (x3_1 : Int):=of_decide_eq_true Q6
        have q428 : x3_1 < (l0.length : Int):=of_decide_eq_true Q6
        obtain ⟨ad428,e428,hx428_0,hx428_1⟩:=at_T36 HR0.out x3_1 p428 q428
        have hw428_1:=hx428_1
        have hw428_0:=hx428_0
        obtain rfl : ad425 = ad428:=(by injection e428)
        replace hx428_0:=cb_ HB hx428_0
        replace hx428_1:=cb_ HB hx428_1
        replace p428:=eq_true p428
        replace q428:=eq_true q428
        have p429 : 0 ≤ ((ji7) : Int):=of_decide_eq_true Q6
        have q429 : (ji7) < (l0.length : Int):=of_decide_eq_true Q6
        obtain ⟨ad429,e429,hx429_0,hx429_1⟩:=at_T36 HR0.out (ji7) p429 q429
        have hw429_1:=hx429_1
        have hw429_0:=hx429_0
        obtain rfl : ad425 = ad429:=(by injection e429)
        replace hx429_0:=cb_ HB hx429_0
        replace hx429_1:=cb_ HB hx429_1
        replace p429:=eq_true p429
        replace q429:=eq_true q429
        have p430 : 0 ≤ (x3_1 : Int):=of_decide_eq_true Q6
        have q430 : x3_1 < (l0.length : Int):=of_decide_eq_true Q6
        obtain ⟨ad430,e430,hx430_0,hx430_1⟩:=at_T36 HR0.out x3_1 p430 q430
        have hw430_1:=hx430_1
        have hw430_0:=hx430_0
        obtain rfl : ad425 = ad430:=(by injection e430)
        replace hx430_0:=cb_ HB hx430_0
        replace hx430_1:=cb_ HB hx430_1
        replace p430:=eq_true p430
        replace q430:=eq_true q430
        refine start_ (n:=38) (S:=fun w'=>w'.cell? (ad425.add ((x3_1).toNat * 2)) = some (.int .i64 ((rd_T36 l0 x3_1).f0)) ∧ w'.cell? ⟨(ad425.add ((x3_1).toNat * 2)).block,(ad425.add ((x3_1).toNat * 2)).off + 1,none⟩ = some (.int .i64 ((rd_T36 l0 x3_1).f1)) ∧ w'.cell? (ad425.add (((ji7)).toNat * 2)) = some (.int .i64 ((rd_T36 l0 (ji7)).f0)) ∧ w'.cell? ⟨(ad425.add (((ji7)).toNat * 2)).block,(ad425.add (((ji7)).toNat * 2)).off + 1,none⟩ = some (.int .i64 ((rd_T36 l0 (ji7)).f1)) ∧ w'.cell? (ad425.add ((x3_1).toNat * 2)) = some (.int .i64 ((rd_T36 l0 x3_1).f0)) ∧ w'.cell? ⟨(ad425.add ((x3_1).toNat * 2)).block,(ad425.add ((x3_1).toNat * 2)).off + 1,none⟩ = some (.int .i64 ((rd_T36 l0 x3_1).f1)) ∧ w'.cell? (ad425.add (((ji7)).toNat * 2)) = some (.int .i64 ((rd_T36 l0 (ji7)).f0)) ∧ w'.cell? ⟨(ad425.add (((ji7)).toNat * 2)).block,(ad425.add (((ji7)).toNat * 2)).off + 1,none⟩ = some (.int .i64 ((rd_T36 l0 (ji7)).f1)) ∧ w'.cell? (ad425.add ((x3_1).toNat * 2)) = some (.int .i64 ((rd_T36 l0 x3_1).f0)) ∧ w'.cell? ⟨(ad425.add ((x3_1).toNat * 2)).block,(ad425.add ((x3_1).toNat * 2)).off + 1,none⟩ = some (.int .i64 ((rd_T36 l0 x3_1).f1))) (ds:=[]) b38_0 Q1 rfl rfl ⟨(cb_ HB hw425_0:),(cb_ HB hw425_1:),(cb_ HB hw427_0:),(cb_ HB hw427_1:),(cb_ HB hw428_0:),(cb_ HB hw428_1:),(cb_ HB hw429_0:),(cb_ HB hw429_1:),(cb_ HB hw430_0:),(cb_ HB hw430_1:)⟩ (fun hHeld=>?_);refine with_tabW spec_FrontOk.tab4 spec_FrontOk.bits4 (fun HT_ HW_=>?_)
        generalize wr.drew = w16 at HB hx425_0 hx425_1 hx427_0 hx427_1 hx428_0 hx428_1 hx429_0 hx429_1 hx430_0 hx430_1 hHeld ⊢
        refine pU_ 0 10 b38_1 ?_
        refine pU_ 1 11 b38_2 ?_
        refine pU_ 2 12 b38_3 ?_
        refine tU_ 3 13 b38_4 hHeld ?_
        refine one_ (i:=4) (N:=some 14) b38_5 rfl rfl (one_of HT_.out Q1) Q0 (fun K hK=>?_)
        refine goes_ Try.func60 Q1 rfl #[.agg #[.int .i64 ((rd_T36 l0 x3_1).f0),.int .i64 ((rd_T36 l0 x3_1).f1)]] (by rfl) rfl rfl Q79 ?_
        with_reducible refine (spec_TimeOk.calls ((rd_T36 l0 x3_1).f0) ((rd_T36 l0 x3_1).f1) true _ A4.out).mono ?_
        rintro e w17 ⟨rfl,hb⟩
        refine ⟨_,rfl,?_⟩
        have n0_:=am (below_step Q77 hb)
        clear HB
        have HB:=n0_
        clear n0_
        (try clear hb)
        (try clear hb2)
        (try clear hk)
        (try clear hi)
        refine hK.out _ _ ⟨(cb_ HB hw425_0:),(cb_ HB hw425_1:),(cb_ HB hw427_0:),(cb_ HB hw427_1:),(cb_ HB hw428_0:),(cb_ HB hw428_1:),(cb_ HB hw429_0:),(cb_ HB hw429_1:),(cb_ HB hw430_0:),(cb_ HB hw430_1:)⟩ (fun hHeld=>?_)
        clear hK K
        refine norm_ (a':=?_) ?_ ?_
        rotate_left
        ·show Act.put _ (some 14) _ = _
         simp only [Act.put,sA_,sZ_,sS_,i64_w,i32_w]
         rfl
        refine pU_ 5 15 b38_6 ?_
        refine pU_ 6 16 b38_7 ?_
        refine pU_ 7 17 b38_8 ?_
        refine pU_ 8 18 b38_9 ?_
        refine pU_ 9 19 b38_10 ?_
        refine pU_ 10 20 b38_11 ?_
        refine pU_ 11 21 b38_12 ?_
        refine pU_ 12 22 b38_13 ?_
        refine pU_ 13 23 b38_14 ?_
        refine pU_ 14 24 b38_15 ?_
        refine pU_ 16 26 c107 ?_
        refine pU_ 17 27 c108 ?_
        refine pU_ 18 28 c109 ?_
        refine pU_ 19 29 c110 ?_
        refine tU_ 15 25 b38_20 hHeld ?_
        refine tU_ 20 30 b38_21 hHeld ?_
        refine pU_ 21 31 b38_22 ?_
        refine pU_ 22 32 b38_23 ?_
        refine pU_ 23 33 b38_24 ?_
        refine pU_ 24 34 b38_25 ?_
        refine pU_ 25 35 b38_26 ?_
        refine pU_ 26 36 b38_27 ?_
        refine pU_ 27 37 b38_28 ?_
        refine pU_ 29 39 c130 ?_
        refine pU_ 30 40 c131 ?_
        refine pU_ 31 41 c132 ?_
        refine pU_ 32 42 c133 ?_
        refine tU_ 28 38 b38_33 hHeld ?_
        refine tU_ 33 43 b38_34 hHeld ?_
        refine pU_ 34 44 b38_35 ?_
        refine pU_ 35 45 b38_36 ?_
        refine pU_ 36 46 b38_37 ?_
        refine pU_ 37 47 b38_38 ?_
        refine done_ (done_of HT_.out Q1) ?_
        try go_wp2
        go_roundg k1
        case measure=>have:=HK1.out;omega
        case rel=>exact ⟨(wrap64 (x3_1 + 1)),Q5,H',⟨Q2⟩,⟨Q77⟩⟩
     ·rw [if_neg c6] at H
      have c6b0 : decide (0 < x3_1) = false:=decide_eq_false c6
      clear c6
      have H':=Aside0.mk H
      clear H
      try go_wp2
      have n0_:=am (below_drew1 HB.out)
      clear HB
      have HB:=n0_
      clear n0_
      have p425 : 0 ≤ (x3_1 : Int):=of_decide_eq_true Q6
      have q425 : x3_1 < (l0.length : Int):=of_decide_eq_true Q6
      obtain ⟨ad425,e425,hx425_0,hx425_1⟩:=at_T36 HR0.out x3_1 p425 q425
      have hw425_1:=hx425_1
      have hw425_0:=hx425_0
      cases e425
      replace hx425_0:=cb_ HB hx425_0
      replace hx425_1:=cb_ HB hx425_1
      replace p425:=eq_true p425
      replace q425:=eq_true q425
      refine start_ (n:=38) (S:=fun w'=>w'.cell? (ad425.add ((x3_1).toNat * 2)) = some (.int .i64 ((rd_T36 l0 x3_1).f0)) ∧ w'.cell? ⟨(ad425.add ((x3_1).toNat * 2)).block,(ad425.add ((x3_1).toNat * 2)).off + 1,none⟩ = some (.int .i64 ((rd_T36 l0 x3_1).f1))) (ds:=[]) b38_0 Q1 rfl rfl ⟨(cb_ HB hw425_0:),(cb_ HB hw425_1:)⟩ (fun hHeld=>?_);refine with_tabW spec_FrontOk.tab4 spec_FrontOk.bits4 (fun HT_ HW_=>?_)
      generalize wr.drew = w18 at HB hx425_0 hx425_1 hHeld ⊢
      refine pU_ 0 10 b38_1 ?_
      refine pU_ 1 11 b38_2 ?_
      refine pU_ 2 12 b38_3 ?_
      refine tU_ 3 13 b38_4 hHeld ?_
      refine one_ (i:=4) (N:=some 14) b38_5 rfl rfl (one_of HT_.out Q1) Q0 (fun K hK=>?_)
      refine goes_ Try.func60 Q1 rfl #[.agg #[.int .i64 ((rd_T36 l0 x3_1).f0),.int .i64 ((rd_T36 l0 x3_1).f1)]] (by rfl) rfl rfl Q79 ?_
      with_reducible refine (spec_TimeOk.calls ((rd_T36 l0 x3_1).f0) ((rd_T36 l0 x3_1).f1) true _ A4.out).mono ?_
      rintro e w19 ⟨rfl,hb⟩
      refine ⟨_,rfl,?_⟩
      have n0_:=am (below_step Q77 hb)
      clear HB
      have HB:=n0_
      clear n0_
      (try clear hb)
      (try clear hb2)
      (try clear hk)
      (try clear hi)
      refine hK.out _ _ ⟨(cb_ HB hw425_0:),(cb_ HB hw425_1:)⟩ (fun hHeld=>?_)
      clear hK K
      refine norm_ (a':=?_) ?_ ?_
      rotate_left
      ·show Act.put _ (some 14) _ = _
       simp only [Act.put,sA_,sZ_,sS_,i64_w,i32_w]
       rfl
      refine pU_ 5 15 b38_6 ?_
      refine pU_ 6 16 b38_7 ?_
      refine pU_ 7 17 b38_8 ?_
      refine pU_ 8 18 b38_9 ?_
      refine pU_ 9 19 b38_10 ?_
      refine pV_ 10 20 b38_11 ?_
      refine pV_ 11 21 b38_12 ?_
      refine pV_ 12 22 b38_13 ?_
      refine pV_ 13 23 b38_14 ?_
      refine pV_ 14 24 b38_15 ?_
      refine pV_ 15 25 b38_16 ?_
      refine pV_ 16 26 b38_17 ?_
      refine pV_ 17 27 b38_18 ?_
      refine pV_ 18 28 b38_19 ?_
      refine pV_ 19 29 b38_20 ?_
      refine pV_ 20 30 b38_21 ?_
      refine pV_ 21 31 b38_22 ?_
      refine pV_ 22 32 b38_23 ?_
      refine pV_ 23 33 b38_24 ?_
      refine pV_ 24 34 b38_25 ?_
      refine pV_ 25 35 b38_26 ?_
      refine pV_ 26 36 b38_27 ?_
      refine pV_ 27 37 b38_28 ?_
      refine pV_ 28 38 b38_29 ?_
      refine pV_ 29 39 b38_30 ?_
      refine pV_ 30 40 b38_31 ?_
      refine pV_ 31 41 b38_32 ?_
      refine pV_ 32 42 b38_33 ?_
      refine pV_ 33 43 b38_34 ?_
      refine pV_ 34 44 b38_35 ?_
      refine pV_ 35 45 b38_36 ?_
      refine pU_ 36 46 b38_37 ?_
      refine pU_ 37 47 b38_38 ?_
      refine done_ (done_of HT_.out Q1) ?_
      try go_wp2
      go_roundg k1
      case measure=>have:=HK1.out;omega
      case rel=>exact ⟨(wrap64 (x3_1 + 1)),Q5,H',⟨Q2⟩,⟨Q77⟩⟩
    ·replace c5:=Bool.eq_false_iff.mpr c5
     subst c5
     have H1 : (some false) = some r:=by rw [if_neg (show ¬ (false = true) by decide)] at H;exact H
     clear H
     have H:=H1
     clear H1
     obtain rfl:=Option.some.inj H
     try go_wp2
     have n0_:=am (below_drew1 HB.out)
     clear HB
     have HB:=n0_
     clear n0_
     have p425 : 0 ≤ (x3_1 : Int):=of_decide_eq_true Q6
     have q425 : x3_1 < (l0.length : Int):=of_decide_eq_true Q6
     obtain ⟨ad425,e425,hx425_0,hx425_1⟩:=at_T36 HR0.out x3_1 p425 q425
     have hw425_1:=hx425_1
     have hw425_0:=hx425_0
     cases e425
     replace hx425_0:=cb_ HB hx425_0
     replace hx425_1:=cb_ HB hx425_1
     replace p425:=eq_true p425
     replace q425:=eq_true q425
     refine start_ (n:=38) (S:=fun w'=>w'.cell? (ad425.add ((x3_1).toNat * 2)) = some (.int .i64 ((rd_T36 l0 x3_1).f0)) ∧ w'.cell? ⟨(ad425.add ((x3_1).toNat * 2)).block,(ad425.add ((x3_1).toNat * 2)).off + 1,none⟩ = some (.int .i64 ((rd_T36 l0 x3_1).f1))) (ds:=[]) b38_0 Q1 rfl rfl ⟨(cb_ HB hw425_0:),(cb_ HB hw425_1:)⟩ (fun hHeld=>?_);refine with_tabW spec_FrontOk.tab4 spec_FrontOk.bits4 (fun HT_ HW_=>?_)
     generalize wr.drew = w20 at HB hx425_0 hx425_1 hHeld ⊢
     refine pU_ 0 10 b38_1 ?_
     refine pU_ 1 11 b38_2 ?_
     refine pU_ 2 12 b38_3 ?_
     refine tU_ 3 13 b38_4 hHeld ?_
     refine one_ (i:=4) (N:=some 14) b38_5 rfl rfl (one_of HT_.out Q1) Q0 (fun K hK=>?_)
     refine goes_ Try.func60 Q1 rfl #[.agg #[.int .i64 ((rd_T36 l0 x3_1).f0),.int .i64 ((rd_T36 l0 x3_1).f1)]] (by rfl) rfl rfl Q79 ?_
     with_reducible refine (spec_TimeOk.calls ((rd_T36 l0 x3_1).f0) ((rd_T36 l0 x3_1).f1) false _ A4.out).mono ?_
     rintro e w21 ⟨rfl,hb⟩
     refine ⟨_,rfl,?_⟩
     have n0_:=am (below_step Q77 hb)
     clear HB
     have HB:=n0_
     clear n0_
     (try clear hb)
     (try clear hb2)
     (try clear hk)
     (try clear hi)
     refine hK.out _ _ ⟨(cb_ HB hw425_0:),(cb_ HB hw425_1:)⟩ (fun hHeld=>?_)
     clear hK K
     refine norm_ (a':=?_) ?_ ?_
     rotate_left
     ·show Act.put _ (some 14) _ = _
      simp only [Act.put,sA_,sZ_,sS_,i64_w,i32_w]
      rfl
     refine pU_ 5 15 b38_6 ?_
     refine pU_ 6 16 b38_7 ?_
     refine pV_ 7 17 b38_8 ?_
     refine pV_ 8 18 b38_9 ?_
     refine pV_ 9 19 b38_10 ?_
     refine pV_ 10 20 b38_11 ?_
     refine pV_ 11 21 b38_12 ?_
     refine pV_ 12 22 b38_13 ?_
     refine pV_ 13 23 b38_14 ?_
     refine pV_ 14 24 b38_15 ?_
     refine pV_ 15 25 b38_16 ?_
     refine pV_ 16 26 b38_17 ?_
     refine pV_ 17 27 b38_18 ?_
     refine pV_ 18 28 b38_19 ?_
     refine pV_ 19 29 b38_20 ?_
     refine pV_ 20 30 b38_21 ?_
     refine pV_ 21 31 b38_22 ?_
     refine pV_ 22 32 b38_23 ?_
     refine pV_ 23 33 b38_24 ?_
     refine pV_ 24 34 b38_25 ?_
     refine pV_ 25 35 b38_26 ?_
     refine pV_ 26 36 b38_27 ?_
     refine pV_ 27 37 b38_28 ?_
     refine pV_ 28 38 b38_29 ?_
     refine pV_ 29 39 b38_30 ?_
     refine pV_ 30 40 b38_31 ?_
     refine pV_ 31 41 b38_32 ?_
     refine pV_ 32 42 b38_33 ?_
     refine pV_ 33 43 b38_34 ?_
     refine pV_ 34 44 b38_35 ?_
     refine pV_ 35 45 b38_36 ?_
     refine pV_ 36 46 b38_37 ?_
     refine pU_ 37 47 b38_38 ?_
     refine done_ (done_of HT_.out Q1) ?_
     try go_wp2
     go_ret
     exact ⟨Q17,Q77⟩
   ·rw [if_neg c2] at H
    have c2b0 : decide (x3_1 < (l0.length : Int)) = false:=decide_eq_false c2
    clear c2
    obtain rfl:=Option.some.inj H
    go_wp2
    go_ret
    exact ⟨Q17,Q77⟩
def spec_TimeJoin.f (a0_0 : Int) (a0_1 : Int) (a1_0 : Int) (a1_1 : Int) : Option (Int × Int) := (spec_TimeOk.f a0_0 a0_1).bind fun t434 => (if t434 = true then ((spec_TimeOk.f a1_0 a1_1).bind fun t435 => (if t435 = true then (some (mx a0_0 a1_0, mx a0_1 a1_1)) else (some (0, 0)))) else (some (0, 0)))
set_option maxHeartbeats 8000000 in
set_option maxRecDepth 100000 in
theorem spec_TimeJoin.calls (a0_0 : Int) (a0_1 : Int) (a1_0 : Int) (a1_1 : Int) (r1 : Int) (r2 : Int) (w : World) (h : spec_TimeJoin.f a0_0 a0_1 a1_0 a1_1 = some (r1,r2)) :
  Calls Try.prog 86 #[.agg #[.int .i64 a0_0,.int .i64 a0_1],.agg #[.int .i64 a1_0,.int .i64 a1_1]] w fun e w'=>e = .returned (.agg #[.int .i64 r1,.int .i64 r2]) ∧ Below w.heap.size w w':=by
 have hu36:=Try.underlying36
 have HB:=am (Below.refl w.heap.size w)
 have H : ((spec_TimeOk.f a0_0 a0_1).bind fun t434=>(if t434 = true then ((spec_TimeOk.f a1_0 a1_1).bind fun t435=>(if t435 = true then (some (mx a0_0 a1_0,mx a0_1 a1_1)) else (some (0,0)))) else (some (0,0)))) = some (r1,r2):=h
 clear h
 replace H:=Option.bind_eq_some_iff.mp H
 obtain ⟨t434,A30,H⟩:=H
 replace H : (if t434 = true then ((spec_TimeOk.f a1_0 a1_1).bind fun t435=>(if t435 = true then (some (mx a0_0 a1_0,mx a0_1 a1_1)) else (some (0,0)))) else (some (0,0))) = some (r1,r2):=H
 have A3:=Aside0.mk A30
 clear A30
 by_cases c4 : t434 = true
 ·subst c4
  have H1 : ((spec_TimeOk.f a1_0 a1_1).bind fun t435=>(if t435 = true then (some (mx a0_0 a1_0,mx a0_1 a1_1)) else (some (0,0)))) = some (r1,r2):=by rw [if_pos rfl] at H;exact H
  clear H
  have H:=H1
  clear H1
  replace H:=Option.bind_eq_some_iff.mp H
  obtain ⟨t435,A50,H⟩:=H
  replace H : (if t435 = true then (some (mx a0_0 a1_0,mx a0_1 a1_1)) else (some (0,0))) = some (r1,r2):=H
  have A5:=Aside0.mk A50
  clear A50
  by_cases c6 : t435 = true
  ·subst c6
   have H1 : (some (mx a0_0 a1_0,mx a0_1 a1_1)) = some (r1,r2):=by rw [if_pos rfl] at H;exact H
   clear H
   have H:=H1
   clear H1
   obtain ⟨ji7,hji7⟩ : ∃ j_ : Int,(mx a0_0 a1_0) = j_:=⟨_,rfl⟩
   replace H : (some (ji7,mx a0_1 a1_1)) = some (r1,r2):=Q11
   (try rw [hji7] at A3)
   (try rw [hji7] at A5)
   have hji7_ : (if a0_0 < a1_0 then a1_0 else a0_0) = ji7:=hji7
   obtain ⟨ji8,hji8⟩ : ∃ j_ : Int,(mx a0_1 a1_1) = j_:=⟨_,rfl⟩
   replace H : (some (ji7,ji8)) = some (r1,r2):=Q10
   (try rw [hji8] at A3)
   (try rw [hji8] at A5)
   have hji8_ : (if a0_1 < a1_1 then a1_1 else a0_1) = ji8:=hji8
   simp only [Option.some.injEq,Prod.mk.injEq] at H
   obtain ⟨rfl,rfl⟩:=H
   go_enter Try.func86,Try.ntmps86
   go_wp2_with (first|((with_reducible refine gate_dst (N:=2) rfl ?_);refine box_event ?hg (N:=2) ?hd (cs:=#[.int .i64 a0_0,.int .i64 a0_1]) (t:=36) ?hr ?_;(case hd=>rfl);(case hg=>rfl);(case hr=>first|(go_simp;done)|(go_simp;rfl));intro gb431 hg w9 hbox hb;have n0_:=am (below_step Q77 hb);have n1_:=am (hbox);have n2_:=am ((Q167 : w.heap.size ≤ gb431));have n3_:=n2_;clear HB;have HB:=n0_;have BK431:=n1_;have GW431:=n2_;have GE431:=n3_;clear n0_ n1_ n2_ n3_;clear hb hbox hg)|((with_reducible refine gate_dst (N:=3) rfl ?_);refine box_event ?hg (N:=3) ?hd (cs:=#[.int .i64 a1_0,.int .i64 a1_1]) (t:=36) ?hr ?_;(case hd=>rfl);(case hg=>rfl);(case hr=>first|(go_simp;done)|(go_simp;rfl));intro gb432 hg w10 hbox hb;have n0_:=am (blk_below (g:=gb431) (o:=.cells #[.int .i64 a0_0,.int .i64 a0_1] 36 (0,0)) Q63 hb);have n1_:=am (below_step Q101 hb);have n2_:=am (hbox);have n3_:=am ((by rw [hg];exact (below_size Q101) : w.heap.size ≤ gb432));have n4_:=n3_;have n5_:=am ((Q189 : gb431 ≠ gb432));have n6_:=am ((Q190 : gb432 ≠ gb431));clear BK431 HB;have BK431:=n0_;have HB:=n1_;have BK432:=n2_;have GW432:=n3_;have GE432:=n4_;have NB431_432:=n5_;have NB432_431:=n6_;clear n0_ n1_ n2_ n3_ n4_ n5_ n6_;clear hb hbox hg)|((with_reducible refine gate_dst (N:=4) rfl ?_);refine box_event ?hg (N:=4) ?hd (cs:=#[.int .i64 0,.int .i64 0]) (t:=36) ?hr ?_;(case hd=>rfl);(case hg=>rfl);(case hr=>first|(go_simp;done)|(go_simp;rfl));intro gb433 hg w11 hbox hb;have n0_:=am (blk_below (g:=gb431) (o:=.cells #[.int .i64 a0_0,.int .i64 a0_1] 36 (0,0)) Q63 hb);have n1_:=am (blk_below (g:=gb432) (o:=.cells #[.int .i64 a1_0,.int .i64 a1_1] 36 (0,0)) Q64 hb);have n2_:=am (below_step Q134 hb);have n3_:=am (hbox);have n4_:=am ((by rw [hg];exact (below_size Q134) : w.heap.size ≤ gb433));have n5_:=n4_;have n6_:=am ((Q189 : gb431 ≠ gb433));have n7_:=am ((Q190 : gb433 ≠ gb431));have n8_:=am ((Q191 : gb432 ≠ gb433));have n9_:=am ((Q192 : gb433 ≠ gb432));clear BK431 BK432 HB;have BK431:=n0_;have BK432:=n1_;have HB:=n2_;have BK433:=n3_;have GW433:=n4_;have GE433:=n5_;have NB431_433:=n6_;have NB433_431:=n7_;have NB432_433:=n8_;have NB433_432:=n9_;clear n0_ n1_ n2_ n3_ n4_ n5_ n6_ n7_ n8_ n9_;clear hb hbox hg;have hnb12:=NB431_432.out;have hnc12:=NB432_431.out;have hnb13:=NB431_433.out;have hnc13:=NB433_431.out;obtain ⟨hcz14_0,hcz14_1,hfz14_0,hfz14_1⟩:=bx2_ BK431)|((with_reducible refine gate_callee (f:=60) rfl ?_);refine goesL_ (some 6) rfl rfl Try.func60 Q1 rfl #[.agg #[.int .i64 a0_0,.int .i64 a0_1]] rfl Q79 ?_;(with_reducible refine (spec_TimeOk.calls a0_0 a0_1 true _ A3.out).mono ?_);rintro e w15 ⟨rfl,hb⟩;refine ⟨_,rfl,?_⟩;have n0_:=am (blk_below (g:=gb431) (o:=.cells #[.int .i64 a0_0,.int .i64 a0_1] 36 (0,0)) Q63 hb);have n1_:=am (blk_below (g:=gb432) (o:=.cells #[.int .i64 a1_0,.int .i64 a1_1] 36 (0,0)) Q64 hb);have n2_:=am (blk_below (g:=gb433) (o:=.cells #[.int .i64 0,.int .i64 0] 36 (0,0)) Q65 hb);have n3_:=am (below_step Q150 hb);clear BK431 BK432 BK433 HB;have BK431:=n0_;have BK432:=n1_;have BK433:=n2_;have HB:=n3_;clear n0_ n1_ n2_ n3_;(try clear hb);(try clear hb2);(try clear hk);(try clear hi);have hnb16:=NB432_433.out;have hnc16:=NB433_432.out;obtain ⟨hcz17_0,hcz17_1,hfz17_0,hfz17_1⟩:=bx2_ BK432)|(go_at_call 60;(with_reducible refine (spec_TimeOk.calls a1_0 a1_1 true _ A5.out).mono ?_);rintro e w18 ⟨rfl,hb⟩;have n0_:=am (blk_below (g:=gb431) (o:=.cells #[.int .i64 a0_0,.int .i64 a0_1] 36 (0,0)) Q63 hb);have n1_:=am (blk_below (g:=gb432) (o:=.cells #[.int .i64 a1_0,.int .i64 a1_1] 36 (0,0)) Q64 hb);have n2_:=am (blk_below (g:=gb433) (o:=.cells #[.int .i64 0,.int .i64 0] 36 (0,0)) Q65 hb);have n3_:=am (below_step Q150 hb);clear BK431 BK432 BK433 HB;have BK431:=n0_;have BK432:=n1_;have BK433:=n2_;have HB:=n3_;clear n0_ n1_ n2_ n3_;(try clear hb);(try clear hb2);(try clear hk);(try clear hi);obtain ⟨hcz19_0,hcz19_1,hfz19_0,hfz19_1⟩:=bx2_ BK431;obtain ⟨hcz20_0,hcz20_1,hfz20_0,hfz20_1⟩:=bx2_ BK432;obtain ⟨hcz21_0,hcz21_1,hfz21_0,hfz21_1⟩:=bx2_ BK433))
   refine bodyPost_ret (results_cell_row rfl _ _ gb433 36 #[.int .i64 ji7,.int .i64 ji8] (0,0) _ rfl (by (with_reducible repeat (first|refine blk_drewN ?_ _|refine blk_drew ?_|refine blk_alloc ?_ _));refine blk_put (cs:=#[.int .i64 ji7,.int .i64 0]) ?_ 1 _ rfl;(with_reducible repeat (first|refine blk_drewN ?_ _|refine blk_drew ?_|refine blk_alloc ?_ _));refine blk_put (cs:=#[.int .i64 0,.int .i64 0]) ?_ 0 _ rfl;(with_reducible repeat (first|refine blk_drewN ?_ _|refine blk_drew ?_|refine blk_alloc ?_ _));exact BK433.out) Try.underlying36 rfl Q1) rfl ?_
   exact ⟨Q117,Q150⟩
  ·replace c6:=Bool.eq_false_iff.mpr c6
   subst c6
   have H1 : (some (0,0)) = some (r1,r2):=by rw [if_neg (show ¬ (false = true) by decide)] at H;exact H
   clear H
   have H:=H1
   clear H1
   simp only [Option.some.injEq,Prod.mk.injEq] at H
   obtain ⟨rfl,rfl⟩:=H
   go_enter Try.func86,Try.ntmps86
   go_wp2_with (first|((with_reducible refine gate_dst (N:=2) rfl ?_);refine box_event ?hg (N:=2) ?hd (cs:=#[.int .i64 a0_0,.int .i64 a0_1]) (t:=36) ?hr ?_;(case hd=>rfl);(case hg=>rfl);(case hr=>first|(go_simp;done)|(go_simp;rfl));intro gb431 hg w22 hbox hb;have n0_:=am (below_step Q77 hb);have n1_:=am (hbox);have n2_:=am ((Q167 : w.heap.size ≤ gb431));have n3_:=n2_;clear HB;have HB:=n0_;have BK431:=n1_;have GW431:=n2_;have GE431:=n3_;clear n0_ n1_ n2_ n3_;clear hb hbox hg)|((with_reducible refine gate_dst (N:=3) rfl ?_);refine box_event ?hg (N:=3) ?hd (cs:=#[.int .i64 a1_0,.int .i64 a1_1]) (t:=36) ?hr ?_;(case hd=>rfl);(case hg=>rfl);(case hr=>first|(go_simp;done)|(go_simp;rfl));intro gb432 hg w23 hbox hb;have n0_:=am (blk_below (g:=gb431) (o:=.cells #[.int .i64 a0_0,.int .i64 a0_1] 36 (0,0)) Q63 hb);have n1_:=am (below_step Q101 hb);have n2_:=am (hbox);have n3_:=am ((by rw [hg];exact (below_size Q101) : w.heap.size ≤ gb432));have n4_:=n3_;have n5_:=am ((Q189 : gb431 ≠ gb432));have n6_:=am ((Q190 : gb432 ≠ gb431));clear BK431 HB;have BK431:=n0_;have HB:=n1_;have BK432:=n2_;have GW432:=n3_;have GE432:=n4_;have NB431_432:=n5_;have NB432_431:=n6_;clear n0_ n1_ n2_ n3_ n4_ n5_ n6_;clear hb hbox hg)|((with_reducible refine gate_dst (N:=4) rfl ?_);refine box_event ?hg (N:=4) ?hd (cs:=#[.int .i64 0,.int .i64 0]) (t:=36) ?hr ?_;(case hd=>rfl);(case hg=>rfl);(case hr=>first|(go_simp;done)|(go_simp;rfl));intro gb433 hg w24 hbox hb;have n0_:=am (blk_below (g:=gb431) (o:=.cells #[.int .i64 a0_0,.int .i64 a0_1] 36 (0,0)) Q63 hb);have n1_:=am (blk_below (g:=gb432) (o:=.cells #[.int .i64 a1_0,.int .i64 a1_1] 36 (0,0)) Q64 hb);have n2_:=am (below_step Q134 hb);have n3_:=am (hbox);have n4_:=am ((by rw [hg];exact (below_size Q134) : w.heap.size ≤ gb433));have n5_:=n4_;have n6_:=am ((Q189 : gb431 ≠ gb433));have n7_:=am ((Q190 : gb433 ≠ gb431));have n8_:=am ((Q191 : gb432 ≠ gb433));have n9_:=am ((Q192 : gb433 ≠ gb432));clear BK431 BK432 HB;have BK431:=n0_;have BK432:=n1_;have HB:=n2_;have BK433:=n3_;have GW433:=n4_;have GE433:=n5_;have NB431_433:=n6_;have NB433_431:=n7_;have NB432_433:=n8_;have NB433_432:=n9_;clear n0_ n1_ n2_ n3_ n4_ n5_ n6_ n7_ n8_ n9_;clear hb hbox hg;have hnb25:=NB431_432.out;have hnc25:=NB432_431.out;have hnb26:=NB431_433.out;have hnc26:=NB433_431.out;obtain ⟨hcz27_0,hcz27_1,hfz27_0,hfz27_1⟩:=bx2_ BK431)|((with_reducible refine gate_callee (f:=60) rfl ?_);refine goesL_ (some 6) rfl rfl Try.func60 Q1 rfl #[.agg #[.int .i64 a0_0,.int .i64 a0_1]] rfl Q79 ?_;(with_reducible refine (spec_TimeOk.calls a0_0 a0_1 true _ A3.out).mono ?_);rintro e w28 ⟨rfl,hb⟩;refine ⟨_,rfl,?_⟩;have n0_:=am (blk_below (g:=gb431) (o:=.cells #[.int .i64 a0_0,.int .i64 a0_1] 36 (0,0)) Q63 hb);have n1_:=am (blk_below (g:=gb432) (o:=.cells #[.int .i64 a1_0,.int .i64 a1_1] 36 (0,0)) Q64 hb);have n2_:=am (blk_below (g:=gb433) (o:=.cells #[.int .i64 0,.int .i64 0] 36 (0,0)) Q65 hb);have n3_:=am (below_step Q150 hb);clear BK431 BK432 BK433 HB;have BK431:=n0_;have BK432:=n1_;have BK433:=n2_;have HB:=n3_;clear n0_ n1_ n2_ n3_;(try clear hb);(try clear hb2);(try clear hk);(try clear hi);have hnb29:=NB432_433.out;have hnc29:=NB433_432.out;obtain ⟨hcz30_0,hcz30_1,hfz30_0,hfz30_1⟩:=bx2_ BK432)|(go_at_call 60;(with_reducible refine (spec_TimeOk.calls a1_0 a1_1 false _ A5.out).mono ?_);rintro e w31 ⟨rfl,hb⟩;have n0_:=am (blk_below (g:=gb431) (o:=.cells #[.int .i64 a0_0,.int .i64 a0_1] 36 (0,0)) Q63 hb);have n1_:=am (blk_below (g:=gb432) (o:=.cells #[.int .i64 a1_0,.int .i64 a1_1] 36 (0,0)) Q64 hb);have n2_:=am (blk_below (g:=gb433) (o:=.cells #[.int .i64 0,.int .i64 0] 36 (0,0)) Q65 hb);have n3_:=am (below_step Q150 hb);clear BK431 BK432 BK433 HB;have BK431:=n0_;have BK432:=n1_;have BK433:=n2_;have HB:=n3_;clear n0_ n1_ n2_ n3_;(try clear hb);(try clear hb2);(try clear hk);(try clear hi);obtain ⟨hcz32_0,hcz32_1,hfz32_0,hfz32_1⟩:=bx2_ BK433))
   refine bodyPost_ret (results_cell_row rfl _ _ gb433 36 #[.int .i64 0,.int .i64 0] (0,0) _ rfl (by (with_reducible repeat (first|refine blk_drewN ?_ _|refine blk_drew ?_|refine blk_alloc ?_ _));refine blk_put (cs:=#[.int .i64 0,.int .i64 0]) ?_ 1 _ rfl;(with_reducible repeat (first|refine blk_drewN ?_ _|refine blk_drew ?_|refine blk_alloc ?_ _));refine blk_put (cs:=#[.int .i64 0,.int .i64 0]) ?_ 0 _ rfl;(with_reducible repeat (first|refine blk_drewN ?_ _|refine blk_drew ?_|refine blk_alloc ?_ _));exact BK433.out) Try.underlying36 rfl Q1) rfl ?_
   exact ⟨Q17,Q150⟩
 ·replace c4:=Bool.eq_false_iff.mpr c4
  subst c4
  have H1 : (some (0,0)) = some (r1,r2):=by rw [if_neg (show ¬ (false = true) by decide)] at H;exact H
  clear H
  have H:=H1
  clear H1
  simp only [Option.some.injEq,Prod.mk.injEq] at H
  obtain ⟨rfl,rfl⟩:=H
  go_enter Try.func86,Try.ntmps86
  go_wp2_with (first|((with_reducible refine gate_dst (N:=2) rfl ?_);refine box_event ?hg (N:=2) ?hd (cs:=#[.int .i64 a0_0,.int .i64 a0_1]) (t:=36) ?hr ?_;(case hd=>rfl);(case hg=>rfl);(case hr=>first|(go_simp;done)|(go_simp;rfl));intro gb431 hg w33 hbox hb;have n0_:=am (below_step Q77 hb);have n1_:=am (hbox);have n2_:=am ((Q167 : w.heap.size ≤ gb431));have n3_:=n2_;clear HB;have HB:=n0_;have BK431:=n1_;have GW431:=n2_;have GE431:=n3_;clear n0_ n1_ n2_ n3_;clear hb hbox hg)|((with_reducible refine gate_dst (N:=3) rfl ?_);refine box_event ?hg (N:=3) ?hd (cs:=#[.int .i64 a1_0,.int .i64 a1_1]) (t:=36) ?hr ?_;(case hd=>rfl);(case hg=>rfl);(case hr=>first|(go_simp;done)|(go_simp;rfl));intro gb432 hg w34 hbox hb;have n0_:=am (blk_below (g:=gb431) (o:=.cells #[.int .i64 a0_0,.int .i64 a0_1] 36 (0,0)) Q63 hb);have n1_:=am (below_step Q101 hb);have n2_:=am (hbox);have n3_:=am ((by rw [hg];exact (below_size Q101) : w.heap.size ≤ gb432));have n4_:=n3_;have n5_:=am ((Q189 : gb431 ≠ gb432));have n6_:=am ((Q190 : gb432 ≠ gb431));clear BK431 HB;have BK431:=n0_;have HB:=n1_;have BK432:=n2_;have GW432:=n3_;have GE432:=n4_;have NB431_432:=n5_;have NB432_431:=n6_;clear n0_ n1_ n2_ n3_ n4_ n5_ n6_;clear hb hbox hg)|((with_reducible refine gate_dst (N:=4) rfl ?_);refine box_event ?hg (N:=4) ?hd (cs:=#[.int .i64 0,.int .i64 0]) (t:=36) ?hr ?_;(case hd=>rfl);(case hg=>rfl);(case hr=>first|(go_simp;done)|(go_simp;rfl));intro gb433 hg w35 hbox hb;have n0_:=am (blk_below (g:=gb431) (o:=.cells #[.int .i64 a0_0,.int .i64 a0_1] 36 (0,0)) Q63 hb);have n1_:=am (blk_below (g:=gb432) (o:=.cells #[.int .i64 a1_0,.int .i64 a1_1] 36 (0,0)) Q64 hb);have n2_:=am (below_step Q134 hb);have n3_:=am (hbox);have n4_:=am ((by rw [hg];exact (below_size Q134) : w.heap.size ≤ gb433));have n5_:=n4_;have n6_:=am ((Q189 : gb431 ≠ gb433));have n7_:=am ((Q190 : gb433 ≠ gb431));have n8_:=am ((Q191 : gb432 ≠ gb433));have n9_:=am ((Q192 : gb433 ≠ gb432));clear BK431 BK432 HB;have BK431:=n0_;have BK432:=n1_;have HB:=n2_;have BK433:=n3_;have GW433:=n4_;have GE433:=n5_;have NB431_433:=n6_;have NB433_431:=n7_;have NB432_433:=n8_;have NB433_432:=n9_;clear n0_ n1_ n2_ n3_ n4_ n5_ n6_ n7_ n8_ n9_;clear hb hbox hg;have hnb36:=NB431_432.out;have hnc36:=NB432_431.out;have hnb37:=NB431_433.out;have hnc37:=NB433_431.out;obtain ⟨hcz38_0,hcz38_1,hfz38_0,hfz38_1⟩:=bx2_ BK431)|((with_reducible refine gate_callee (f:=60) rfl ?_);refine goesL_ (some 6) rfl rfl Try.func60 Q1 rfl #[.agg #[.int .i64 a0_0,.int .i64 a0_1]] rfl Q79 ?_;(with_reducible refine (spec_TimeOk.calls a0_0 a0_1 false _ A3.out).mono ?_);rintro e w39 ⟨rfl,hb⟩;refine ⟨_,rfl,?_⟩;have n0_:=am (blk_below (g:=gb431) (o:=.cells #[.int .i64 a0_0,.int .i64 a0_1] 36 (0,0)) Q63 hb);have n1_:=am (blk_below (g:=gb432) (o:=.cells #[.int .i64 a1_0,.int .i64 a1_1] 36 (0,0)) Q64 hb);have n2_:=am (blk_below (g:=gb433) (o:=.cells #[.int .i64 0,.int .i64 0] 36 (0,0)) Q65 hb);have n3_:=am (below_step Q150 hb);clear BK431 BK432 BK433 HB;have BK431:=n0_;have BK432:=n1_;have BK433:=n2_;have HB:=n3_;clear n0_ n1_ n2_ n3_;(try clear hb);(try clear hb2);(try clear hk);(try clear hi);have hnb40:=NB433_432.out;have hnc40:=NB432_433.out;obtain ⟨hcz41_0,hcz41_1,hfz41_0,hfz41_1⟩:=bx2_ BK433))
  refine bodyPost_ret (results_cell_row rfl _ _ gb433 36 #[.int .i64 0,.int .i64 0] (0,0) _ rfl (by (with_reducible repeat (first|refine blk_drewN ?_ _|refine blk_drew ?_|refine blk_alloc ?_ _));refine blk_put (cs:=#[.int .i64 0,.int .i64 0]) ?_ 1 _ rfl;(with_reducible repeat (first|refine blk_drewN ?_ _|refine blk_drew ?_|refine blk_alloc ?_ _));refine blk_put (cs:=#[.int .i64 0,.int .i64 0]) ?_ 0 _ rfl;(with_reducible repeat (first|refine blk_drewN ?_ _|refine blk_drew ?_|refine blk_alloc ?_ _));exact BK433.out) Try.underlying36 rfl Q1) rfl ?_
  exact ⟨Q17,Q150⟩
def spec_TimeMeet.f (a0_0 : Int) (a0_1 : Int) (a1_0 : Int) (a1_1 : Int) : Option (Int × Int) := (spec_TimeOk.f a0_0 a0_1).bind fun t439 => (if t439 = true then ((spec_TimeOk.f a1_0 a1_1).bind fun t440 => (if t440 = true then (some (mn a0_0 a1_0, mn a0_1 a1_1)) else (some (0, 0)))) else (some (0, 0)))
set_option maxHeartbeats 8000000 in
set_option maxRecDepth 100000 in
theorem spec_TimeMeet.calls (a0_0 : Int) (a0_1 : Int) (a1_0 : Int) (a1_1 : Int) (r1 : Int) (r2 : Int) (w : World) (h : spec_TimeMeet.f a0_0 a0_1 a1_0 a1_1 = some (r1,r2)) :
  Calls Try.prog 87 #[.agg #[.int .i64 a0_0,.int .i64 a0_1],.agg #[.int .i64 a1_0,.int .i64 a1_1]] w fun e w'=>e = .returned (.agg #[.int .i64 r1,.int .i64 r2]) ∧ Below w.heap.size w w':=by
 have hu36:=Try.underlying36
 have HB:=am (Below.refl w.heap.size w)
 have H : ((spec_TimeOk.f a0_0 a0_1).bind fun t439=>(if t439 = true then ((spec_TimeOk.f a1_0 a1_1).bind fun t440=>(if t440 = true then (some (mn a0_0 a1_0,mn a0_1 a1_1)) else (some (0,0)))) else (some (0,0)))) = some (r1,r2):=h
 clear h
 replace H:=Option.bind_eq_some_iff.mp H
 obtain ⟨t439,A30,H⟩:=H
 replace H : (if t439 = true then ((spec_TimeOk.f a1_0 a1_1).bind fun t440=>(if t440 = true then (some (mn a0_0 a1_0,mn a0_1 a1_1)) else (some (0,0)))) else (some (0,0))) = some (r1,r2):=H
 have A3:=Aside0.mk A30
 clear A30
 by_cases c4 : t439 = true
 ·subst c4
  have H1 : ((spec_TimeOk.f a1_0 a1_1).bind fun t440=>(if t440 = true then (some (mn a0_0 a1_0,mn a0_1 a1_1)) else (some (0,0)))) = some (r1,r2):=by rw [if_pos rfl] at H;exact H
  clear H
  have H:=H1
  clear H1
  replace H:=Option.bind_eq_some_iff.mp H
  obtain ⟨t440,A50,H⟩:=H
  replace H : (if t440 = true then (some (mn a0_0 a1_0,mn a0_1 a1_1)) else (some (0,0))) = some (r1,r2):=H
  have A5:=Aside0.mk A50
  clear A50
  by_cases c6 : t440 = true
  ·subst c6
   have H1 : (some (mn a0_0 a1_0,mn a0_1 a1_1)) = some (r1,r2):=by rw [if_pos rfl] at H;exact H
   clear H
   have H:=H1
   clear H1
   obtain ⟨ji7,hji7⟩ : ∃ j_ : Int,(mn a0_0 a1_0) = j_:=⟨_,rfl⟩
   replace H : (some (ji7,mn a0_1 a1_1)) = some (r1,r2):=Q11
   (try rw [hji7] at A3)
   (try rw [hji7] at A5)
   have hji7_ : (if a1_0 < a0_0 then a1_0 else a0_0) = ji7:=hji7
   obtain ⟨ji8,hji8⟩ : ∃ j_ : Int,(mn a0_1 a1_1) = j_:=⟨_,rfl⟩
   replace H : (some (ji7,ji8)) = some (r1,r2):=Q10
   (try rw [hji8] at A3)
   (try rw [hji8] at A5)
   have hji8_ : (if a1_1 < a0_1 then a1_1 else a0_1) = ji8:=hji8
   simp only [Option.some.injEq,Prod.mk.injEq] at H
   obtain ⟨rfl,rfl⟩:=H
   go_enter Try.func87,Try.ntmps87
   go_wp2_with (first|((with_reducible refine gate_dst (N:=2) rfl ?_);refine box_event ?hg (N:=2) ?hd (cs:=#[.int .i64 a0_0,.int .i64 a0_1]) (t:=36) ?hr ?_;(case hd=>rfl);(case hg=>rfl);(case hr=>first|(go_simp;done)|(go_simp;rfl));intro gb436 hg w9 hbox hb;have n0_:=am (below_step Q77 hb);have n1_:=am (hbox);have n2_:=am ((Q167 : w.heap.size ≤ gb436));have n3_:=n2_;clear HB;have HB:=n0_;have BK436:=n1_;have GW436:=n2_;have GE436:=n3_;clear n0_ n1_ n2_ n3_;clear hb hbox hg)|((with_reducible refine gate_dst (N:=3) rfl ?_);refine box_event ?hg (N:=3) ?hd (cs:=#[.int .i64 a1_0,.int .i64 a1_1]) (t:=36) ?hr ?_;(case hd=>rfl);(case hg=>rfl);(case hr=>first|(go_simp;done)|(go_simp;rfl));intro gb437 hg w10 hbox hb;have n0_:=am (blk_below (g:=gb436) (o:=.cells #[.int .i64 a0_0,.int .i64 a0_1] 36 (0,0)) Q66 hb);have n1_:=am (below_step Q102 hb);have n2_:=am (hbox);have n3_:=am ((by rw [hg];exact (below_size Q102) : w.heap.size ≤ gb437));have n4_:=n3_;have n5_:=am ((Q193 : gb436 ≠ gb437));have n6_:=am ((Q194 : gb437 ≠ gb436));clear BK436 HB;have BK436:=n0_;have HB:=n1_;have BK437:=n2_;have GW437:=n3_;have GE437:=n4_;have NB436_437:=n5_;have NB437_436:=n6_;clear n0_ n1_ n2_ n3_ n4_ n5_ n6_;clear hb hbox hg)|((with_reducible refine gate_dst (N:=4) rfl ?_);refine box_event ?hg (N:=4) ?hd (cs:=#[.int .i64 0,.int .i64 0]) (t:=36) ?hr ?_;(case hd=>rfl);(case hg=>rfl);(case hr=>first|(go_simp;done)|(go_simp;rfl));intro gb438 hg w11 hbox hb;have n0_:=am (blk_below (g:=gb436) (o:=.cells #[.int .i64 a0_0,.int .i64 a0_1] 36 (0,0)) Q66 hb);have n1_:=am (blk_below (g:=gb437) (o:=.cells #[.int .i64 a1_0,.int .i64 a1_1] 36 (0,0)) Q67 hb);have n2_:=am (below_step Q135 hb);have n3_:=am (hbox);have n4_:=am ((by rw [hg];exact (below_size Q135) : w.heap.size ≤ gb438));have n5_:=n4_;have n6_:=am ((Q193 : gb436 ≠ gb438));have n7_:=am ((Q194 : gb438 ≠ gb436));have n8_:=am ((Q195 : gb437 ≠ gb438));have n9_:=am ((Q196 : gb438 ≠ gb437));clear BK436 BK437 HB;have BK436:=n0_;have BK437:=n1_;have HB:=n2_;have BK438:=n3_;have GW438:=n4_;have GE438:=n5_;have NB436_438:=n6_;have NB438_436:=n7_;have NB437_438:=n8_;have NB438_437:=n9_;clear n0_ n1_ n2_ n3_ n4_ n5_ n6_ n7_ n8_ n9_;clear hb hbox hg;have hnb12:=NB436_437.out;have hnc12:=NB437_436.out;have hnb13:=NB436_438.out;have hnc13:=NB438_436.out;obtain ⟨hcz14_0,hcz14_1,hfz14_0,hfz14_1⟩:=bx2_ BK436)|((with_reducible refine gate_callee (f:=60) rfl ?_);refine goesL_ (some 6) rfl rfl Try.func60 Q1 rfl #[.agg #[.int .i64 a0_0,.int .i64 a0_1]] rfl Q79 ?_;(with_reducible refine (spec_TimeOk.calls a0_0 a0_1 true _ A3.out).mono ?_);rintro e w15 ⟨rfl,hb⟩;refine ⟨_,rfl,?_⟩;have n0_:=am (blk_below (g:=gb436) (o:=.cells #[.int .i64 a0_0,.int .i64 a0_1] 36 (0,0)) Q66 hb);have n1_:=am (blk_below (g:=gb437) (o:=.cells #[.int .i64 a1_0,.int .i64 a1_1] 36 (0,0)) Q67 hb);have n2_:=am (blk_below (g:=gb438) (o:=.cells #[.int .i64 0,.int .i64 0] 36 (0,0)) Q68 hb);have n3_:=am (below_step Q151 hb);clear BK436 BK437 BK438 HB;have BK436:=n0_;have BK437:=n1_;have BK438:=n2_;have HB:=n3_;clear n0_ n1_ n2_ n3_;(try clear hb);(try clear hb2);(try clear hk);(try clear hi);have hnb16:=NB437_438.out;have hnc16:=NB438_437.out;obtain ⟨hcz17_0,hcz17_1,hfz17_0,hfz17_1⟩:=bx2_ BK437)|(go_at_call 60;(with_reducible refine (spec_TimeOk.calls a1_0 a1_1 true _ A5.out).mono ?_);rintro e w18 ⟨rfl,hb⟩;have n0_:=am (blk_below (g:=gb436) (o:=.cells #[.int .i64 a0_0,.int .i64 a0_1] 36 (0,0)) Q66 hb);have n1_:=am (blk_below (g:=gb437) (o:=.cells #[.int .i64 a1_0,.int .i64 a1_1] 36 (0,0)) Q67 hb);have n2_:=am (blk_below (g:=gb438) (o:=.cells #[.int .i64 0,.int .i64 0] 36 (0,0)) Q68 hb);have n3_:=am (below_step Q151 hb);clear BK436 BK437 BK438 HB;have BK436:=n0_;have BK437:=n1_;have BK438:=n2_;have HB:=n3_;clear n0_ n1_ n2_ n3_;(try clear hb);(try clear hb2);(try clear hk);(try clear hi);obtain ⟨hcz19_0,hcz19_1,hfz19_0,hfz19_1⟩:=bx2_ BK436;obtain ⟨hcz20_0,hcz20_1,hfz20_0,hfz20_1⟩:=bx2_ BK437;obtain ⟨hcz21_0,hcz21_1,hfz21_0,hfz21_1⟩:=bx2_ BK438))
   refine bodyPost_ret (results_cell_row rfl _ _ gb438 36 #[.int .i64 ji7,.int .i64 ji8] (0,0) _ rfl (by (with_reducible repeat (first|refine blk_drewN ?_ _|refine blk_drew ?_|refine blk_alloc ?_ _));refine blk_put (cs:=#[.int .i64 ji7,.int .i64 0]) ?_ 1 _ rfl;(with_reducible repeat (first|refine blk_drewN ?_ _|refine blk_drew ?_|refine blk_alloc ?_ _));refine blk_put (cs:=#[.int .i64 0,.int .i64 0]) ?_ 0 _ rfl;(with_reducible repeat (first|refine blk_drewN ?_ _|refine blk_drew ?_|refine blk_alloc ?_ _));exact BK438.out) Try.underlying36 rfl Q1) rfl ?_
   exact ⟨Q117,Q151⟩
  ·replace c6:=Bool.eq_false_iff.mpr c6
   subst c6
   have H1 : (some (0,0)) = some (r1,r2):=by rw [if_neg (show ¬ (false = true) by decide)] at H;exact H
   clear H
   have H:=H1
   clear H1
   simp only [Option.some.injEq,Prod.mk.injEq] at H
   obtain ⟨rfl,rfl⟩:=H
   go_enter Try.func87,Try.ntmps87
   go_wp2_with (first|((with_reducible refine gate_dst (N:=2) rfl ?_);refine box_event ?hg (N:=2) ?hd (cs:=#[.int .i64 a0_0,.int .i64 a0_1]) (t:=36) ?hr ?_;(case hd=>rfl);(case hg=>rfl);(case hr=>first|(go_simp;done)|(go_simp;rfl));intro gb436 hg w22 hbox hb;have n0_:=am (below_step Q77 hb);have n1_:=am (hbox);have n2_:=am ((Q167 : w.heap.size ≤ gb436));have n3_:=n2_;clear HB;have HB:=n0_;have BK436:=n1_;have GW436:=n2_;have GE436:=n3_;clear n0_ n1_ n2_ n3_;clear hb hbox hg)|((with_reducible refine gate_dst (N:=3) rfl ?_);refine box_event ?hg (N:=3) ?hd (cs:=#[.int .i64 a1_0,.int .i64 a1_1]) (t:=36) ?hr ?_;(case hd=>rfl);(case hg=>rfl);(case hr=>first|(go_simp;done)|(go_simp;rfl));intro gb437 hg w23 hbox hb;have n0_:=am (blk_below (g:=gb436) (o:=.cells #[.int .i64 a0_0,.int .i64 a0_1] 36 (0,0)) Q66 hb);have n1_:=am (below_step Q102 hb);have n2_:=am (hbox);have n3_:=am ((by rw [hg];exact (below_size Q102) : w.heap.size ≤ gb437));have n4_:=n3_;have n5_:=am ((Q193 : gb436 ≠ gb437));have n6_:=am ((Q194 : gb437 ≠ gb436));clear BK436 HB;have BK436:=n0_;have HB:=n1_;have BK437:=n2_;have GW437:=n3_;have GE437:=n4_;have NB436_437:=n5_;have NB437_436:=n6_;clear n0_ n1_ n2_ n3_ n4_ n5_ n6_;clear hb hbox hg)|((with_reducible refine gate_dst (N:=4) rfl ?_);refine box_event ?hg (N:=4) ?hd (cs:=#[.int .i64 0,.int .i64 0]) (t:=36) ?hr ?_;(case hd=>rfl);(case hg=>rfl);(case hr=>first|(go_simp;done)|(go_simp;rfl));intro gb438 hg w24 hbox hb;have n0_:=am (blk_below (g:=gb436) (o:=.cells #[.int .i64 a0_0,.int .i64 a0_1] 36 (0,0)) Q66 hb);have n1_:=am (blk_below (g:=gb437) (o:=.cells #[.int .i64 a1_0,.int .i64 a1_1] 36 (0,0)) Q67 hb);have n2_:=am (below_step Q135 hb);have n3_:=am (hbox);have n4_:=am ((by rw [hg];exact (below_size Q135) : w.heap.size ≤ gb438));have n5_:=n4_;have n6_:=am ((Q193 : gb436 ≠ gb438));have n7_:=am ((Q194 : gb438 ≠ gb436));have n8_:=am ((Q195 : gb437 ≠ gb438));have n9_:=am ((Q196 : gb438 ≠ gb437));clear BK436 BK437 HB;have BK436:=n0_;have BK437:=n1_;have HB:=n2_;have BK438:=n3_;have GW438:=n4_;have GE438:=n5_;have NB436_438:=n6_;have NB438_436:=n7_;have NB437_438:=n8_;have NB438_437:=n9_;clear n0_ n1_ n2_ n3_ n4_ n5_ n6_ n7_ n8_ n9_;clear hb hbox hg;have hnb25:=NB436_437.out;have hnc25:=NB437_436.out;have hnb26:=NB436_438.out;have hnc26:=NB438_436.out;obtain ⟨hcz27_0,hcz27_1,hfz27_0,hfz27_1⟩:=bx2_ BK436)|((with_reducible refine gate_callee (f:=60) rfl ?_);refine goesL_ (some 6) rfl rfl Try.func60 Q1 rfl #[.agg #[.int .i64 a0_0,.int .i64 a0_1]] rfl Q79 ?_;(with_reducible refine (spec_TimeOk.calls a0_0 a0_1 true _ A3.out).mono ?_);rintro e w28 ⟨rfl,hb⟩;refine ⟨_,rfl,?_⟩;have n0_:=am (blk_below (g:=gb436) (o:=.cells #[.int .i64 a0_0,.int .i64 a0_1] 36 (0,0)) Q66 hb);have n1_:=am (blk_below (g:=gb437) (o:=.cells #[.int .i64 a1_0,.int .i64 a1_1] 36 (0,0)) Q67 hb);have n2_:=am (blk_below (g:=gb438) (o:=.cells #[.int .i64 0,.int .i64 0] 36 (0,0)) Q68 hb);have n3_:=am (below_step Q151 hb);clear BK436 BK437 BK438 HB;have BK436:=n0_;have BK437:=n1_;have BK438:=n2_;have HB:=n3_;clear n0_ n1_ n2_ n3_;(try clear hb);(try clear hb2);(try clear hk);(try clear hi);have hnb29:=NB437_438.out;have hnc29:=NB438_437.out;obtain ⟨hcz30_0,hcz30_1,hfz30_0,hfz30_1⟩:=bx2_ BK437)|(go_at_call 60;(with_reducible refine (spec_TimeOk.calls a1_0 a1_1 false _ A5.out).mono ?_);rintro e w31 ⟨rfl,hb⟩;have n0_:=am (blk_below (g:=gb436) (o:=.cells #[.int .i64 a0_0,.int .i64 a0_1] 36 (0,0)) Q66 hb);have n1_:=am (blk_below (g:=gb437) (o:=.cells #[.int .i64 a1_0,.int .i64 a1_1] 36 (0,0)) Q67 hb);have n2_:=am (blk_below (g:=gb438) (o:=.cells #[.int .i64 0,.int .i64 0] 36 (0,0)) Q68 hb);have n3_:=am (below_step Q151 hb);clear BK436 BK437 BK438 HB;have BK436:=n0_;have BK437:=n1_;have BK438:=n2_;have HB:=n3_;clear n0_ n1_ n2_ n3_;(try clear hb);(try clear hb2);(try clear hk);(try clear hi);obtain ⟨hcz32_0,hcz32_1,hfz32_0,hfz32_1⟩:=bx2_ BK438))
   refine bodyPost_ret (results_cell_row rfl _ _ gb438 36 #[.int .i64 0,.int .i64 0] (0,0) _ rfl (by (with_reducible repeat (first|refine blk_drewN ?_ _|refine blk_drew ?_|refine blk_alloc ?_ _));refine blk_put (cs:=#[.int .i64 0,.int .i64 0]) ?_ 1 _ rfl;(with_reducible repeat (first|refine blk_drewN ?_ _|refine blk_drew ?_|refine blk_alloc ?_ _));refine blk_put (cs:=#[.int .i64 0,.int .i64 0]) ?_ 0 _ rfl;(with_reducible repeat (first|refine blk_drewN ?_ _|refine blk_drew ?_|refine blk_alloc ?_ _));exact BK438.out) Try.underlying36 rfl Q1) rfl ?_
   exact ⟨Q17,Q151⟩
 ·replace c4:=Bool.eq_false_iff.mpr c4
  subst c4
  have H1 : (some (0,0)) = some (r1,r2):=by rw [if_neg (show ¬ (false = true) by decide)] at H;exact H
  clear H
  have H:=H1
  clear H1
  simp only [Option.some.injEq,Prod.mk.injEq] at H
  obtain ⟨rfl,rfl⟩:=H
  go_enter Try.func87,Try.ntmps87
  go_wp2_with (first|((with_reducible refine gate_dst (N:=2) rfl ?_);refine box_event ?hg (N:=2) ?hd (cs:=#[.int .i64 a0_0,.int .i64 a0_1]) (t:=36) ?hr ?_;(case hd=>rfl);(case hg=>rfl);(case hr=>first|(go_simp;done)|(go_simp;rfl));intro gb436 hg w33 hbox hb;have n0_:=am (below_step Q77 hb);have n1_:=am (hbox);have n2_:=am ((Q167 : w.heap.size ≤ gb436));have n3_:=n2_;clear HB;have HB:=n0_;have BK436:=n1_;have GW436:=n2_;have GE436:=n3_;clear n0_ n1_ n2_ n3_;clear hb hbox hg)|((with_reducible refine gate_dst (N:=3) rfl ?_);refine box_event ?hg (N:=3) ?hd (cs:=#[.int .i64 a1_0,.int .i64 a1_1]) (t:=36) ?hr ?_;(case hd=>rfl);(case hg=>rfl);(case hr=>first|(go_simp;done)|(go_simp;rfl));intro gb437 hg w34 hbox hb;have n0_:=am (blk_below (g:=gb436) (o:=.cells #[.int .i64 a0_0,.int .i64 a0_1] 36 (0,0)) Q66 hb);have n1_:=am (below_step Q102 hb);have n2_:=am (hbox);have n3_:=am ((by rw [hg];exact (below_size Q102) : w.heap.size ≤ gb437));have n4_:=n3_;have n5_:=am ((Q193 : gb436 ≠ gb437));have n6_:=am ((Q194 : gb437 ≠ gb436));clear BK436 HB;have BK436:=n0_;have HB:=n1_;have BK437:=n2_;have GW437:=n3_;have GE437:=n4_;have NB436_437:=n5_;have NB437_436:=n6_;clear n0_ n1_ n2_ n3_ n4_ n5_ n6_;clear hb hbox hg)|((with_reducible refine gate_dst (N:=4) rfl ?_);refine box_event ?hg (N:=4) ?hd (cs:=#[.int .i64 0,.int .i64 0]) (t:=36) ?hr ?_;(case hd=>rfl);(case hg=>rfl);(case hr=>first|(go_simp;done)|(go_simp;rfl));intro gb438 hg w35 hbox hb;have n0_:=am (blk_below (g:=gb436) (o:=.cells #[.int .i64 a0_0,.int .i64 a0_1] 36 (0,0)) Q66 hb);have n1_:=am (blk_below (g:=gb437) (o:=.cells #[.int .i64 a1_0,.int .i64 a1_1] 36 (0,0)) Q67 hb);have n2_:=am (below_step Q135 hb);have n3_:=am (hbox);have n4_:=am ((by rw [hg];exact (below_size Q135) : w.heap.size ≤ gb438));have n5_:=n4_;have n6_:=am ((Q193 : gb436 ≠ gb438));have n7_:=am ((Q194 : gb438 ≠ gb436));have n8_:=am ((Q195 : gb437 ≠ gb438));have n9_:=am ((Q196 : gb438 ≠ gb437));clear BK436 BK437 HB;have BK436:=n0_;have BK437:=n1_;have HB:=n2_;have BK438:=n3_;have GW438:=n4_;have GE438:=n5_;have NB436_438:=n6_;have NB438_436:=n7_;have NB437_438:=n8_;have NB438_437:=n9_;clear n0_ n1_ n2_ n3_ n4_ n5_ n6_ n7_ n8_ n9_;clear hb hbox hg;have hnb36:=NB436_437.out;have hnc36:=NB437_436.out;have hnb37:=NB436_438.out;have hnc37:=NB438_436.out;obtain ⟨hcz38_0,hcz38_1,hfz38_0,hfz38_1⟩:=bx2_ BK436)|((with_reducible refine gate_callee (f:=60) rfl ?_);refine goesL_ (some 6) rfl rfl Try.func60 Q1 rfl #[.agg #[.int .i64 a0_0,.int .i64 a0_1]] rfl Q79 ?_;(with_reducible refine (spec_TimeOk.calls a0_0 a0_1 false _ A3.out).mono ?_);rintro e w39 ⟨rfl,hb⟩;refine ⟨_,rfl,?_⟩;have n0_:=am (blk_below (g:=gb436) (o:=.cells #[.int .i64 a0_0,.int .i64 a0_1] 36 (0,0)) Q66 hb);have n1_:=am (blk_below (g:=gb437) (o:=.cells #[.int .i64 a1_0,.int .i64 a1_1] 36 (0,0)) Q67 hb);have n2_:=am (blk_below (g:=gb438) (o:=.cells #[.int .i64 0,.int .i64 0] 36 (0,0)) Q68 hb);have n3_:=am (below_step Q151 hb);clear BK436 BK437 BK438 HB;have BK436:=n0_;have BK437:=n1_;have BK438:=n2_;have HB:=n3_;clear n0_ n1_ n2_ n3_;(try clear hb);(try clear hb2);(try clear hk);(try clear hi);have hnb40:=NB438_437.out;have hnc40:=NB437_438.out;obtain ⟨hcz41_0,hcz41_1,hfz41_0,hfz41_1⟩:=bx2_ BK438))
  refine bodyPost_ret (results_cell_row rfl _ _ gb438 36 #[.int .i64 0,.int .i64 0] (0,0) _ rfl (by (with_reducible repeat (first|refine blk_drewN ?_ _|refine blk_drew ?_|refine blk_alloc ?_ _));refine blk_put (cs:=#[.int .i64 0,.int .i64 0]) ?_ 1 _ rfl;(with_reducible repeat (first|refine blk_drewN ?_ _|refine blk_drew ?_|refine blk_alloc ?_ _));refine blk_put (cs:=#[.int .i64 0,.int .i64 0]) ?_ 0 _ rfl;(with_reducible repeat (first|refine blk_drewN ?_ _|refine blk_drew ?_|refine blk_alloc ?_ _));exact BK438.out) Try.underlying36 rfl Q1) rfl ?_
  exact ⟨Q17,Q151⟩
mutual
def spec_FrontMove.j0 : Nat → List (S36) → Bool → Int → Int → Option (Int × Int)
 | 0, _, _, _, _ => none
 | k + 1, x0, x14, x442000, x442001 => if x14 = true then (some (0, 0)) else (if (x0.length : Int) = 0 then (some (x442000, x442001)) else (if 0 < (x0.length : Int) then ((spec_TimeJoin.f ((rd_T36 x0 0).f0) ((rd_T36 x0 0).f1) x442000 x442001).bind fun bt446 => (spec_FrontMove.l0 k x0 1 x442000 x442001 bt446.1 bt446.2)) else (none)))
def spec_FrontMove.l0 : Nat → List (S36) → Int → Int → Int → Int → Int → Option (Int × Int)
 | 0, _, _, _, _, _, _ => none
 | k + 1, x0, x6, x442000, x442001, x449000, x449001 => if x6 < (x0.length : Int) then (if 0 ≤ x6 then ((spec_TimeJoin.f ((rd_T36 x0 x6).f0) ((rd_T36 x0 x6).f1) x442000 x442001).bind fun bt450 => ((spec_TimeMeet.f x449000 x449001 bt450.1 bt450.2).bind fun bt452 => (spec_FrontMove.l0 k x0 (wrap64 (x6 + 1)) x442000 x442001 bt452.1 bt452.2))) else (none)) else (some (x449000, x449001))
end
def spec_FrontMove.f (k : Nat) (l0 : List (S36)) (a1_0 : Int) (a1_1 : Int) : Option (Int × Int) := (spec_FrontOk.f k l0).bind fun t443 => (if t443 = true then ((spec_TimeOk.f a1_0 a1_1).bind fun t444 => (spec_FrontMove.j0 k l0 (!t444) a1_0 a1_1)) else (spec_FrontMove.j0 k l0 true a1_0 a1_1))
def spec_FrontMove.T9 : Bool × List (List Nat × List Nat) := (true, [([], []), ([], []), ([], []), ([1, 2], [1, 2]), ([3], [3]), ([], []), ([4, 5], [4, 5]), ([0, 6, 6], [0, 6]), ([7, 7, 0, 1, 2, 3, 4, 5, 6, 7], [7])])
def spec_FrontMove.B9 : List Nat := [0, 0, 0, 6, 14, 0, 62, 127, 255]
theorem spec_FrontMove.tab9 : rtab .any (opsOf Try.f56 9) = spec_FrontMove.T9:=by kernel_rfl
theorem spec_FrontMove.bits9 : waitsOk spec_FrontMove.T9.2 spec_FrontMove.B9 = true:=by kernel_rfl
set_option maxHeartbeats 8000000 in
set_option maxRecDepth 100000 in
theorem spec_FrontMove.calls (k : Nat) (A0 : Option Addr) (c0 : Nat) (l0 : List (S36)) (a1_0 : Int) (a1_1 : Int) (r1 : Int) (r2 : Int) (w : World) (hr0 : Kd.C k36 w A0 l0.length l0) (hc0 : l0.length ≤ c0) (h : spec_FrontMove.f k l0 a1_0 a1_1 = some (r1,r2)) :
  Calls Try.prog 56 #[.slice A0 l0.length c0,.agg #[.int .i64 a1_0,.int .i64 a1_1]] w fun e w'=>e = .returned (.agg #[.int .i64 r1,.int .i64 r2]) ∧ Below w.heap.size w w':=by
 have hu36:=Try.underlying36
 have HR0:=Aside0.mk hr0
 have HC0:=Aside0.mk hc0
 clear hr0 hc0
 have HB:=am (Below.refl w.heap.size w)
 have H : ((spec_FrontOk.f k l0).bind fun t443=>(if t443 = true then ((spec_TimeOk.f a1_0 a1_1).bind fun t444=>(spec_FrontMove.j0 k l0 (!t444) a1_0 a1_1)) else (spec_FrontMove.j0 k l0 true a1_0 a1_1))) = some (r1,r2):=h
 clear h
 have HC3:=Aside0.mk H
 clear H
 go_enter Try.func56,Try.ntmps56
 go_upto_region 1 with (first|((with_reducible refine gate_dst (N:=3) rfl ?_);refine box_event ?hg (N:=3) ?hd (cs:=#[.int .i64 a1_0,.int .i64 a1_1]) (t:=36) ?hr ?_;(case hd=>rfl);(case hg=>rfl);(case hr=>first|(go_simp;done)|(go_simp;rfl));intro gb441 hg w4 hbox hb;have n0_:=am (below_step Q77 hb);have n1_:=am (hbox);have n2_:=am ((Q167 : w.heap.size ≤ gb441));have n3_:=n2_;clear HB;have HB:=n0_;have BK441:=n1_;have GW441:=n2_;have GE441:=n3_;clear n0_ n1_ n2_ n3_;clear hb hbox hg)|((with_reducible refine gate_dst (N:=4) rfl ?_);refine box_event ?hg (N:=4) ?hd (cs:=#[.int .i64 0,.int .i64 0]) (t:=36) ?hr ?_;(case hd=>rfl);(case hg=>rfl);(case hr=>first|(go_simp;done)|(go_simp;rfl));intro gb442 hg w5 hbox hb;have n0_:=am (blk_below (g:=gb441) (o:=.cells #[.int .i64 a1_0,.int .i64 a1_1] 36 (0,0)) Q69 hb);have n1_:=am (below_step (by repeat (first|(with_reducible first|exact HB.out|apply below_alloc|apply pw_below_drewN|apply below_drew1|refine below_set ?_ GE441.out)|exact HB.out)) hb);have n2_:=am (hbox);have n3_:=am ((by rw [hg];exact (below_size (by repeat (first|(with_reducible first|exact HB.out|apply below_alloc|apply pw_below_drewN|apply below_drew1|refine below_set ?_ GE441.out)|exact HB.out))) : w.heap.size ≤ gb442));have n4_:=n3_;have n5_:=am ((Q197 : gb441 ≠ gb442));have n6_:=am ((Q198 : gb442 ≠ gb441));clear BK441 HB;have BK441:=n0_;have HB:=n1_;have BK442:=n2_;have GW442:=n3_;have GE442:=n4_;have NB441_442:=n5_;have NB442_441:=n6_;clear n0_ n1_ n2_ n3_ n4_ n5_ n6_;clear hb hbox hg))
 (try simp only [Act.put,sA_,sZ_,sS_])
 go_cut [14] (fun v14 wc=>∃ (kq : Nat) (x14_2 : Bool),v14 = .bool x14_2 ∧ Aside0 (spec_FrontMove.j0 kq l0 x14_2 a1_0 a1_1 = some (r1,r2)) ∧ Aside0 (kq ≤ k) ∧ Aside0 (wc.heap[gb441]? = some (.cells #[.int .i64 a1_0,.int .i64 a1_1] 36 (0,0))) ∧ Aside0 (wc.heap[gb442]? = some (.cells #[.int .i64 0,.int .i64 0] 36 (0,0))) ∧ Aside0 (Below w.heap.size w wc))
 case first =>
  have H:=HC3.out
  clear HC3
  replace H:=Option.bind_eq_some_iff.mp H
  obtain ⟨t443,A60,H⟩:=H
  replace H : (if t443 = true then ((spec_TimeOk.f a1_0 a1_1).bind fun t444=>(spec_FrontMove.j0 k l0 (!t444) a1_0 a1_1)) else (spec_FrontMove.j0 k l0 true a1_0 a1_1)) = some (r1,r2):=H
  have A6:=Aside0.mk A60
  clear A60
  by_cases c7 : t443 = true
  ·subst c7
   have H1 : ((spec_TimeOk.f a1_0 a1_1).bind fun t444=>(spec_FrontMove.j0 k l0 (!t444) a1_0 a1_1)) = some (r1,r2):=by rw [if_pos rfl] at H;exact H
   clear H
   have H:=H1
   clear H1
   replace H:=Option.bind_eq_some_iff.mp H
   obtain ⟨t444,A80,H⟩:=H
   replace H : (spec_FrontMove.j0 k l0 (!t444) a1_0 a1_1) = some (r1,r2):=H
   have A8:=Aside0.mk A80
   clear A80
   have H':=Aside0.mk H
   clear H
   go_wp2_with (first|((with_reducible refine gate_callee (f:=21) rfl ?_);refine goesL_ (some 8) rfl rfl Try.func21 Q1 rfl #[.slice A0 l0.length c0] rfl Q79 ?_;(with_reducible refine (spec_FrontOk.calls k _ _ l0 true _ ?side1 ?side2 A6.out).mono ?_);(case side1=>exact Q109);(case side2=>exact HC0.out);rintro e w9 ⟨rfl,hb⟩;refine ⟨_,rfl,?_⟩;have n0_:=am (blk_below (g:=gb441) (o:=.cells #[.int .i64 a1_0,.int .i64 a1_1] 36 (0,0)) Q69 hb);have n1_:=am (blk_below (g:=gb442) (o:=.cells #[.int .i64 0,.int .i64 0] 36 (0,0)) Q70 hb);have n2_:=am (below_step Q136 hb);clear BK441 BK442 HB;have BK441:=n0_;have BK442:=n1_;have HB:=n2_;clear n0_ n1_ n2_;(try clear hb);(try clear hb2);(try clear hk);(try clear hi);have hnb10:=NB441_442.out;have hnc10:=NB442_441.out;obtain ⟨hcz11_0,hcz11_1,hfz11_0,hfz11_1⟩:=bx2_ BK441)|(go_at_call 60;(with_reducible refine (spec_TimeOk.calls a1_0 a1_1 t444 _ A8.out).mono ?_);rintro e w12 ⟨rfl,hb⟩;have n0_:=am (blk_below (g:=gb441) (o:=.cells #[.int .i64 a1_0,.int .i64 a1_1] 36 (0,0)) Q69 hb);have n1_:=am (blk_below (g:=gb442) (o:=.cells #[.int .i64 0,.int .i64 0] 36 (0,0)) Q70 hb);have n2_:=am (below_step Q136 hb);clear BK441 BK442 HB;have BK441:=n0_;have BK442:=n1_;have HB:=n2_;clear n0_ n1_ n2_;(try clear hb);(try clear hb2);(try clear hk);(try clear hi)))
   go_meet
   case rel=>exact ⟨_,(!t444),Q5,H',⟨Q3⟩,⟨Q69⟩,⟨Q70⟩,⟨Q136⟩⟩
  ·replace c7:=Bool.eq_false_iff.mpr c7
   subst c7
   have H1 : (spec_FrontMove.j0 k l0 true a1_0 a1_1) = some (r1,r2):=by rw [if_neg (show ¬ (false = true) by decide)] at H;exact H
   clear H
   have H:=H1
   clear H1
   have H':=Aside0.mk H
   clear H
   go_wp2_with (first|((with_reducible refine gate_callee (f:=21) rfl ?_);refine goesL_ (some 8) rfl rfl Try.func21 Q1 rfl #[.slice A0 l0.length c0] rfl Q79 ?_;(with_reducible refine (spec_FrontOk.calls k _ _ l0 false _ ?side1 ?side2 A6.out).mono ?_);(case side1=>exact Q109);(case side2=>exact HC0.out);rintro e w13 ⟨rfl,hb⟩;refine ⟨_,rfl,?_⟩;have n0_:=am (blk_below (g:=gb441) (o:=.cells #[.int .i64 a1_0,.int .i64 a1_1] 36 (0,0)) Q69 hb);have n1_:=am (blk_below (g:=gb442) (o:=.cells #[.int .i64 0,.int .i64 0] 36 (0,0)) Q70 hb);have n2_:=am (below_step Q136 hb);clear BK441 BK442 HB;have BK441:=n0_;have BK442:=n1_;have HB:=n2_;clear n0_ n1_ n2_;(try clear hb);(try clear hb2);(try clear hk);(try clear hi)))
   go_meet
   case rel=>exact ⟨_,(true),Q5,H',⟨Q3⟩,⟨Q69⟩,⟨Q70⟩,⟨Q136⟩⟩
 case rest =>
  clear HC3
  try clear c1
  try clear c2
  try clear p2
  try clear c5
  try clear c7
  try clear c10
  try clear hcz11_0
  try clear hcz11_1
  try clear hfz11_0
  try clear hfz11_1
  obtain ⟨kq,x14_2,rfl,HA,HJ2,BK441,BK442,HB⟩:=hcut
  cases kq with
  | zero=>exact absurd HA.out (by simp [spec_FrontMove.j0])
  | succ kj2 =>
   have H:=HA.out
   clear HA
   simp only [spec_FrontMove.j0] at H
   by_cases c14 : x14_2 = true
   ·subst c14
    have H1 : (some (0,0)) = some (r1,r2):=by rw [if_pos rfl] at H;exact H
    clear H
    have H:=H1
    clear H1
    simp only [Option.some.injEq,Prod.mk.injEq] at H
    obtain ⟨rfl,rfl⟩:=H
    have hnb15:=NB442_441.out
    have hnc15:=NB441_442.out
    have hcz16_0 : wc.cell? ⟨gb442,0,none⟩ = some (.int .i64 0):=(blk_cell BK442.out 0).trans rfl
    have hcz16_1 : wc.cell? ⟨gb442,1,none⟩ = some (.int .i64 0):=(blk_cell BK442.out 1).trans rfl
    have hfz16_0:=blk_frozen BK442.out 0
    have hfz16_1:=blk_frozen BK442.out 1
    go_wp2
    refine bodyPost_ret (results_cell_row rfl _ _ gb442 36 #[.int .i64 0,.int .i64 0] (0,0) _ rfl (by (with_reducible repeat (first|refine blk_drewN ?_ _|refine blk_drew ?_|refine blk_alloc ?_ _));refine blk_put (cs:=#[.int .i64 0,.int .i64 0]) ?_ 1 _ rfl;(with_reducible repeat (first|refine blk_drewN ?_ _|refine blk_drew ?_|refine blk_alloc ?_ _));refine blk_put (cs:=#[.int .i64 0,.int .i64 0]) ?_ 0 _ rfl;(with_reducible repeat (first|refine blk_drewN ?_ _|refine blk_drew ?_|refine blk_alloc ?_ _));exact BK442.out) Try.underlying36 rfl Q1) rfl ?_
    exact ⟨Q17,Q136⟩
   ·replace c14:=Bool.eq_false_iff.mpr c14
    subst c14
    have H1 : (if (l0.length : Int) = 0 then (some (a1_0,a1_1)) else (if 0 < (l0.length : Int) then ((spec_TimeJoin.f ((rd_T36 l0 0).f0) ((rd_T36 l0 0).f1) a1_0 a1_1).bind fun bt446=>(spec_FrontMove.l0 kj2 l0 1 a1_0 a1_1 bt446.1 bt446.2)) else (none))) = some (r1,r2):=by rw [if_neg (show ¬ (false = true) by decide)] at H;exact H
    clear H
    have H:=H1
    clear H1
    by_cases c17 : (l0.length : Int) = 0
    ·rw [if_pos c17] at H
     have c17b0 : ((l0.length : Int) == 0) = true:=beq_iff_eq.mpr c17
     have c17b1 : ((l0.length : Int) != 0) = false:=bne_eq_false_iff_eq.mpr c17
     clear c17
     simp only [Option.some.injEq,Prod.mk.injEq] at H
     obtain ⟨rfl,rfl⟩:=H
     have hnb18:=NB441_442.out
     have hnc18:=NB442_441.out
     have hcz19_0 : wc.cell? ⟨gb441,0,none⟩ = some (.int .i64 a1_0):=(blk_cell BK441.out 0).trans rfl
     have hcz19_1 : wc.cell? ⟨gb441,1,none⟩ = some (.int .i64 a1_1):=(blk_cell BK441.out 1).trans rfl
     have hfz19_0:=blk_frozen BK441.out 0
     have hfz19_1:=blk_frozen BK441.out 1
     have hcz20_0 : wc.cell? ⟨gb442,0,none⟩ = some (.int .i64 0):=(blk_cell BK442.out 0).trans rfl
     have hcz20_1 : wc.cell? ⟨gb442,1,none⟩ = some (.int .i64 0):=(blk_cell BK442.out 1).trans rfl
     have hfz20_0:=blk_frozen BK442.out 0
     have hfz20_1:=blk_frozen BK442.out 1
     go_wp2
     refine bodyPost_ret (results_cell_row rfl _ _ gb442 36 #[.int .i64 a1_0,.int .i64 a1_1] (0,0) _ rfl (by (with_reducible repeat (first|refine blk_drewN ?_ _|refine blk_drew ?_|refine blk_alloc ?_ _));refine blk_put (cs:=#[.int .i64 a1_0,.int .i64 0]) ?_ 1 _ rfl;(with_reducible repeat (first|refine blk_drewN ?_ _|refine blk_drew ?_|refine blk_alloc ?_ _));refine blk_put (cs:=#[.int .i64 0,.int .i64 0]) ?_ 0 _ rfl;(with_reducible repeat (first|refine blk_drewN ?_ _|refine blk_drew ?_|refine blk_alloc ?_ _));exact BK442.out) Try.underlying36 rfl Q1) rfl ?_
     exact ⟨Q17,Q136⟩
    ·rw [if_neg c17] at H
     have c17b0 : ((l0.length : Int) == 0) = false:=beq_eq_false_iff_ne.mpr c17
     have c17b1 : ((l0.length : Int) != 0) = true:=bne_iff_ne.mpr c17
     have c17b2 : ¬ (l0 = []):=fun h_=>c17 (by rw [h_];rfl)
     have c21 : 0 < (l0.length : Int):=nn_ H
     rw [if_pos c21] at H
     have c21b0 : decide (0 < (l0.length : Int)) = true:=decide_eq_true c21
     have c21b1 : decide (0 < l0.length) = true:=decide_eq_true (by omega)
     clear c21
     replace H:=Option.bind_eq_some_iff.mp H
     obtain ⟨⟨t446,t447⟩,A220,H⟩:=H
     replace H : (spec_FrontMove.l0 kj2 l0 1 a1_0 a1_1 t446 t447) = some (r1,r2):=H
     have A22:=Aside0.mk A220
     clear A220
     have H':=Aside0.mk H
     clear H
     try go_wp2
     have n0_:=am (blk_drew BK441.out)
     have n1_:=am (blk_drew BK442.out)
     have n2_:=am (below_drew1 HB.out)
     clear BK441
     clear BK442
     clear HB
     have BK441:=n0_
     have BK442:=n1_
     have HB:=n2_
     clear n0_ n1_ n2_
     have p445 : 0 ≤ (0 : Int):=(by omega)
     have q445 : 0 < (l0.length : Int):=of_decide_eq_true Q6
     obtain ⟨ad445,e445,hx445_0,hx445_1⟩:=at_T36 HR0.out 0 p445 q445
     have hw445_1:=hx445_1
     (try rw [show ((0 : Int)).toNat = 0 from rfl] at hw445_1)
     (try rw [show 0 * 2 = 0 from rfl] at hw445_1)
     (try rw [Addr.add_zero'] at hw445_1)
     have hw445_0:=hx445_0
     (try rw [show ((0 : Int)).toNat = 0 from rfl] at hw445_0)
     (try rw [show 0 * 2 = 0 from rfl] at hw445_0)
     (try rw [Addr.add_zero'] at hw445_0)
     cases e445
     have qi445 : (0 < l0.length) = True:=eq_true (by omega)
     (try rw [show ((0 : Int)).toNat = 0 from rfl] at hx445_0)
     (try rw [show 0 * 2 = 0 from rfl] at hx445_0)
     (try rw [Addr.add_zero'] at hx445_0)
     (try rw [show ((0 : Int)).toNat = 0 from rfl] at hx445_1)
     (try rw [show 0 * 2 = 0 from rfl] at hx445_1)
     (try rw [Addr.add_zero'] at hx445_1)
     replace hx445_0:=cb_ HB hx445_0
     replace hx445_1:=cb_ HB hx445_1
     replace p445:=eq_true p445
     replace q445:=eq_true q445
     refine start_ (n:=7) (S:=fun w'=>w'.cell? ⟨gb441,0,none⟩ = some (.int .i64 a1_0) ∧ w'.cell? ⟨gb441,1,none⟩ = some (.int .i64 a1_1) ∧ w'.cell? ad445 = some (.int .i64 ((rd_T36 l0 0).f0)) ∧ w'.cell? ⟨ad445.block,ad445.off + 1,none⟩ = some (.int .i64 ((rd_T36 l0 0).f1))) (ds:=[]) b7_0 Q1 rfl rfl ⟨(blk_cell BK441.out 0).trans rfl,(blk_cell BK441.out 1).trans rfl,(cb_ HB hw445_0:),(cb_ HB hw445_1:)⟩ (fun hHeld=>?_)
     generalize wc.drew = w23 at BK441 BK442 HB hx445_0 hx445_1 hHeld ⊢
     refine pU_ 0 20 b7_1 ?_
     refine pU_ 1 21 b7_2 ?_
     refine tU_ 2 22 b7_3 hHeld ?_
     refine tU_ 3 23 b7_4 hHeld ?_
     refine join_ (σ:=Nat) 1 b7_6 (fun s_=>[(24,.agg #[.int .i64 t446,.int .i64 t447]),(5,.pointer (some ⟨s_,0,none⟩))]) (fun s_ w'=>(w'.cell? ⟨gb441,0,none⟩ = some (.int .i64 a1_0) ∧ w'.cell? ⟨gb441,1,none⟩ = some (.int .i64 a1_1) ∧ w'.cell? ad445 = some (.int .i64 ((rd_T36 l0 0).f0)) ∧ w'.cell? ⟨ad445.block,ad445.off + 1,none⟩ = some (.int .i64 ((rd_T36 l0 0).f1))) ∧ (w'.heap[gb441]? = some (.cells #[.int .i64 a1_0,.int .i64 a1_1] 36 (0,0))) ∧ (w'.heap[gb442]? = some (.cells #[.int .i64 0,.int .i64 0] 36 (0,0))) ∧ (w'.heap[s_]? = some (.cells #[.int .i64 0,.int .i64 0] 36 (0,0))) ∧ (w.heap.size ≤ s_) ∧ (w.heap.size ≤ s_) ∧ (gb441 ≠ s_) ∧ (s_ ≠ gb441) ∧ (gb442 ≠ s_) ∧ (s_ ≠ gb442) ∧ (Below w.heap.size w w')) ?_ ?_
     rotate_left
     ·intro hCont
      refine two_ (i:=4) (j:=5) (Ni:=some 24) (Nj:=some 5) b7_5 c90 rfl rfl rfl rfl Q1 Q0 Q0 (fun K hK=>?_) (fun K hK=>?_)
      ·skip
       refine goes_ Try.func86 Q1 rfl #[.agg #[.int .i64 ((rd_T36 l0 0).f0),.int .i64 ((rd_T36 l0 0).f1)],.agg #[.int .i64 a1_0,.int .i64 a1_1]] (by rfl) rfl rfl Q79 ?_
       with_reducible refine (spec_TimeJoin.calls ((rd_T36 l0 0).f0) ((rd_T36 l0 0).f1) a1_0 a1_1 t446 t447 _ A22.out).mono ?_
       rintro e w24 ⟨rfl,hb⟩
       refine ⟨_,rfl,?_⟩
       have n0_:=am (blk_below (g:=gb441) (o:=.cells #[.int .i64 a1_0,.int .i64 a1_1] 36 (0,0)) Q69 hb)
       have n1_:=am (blk_below (g:=gb442) (o:=.cells #[.int .i64 0,.int .i64 0] 36 (0,0)) Q70 hb)
       have n2_:=am (below_step Q136 hb)
       clear BK441
       clear BK442
       clear HB
       have BK441:=n0_
       have BK442:=n1_
       have HB:=n2_
       clear n0_ n1_ n2_
       (try clear hb)
       (try clear hb2)
       (try clear hk)
       (try clear hi)
       refine hK.out _ _ ⟨(blk_cell BK441.out 0).trans rfl,(blk_cell BK441.out 1).trans rfl,(cb_ HB hw445_0:),(cb_ HB hw445_1:)⟩ (fun hHeld=>?_)
       clear hK K
       refine norm_ (a':=?_) ?_ ?_
       rotate_left
       ·show Act.put _ (some 24) _ = _
        simp only [Act.put,sA_,sZ_,sS_,i64_w,i32_w]
        rfl
       refine one_ (i:=5) (N:=some 5) b7_6 rfl rfl Q1 Q0 (fun K hK=>?_)
       refine box_step ?hg (N:=5) ?hd (cs:=#[.int .i64 0,.int .i64 0]) (t:=36) ?hr ?_;(case hd=>rfl);(case hg=>rfl);(case hr=>first|(go_simp;done)|(go_simp;rfl))
       intro gb448 hg w25 hbox hb
       have n0_:=am (blk_below (g:=gb441) (o:=.cells #[.int .i64 a1_0,.int .i64 a1_1] 36 (0,0)) Q69 hb)
       have n1_:=am (blk_below (g:=gb442) (o:=.cells #[.int .i64 0,.int .i64 0] 36 (0,0)) Q70 hb)
       have n2_:=am (below_step Q136 hb)
       have n3_:=am (hbox)
       have n4_:=am ((by rw [hg];exact (below_size Q136) : w.heap.size ≤ gb448))
       have n5_:=am ((by rw [hg];exact (below_size Q136) : w.heap.size ≤ gb448))
       have n6_:=am ((Q197 : gb441 ≠ gb448))
       have n7_:=am ((Q198 : gb448 ≠ gb441))
       have n8_:=am ((by rw [hg];exact Nat.ne_of_lt (blk_lt (g:=gb442) (o:=.cells #[.int .i64 0,.int .i64 0] 36 (0,0)) Q70) : gb442 ≠ gb448))
       have n9_:=am ((by rw [hg];exact Nat.ne_of_gt (blk_lt (g:=gb442) (o:=.cells #[.int .i64 0,.int .i64 0] 36 (0,0)) Q70) : gb448 ≠ gb442))
       clear BK441
       clear BK442
       clear HB
       have BK441:=n0_
       have BK442:=n1_
       have HB:=n2_
       have BK448:=n3_
       have GW448:=n4_
       have GE448:=n5_
       have NB441_448:=n6_
       have NB448_441:=n7_
       have NB442_448:=n8_
       have NB448_442:=n9_
       clear n0_ n1_ n2_ n3_ n4_ n5_ n6_ n7_ n8_ n9_
       clear hb hbox hg
       refine hK.out _ _ ⟨(blk_cell BK441.out 0).trans rfl,(blk_cell BK441.out 1).trans rfl,(cb_ HB hw445_0:),(cb_ HB hw445_1:)⟩ (fun hHeld=>?_)
       clear hK K
       refine norm_ (a':=?_) ?_ ?_
       rotate_left
       ·show Act.put _ (some 5) _ = _
        simp only [Act.put,sA_,sZ_,sS_,i64_w,i32_w]
        rfl
       exact norm_ Q18 (hCont (gb448) _ ⟨hHeld,Q69,Q70,Q71,GW448.out,GE448.out,NB441_448.out,NB448_441.out,NB442_448.out,NB448_442.out,Q152⟩)
      ·skip
       refine box_step ?hg (N:=5) ?hd (cs:=#[.int .i64 0,.int .i64 0]) (t:=36) ?hr ?_;(case hd=>rfl);(case hg=>rfl);(case hr=>first|(go_simp;done)|(go_simp;rfl))
       intro gb448 hg w24 hbox hb
       have n0_:=am (blk_below (g:=gb441) (o:=.cells #[.int .i64 a1_0,.int .i64 a1_1] 36 (0,0)) Q69 hb)
       have n1_:=am (blk_below (g:=gb442) (o:=.cells #[.int .i64 0,.int .i64 0] 36 (0,0)) Q70 hb)
       have n2_:=am (below_step Q136 hb)
       have n3_:=am (hbox)
       have n4_:=am ((by rw [hg];exact (below_size Q136) : w.heap.size ≤ gb448))
       have n5_:=am ((by rw [hg];exact (below_size Q136) : w.heap.size ≤ gb448))
       have n6_:=am ((Q197 : gb441 ≠ gb448))
       have n7_:=am ((Q198 : gb448 ≠ gb441))
       have n8_:=am ((by rw [hg];exact Nat.ne_of_lt (blk_lt (g:=gb442) (o:=.cells #[.int .i64 0,.int .i64 0] 36 (0,0)) Q70) : gb442 ≠ gb448))
       have n9_:=am ((by rw [hg];exact Nat.ne_of_gt (blk_lt (g:=gb442) (o:=.cells #[.int .i64 0,.int .i64 0] 36 (0,0)) Q70) : gb448 ≠ gb442))
       clear BK441
       clear BK442
       clear HB
       have BK441:=n0_
       have BK442:=n1_
       have HB:=n2_
       have BK448:=n3_
       have GW448:=n4_
       have GE448:=n5_
       have NB441_448:=n6_
       have NB448_441:=n7_
       have NB442_448:=n8_
       have NB448_442:=n9_
       clear n0_ n1_ n2_ n3_ n4_ n5_ n6_ n7_ n8_ n9_
       clear hb hbox hg
       refine hK.out _ _ ⟨(blk_cell BK441.out 0).trans rfl,(blk_cell BK441.out 1).trans rfl,(cb_ HB hw445_0:),(cb_ HB hw445_1:)⟩ (fun hHeld=>?_)
       clear hK K
       refine norm_ (a':=?_) ?_ ?_
       rotate_left
       ·show Act.put _ (some 5) _ = _
        simp only [Act.put,sA_,sZ_,sS_,i64_w,i32_w]
        rfl
       refine one_ (i:=4) (N:=some 24) b7_6 rfl rfl Q1 Q0 (fun K hK=>?_)
       refine goes_ Try.func86 Q1 rfl #[.agg #[.int .i64 ((rd_T36 l0 0).f0),.int .i64 ((rd_T36 l0 0).f1)],.agg #[.int .i64 a1_0,.int .i64 a1_1]] (by rfl) rfl rfl Q79 ?_
       with_reducible refine (spec_TimeJoin.calls ((rd_T36 l0 0).f0) ((rd_T36 l0 0).f1) a1_0 a1_1 t446 t447 _ A22.out).mono ?_
       rintro e w25 ⟨rfl,hb⟩
       refine ⟨_,rfl,?_⟩
       have n0_:=am (blk_below (g:=gb441) (o:=.cells #[.int .i64 a1_0,.int .i64 a1_1] 36 (0,0)) Q69 hb)
       have n1_:=am (blk_below (g:=gb442) (o:=.cells #[.int .i64 0,.int .i64 0] 36 (0,0)) Q70 hb)
       have n2_:=am (blk_below (g:=gb448) (o:=.cells #[.int .i64 0,.int .i64 0] 36 (0,0)) Q71 hb)
       have n3_:=am (below_step Q152 hb)
       clear BK441
       clear BK442
       clear BK448
       clear HB
       have BK441:=n0_
       have BK442:=n1_
       have BK448:=n2_
       have HB:=n3_
       clear n0_ n1_ n2_ n3_
       (try clear hb)
       (try clear hb2)
       (try clear hk)
       (try clear hi)
       refine hK.out _ _ ⟨(blk_cell BK441.out 0).trans rfl,(blk_cell BK441.out 1).trans rfl,(cb_ HB hw445_0:),(cb_ HB hw445_1:)⟩ (fun hHeld=>?_)
       clear hK K
       refine norm_ (a':=?_) ?_ ?_
       rotate_left
       ·show Act.put _ (some 24) _ = _
        simp only [Act.put,sA_,sZ_,sS_,i64_w,i32_w]
        rfl
       exact norm_ Q18 (hCont (gb448) _ ⟨hHeld,Q69,Q70,Q71,GW448.out,GE448.out,NB441_448.out,NB448_441.out,NB442_448.out,NB448_442.out,Q152⟩)
     rintro gb448 w26 ⟨hS_,h0_,h1_,h2_,h3_,h4_,h5_,h6_,h7_,h8_,h9_⟩
     have n0_ : Aside0 (w26.heap[gb441]? = some (.cells #[.int .i64 a1_0,.int .i64 a1_1] 36 (0,0))):=⟨h0_⟩
     have n1_ : Aside0 (w26.heap[gb442]? = some (.cells #[.int .i64 0,.int .i64 0] 36 (0,0))):=⟨h1_⟩
     have n2_ : Aside0 (w26.heap[gb448]? = some (.cells #[.int .i64 0,.int .i64 0] 36 (0,0))):=⟨h2_⟩
     have n3_ : Aside0 (w.heap.size ≤ gb448):=⟨h3_⟩
     have n4_ : Aside0 (w.heap.size ≤ gb448):=⟨h4_⟩
     have n5_ : Aside0 (gb441 ≠ gb448):=⟨h5_⟩
     have n6_ : Aside0 (gb448 ≠ gb441):=⟨h6_⟩
     have n7_ : Aside0 (gb442 ≠ gb448):=⟨h7_⟩
     have n8_ : Aside0 (gb448 ≠ gb442):=⟨h8_⟩
     have n9_ : Aside0 (Below w.heap.size w w26):=⟨h9_⟩
     clear BK441
     clear BK442
     clear HB
     clear h0_ h1_ h2_ h3_ h4_ h5_ h6_ h7_ h8_ h9_
     have BK441:=n0_
     have BK442:=n1_
     have BK448:=n2_
     have GW448:=n3_
     have GE448:=n4_
     have NB441_448:=n5_
     have NB448_441:=n6_
     have NB442_448:=n7_
     have NB448_442:=n8_
     have HB:=n9_
     clear n0_ n1_ n2_ n3_ n4_ n5_ n6_ n7_ n8_ n9_
     have hHeld : w26.cell? ⟨gb441,0,none⟩ = some (.int .i64 a1_0) ∧ w26.cell? ⟨gb441,1,none⟩ = some (.int .i64 a1_1) ∧ w26.cell? ad445 = some (.int .i64 ((rd_T36 l0 0).f0)) ∧ w26.cell? ⟨ad445.block,ad445.off + 1,none⟩ = some (.int .i64 ((rd_T36 l0 0).f1)):=hS_
     refine norm_ (a':=?_) ?_ ?_
     rotate_left
     ·simp only [putAll,Act.put,sA_,sZ_,sS_]
      rfl
     refine one_ (i:=6) (N:=none) b7_7 rfl rfl Q1 Q0 (fun K hK=>?_)
     have hs27 : w26.cell? ⟨gb448,0,none⟩ = some (.int .i64 0):=(blk_cell BK448.out 0).trans rfl
     have hfs27:=blk_frozen BK448.out 0
     have hns27_0:=NB441_448.out
     have hns27_1:=NB442_448.out
     have hms27_0:=NB448_441.out
     have hms27_1:=NB448_442.out
     have hs28 : w26.cell? ⟨gb448,1,none⟩ = some (.int .i64 0):=(blk_cell BK448.out 1).trans rfl
     have hfs28:=blk_frozen BK448.out 1
     have hns28_0:=NB441_448.out
     have hns28_1:=NB442_448.out
     have hms28_0:=NB448_441.out
     have hms28_1:=NB448_442.out
     refine skip_ (w1:=?_) (by rfl) rfl ?_ ?_
     rotate_left
     ·go_simp
      rfl
     refine hK.out _ _ ⟨((cell_far (p:=⟨gb448,_,none⟩) NB441_448.out _).trans (((cell_far (p:=⟨gb448,_,none⟩) NB441_448.out _).trans (hHeld.1)))),((cell_far (p:=⟨gb448,_,none⟩) NB441_448.out _).trans (((cell_far (p:=⟨gb448,_,none⟩) NB441_448.out _).trans (hHeld.2.1)))),((cell_far (p:=⟨gb448,_,none⟩) (by first|exact Nat.ne_of_lt (Nat.lt_of_lt_of_le Q15 GW448.out)|(rw [add_block];exact Nat.ne_of_lt (Nat.lt_of_lt_of_le Q15 GW448.out))|(show (Addr.add _ _).block ≠ _;rw [add_block];exact Nat.ne_of_lt (Nat.lt_of_lt_of_le Q15 GW448.out))|(dsimp only;exact Nat.ne_of_lt (Nat.lt_of_lt_of_le Q15 GW448.out))) _).trans (((cell_far (p:=⟨gb448,_,none⟩) (by first|exact Nat.ne_of_lt (Nat.lt_of_lt_of_le Q15 GW448.out)|(rw [add_block];exact Nat.ne_of_lt (Nat.lt_of_lt_of_le Q15 GW448.out))|(show (Addr.add _ _).block ≠ _;rw [add_block];exact Nat.ne_of_lt (Nat.lt_of_lt_of_le Q15 GW448.out))|(dsimp only;exact Nat.ne_of_lt (Nat.lt_of_lt_of_le Q15 GW448.out))) _).trans (hHeld.2.2.1)))),((cell_far (p:=⟨gb448,_,none⟩) (by first|exact Nat.ne_of_lt (Nat.lt_of_lt_of_le Q16 GW448.out)|(rw [add_block];exact Nat.ne_of_lt (Nat.lt_of_lt_of_le Q16 GW448.out))|(show (Addr.add _ _).block ≠ _;rw [add_block];exact Nat.ne_of_lt (Nat.lt_of_lt_of_le Q16 GW448.out))|(dsimp only;exact Nat.ne_of_lt (Nat.lt_of_lt_of_le Q16 GW448.out))) _).trans (((cell_far (p:=⟨gb448,_,none⟩) (by first|exact Nat.ne_of_lt (Nat.lt_of_lt_of_le Q16 GW448.out)|(rw [add_block];exact Nat.ne_of_lt (Nat.lt_of_lt_of_le Q16 GW448.out))|(show (Addr.add _ _).block ≠ _;rw [add_block];exact Nat.ne_of_lt (Nat.lt_of_lt_of_le Q16 GW448.out))|(dsimp only;exact Nat.ne_of_lt (Nat.lt_of_lt_of_le Q16 GW448.out))) _).trans (hHeld.2.2.2))))⟩ (fun hHeld=>?_)
     clear hK K
     refine done_ Q1 ?_
     try go_wp2
     go_loopg [6] kj2 (fun kq v6 w'=>∃ (x6_2 : Int) (x449000_2 : Int) (x449001_2 : Int),v6 = .int .i64 x6_2 ∧ Aside0 (spec_FrontMove.l0 kq l0 x6_2 a1_0 a1_1 x449000_2 x449001_2 = some (r1,r2)) ∧ Aside0 (kq ≤ kj2) ∧ Aside0 (w'.heap[gb441]? = some (.cells #[.int .i64 a1_0,.int .i64 a1_1] 36 (0,0))) ∧ Aside0 (w'.heap[gb442]? = some (.cells #[.int .i64 0,.int .i64 0] 36 (0,0))) ∧ Aside0 (w'.heap[gb448]? = some (.cells #[.int .i64 x449000_2,.int .i64 x449001_2] 36 (0,0))) ∧ Aside0 (Below w.heap.size w w'))
     case atStart=>exact ⟨(1),(t446),(t447),Q5,H',⟨Nat.le_refl _⟩,⟨by (with_reducible repeat (first|refine blk_drewN ?_ _|refine blk_drew ?_|refine blk_alloc ?_ _));refine blk_far ?_ NB441_448.out _;(with_reducible repeat (first|refine blk_drewN ?_ _|refine blk_drew ?_|refine blk_alloc ?_ _));refine blk_far ?_ NB441_448.out _;(with_reducible repeat (first|refine blk_drewN ?_ _|refine blk_drew ?_|refine blk_alloc ?_ _));exact BK441.out⟩,⟨by (with_reducible repeat (first|refine blk_drewN ?_ _|refine blk_drew ?_|refine blk_alloc ?_ _));refine blk_far ?_ NB442_448.out _;(with_reducible repeat (first|refine blk_drewN ?_ _|refine blk_drew ?_|refine blk_alloc ?_ _));refine blk_far ?_ NB442_448.out _;(with_reducible repeat (first|refine blk_drewN ?_ _|refine blk_drew ?_|refine blk_alloc ?_ _));exact BK442.out⟩,⟨by (with_reducible repeat (first|refine blk_drewN ?_ _|refine blk_drew ?_|refine blk_alloc ?_ _));refine blk_put (cs:=#[.int .i64 t446,.int .i64 0]) ?_ 1 _ rfl;(with_reducible repeat (first|refine blk_drewN ?_ _|refine blk_drew ?_|refine blk_alloc ?_ _));refine blk_put (cs:=#[.int .i64 0,.int .i64 0]) ?_ 0 _ rfl;(with_reducible repeat (first|refine blk_drewN ?_ _|refine blk_drew ?_|refine blk_alloc ?_ _));exact BK448.out⟩,⟨Q152⟩⟩
     case round =>
      clear H'
      try clear c1
      try clear c2
      try clear p2
      try clear p4
      try clear q4
      try clear hx4
      try clear qi4
      try clear c5
      try clear c7
      try clear c8
      try clear c10
      try clear c14
      try clear c15
      try clear c17
      try clear c17b0
      try clear c17b1
      try clear c17b2
      try clear c18
      try clear c21
      try clear c21b0
      try clear c21b1
      try clear hcz11_0
      try clear hcz11_1
      try clear hcz16_0
      try clear hcz16_1
      try clear hcz19_0
      try clear hcz19_1
      try clear hcz20_0
      try clear hcz20_1
      try clear hfz11_0
      try clear hfz11_1
      try clear hfz16_0
      try clear hfz16_1
      try clear hfz19_0
      try clear hfz19_1
      try clear hfz20_0
      try clear hfz20_1
      try clear hx445_0
      try clear hx445_1
      try clear p2
      try clear p445
      try clear q445
      obtain ⟨x6_2,x449000_2,x449001_2,rfl,HA,HK2,BK441,BK442,BK448,HB⟩:=hrel
      cases gk with
      | zero=>exact absurd HA.out (by simp [spec_FrontMove.l0])
      | succ k2 =>
       have H:=HA.out
       clear HA
       simp only [spec_FrontMove.l0] at H
       by_cases c29 : x6_2 < (l0.length : Int)
       ·rw [if_pos c29] at H
        have c29b0 : decide (x6_2 < (l0.length : Int)) = true:=decide_eq_true c29
        clear c29
        have c30 : 0 ≤ x6_2:=nn_ H
        rw [if_pos c30] at H
        have c30b0 : decide (0 ≤ x6_2) = true:=decide_eq_true c30
        clear c30
        replace H:=Option.bind_eq_some_iff.mp H
        obtain ⟨⟨t450,t451⟩,A310,H⟩:=H
        replace H : ((spec_TimeMeet.f x449000_2 x449001_2 t450 t451).bind fun bt452=>(spec_FrontMove.l0 k2 l0 (wrap64 (x6_2 + 1)) a1_0 a1_1 bt452.1 bt452.2)) = some (r1,r2):=H
        have A31:=Aside0.mk A310
        clear A310
        replace H:=Option.bind_eq_some_iff.mp H
        obtain ⟨⟨t452,t453⟩,A320,H⟩:=H
        replace H : (spec_FrontMove.l0 k2 l0 (wrap64 (x6_2 + 1)) a1_0 a1_1 t452 t453) = some (r1,r2):=H
        have A32:=Aside0.mk A320
        clear A320
        have H':=Aside0.mk H
        clear H
        try go_wp2
        have n0_:=am (blk_drew BK441.out)
        have n1_:=am (blk_drew BK442.out)
        have n2_:=am (blk_drew BK448.out)
        have n3_:=am (below_drew1 HB.out)
        clear BK441
        clear BK442
        clear BK448
        clear HB
        have BK441:=n0_
        have BK442:=n1_
        have BK448:=n2_
        have HB:=n3_
        clear n0_ n1_ n2_ n3_
        have p449 : 0 ≤ (x6_2 : Int):=of_decide_eq_true Q6
        have q449 : x6_2 < (l0.length : Int):=of_decide_eq_true Q6
        obtain ⟨ad449,e449,hx449_0,hx449_1⟩:=at_T36 HR0.out x6_2 p449 q449
        have hw449_1:=hx449_1
        have hw449_0:=hx449_0
        obtain rfl : ad445 = ad449:=(by injection e449)
        replace hx449_0:=cb_ HB hx449_0
        replace hx449_1:=cb_ HB hx449_1
        replace p449:=eq_true p449
        replace q449:=eq_true q449
        refine start_ (n:=9) (S:=fun w'=>w'.cell? ⟨gb448,0,none⟩ = some (.int .i64 x449000_2) ∧ w'.cell? ⟨gb448,1,none⟩ = some (.int .i64 x449001_2) ∧ w'.cell? ⟨gb441,0,none⟩ = some (.int .i64 a1_0) ∧ w'.cell? ⟨gb441,1,none⟩ = some (.int .i64 a1_1) ∧ w'.cell? (ad445.add ((x6_2).toNat * 2)) = some (.int .i64 ((rd_T36 l0 x6_2).f0)) ∧ w'.cell? ⟨(ad445.add ((x6_2).toNat * 2)).block,(ad445.add ((x6_2).toNat * 2)).off + 1,none⟩ = some (.int .i64 ((rd_T36 l0 x6_2).f1))) (ds:=[8]) b9_0 Q1 rfl rfl ⟨(blk_cell BK448.out 0).trans rfl,(blk_cell BK448.out 1).trans rfl,(blk_cell BK441.out 0).trans rfl,(blk_cell BK441.out 1).trans rfl,(cb_ HB hw449_0:),(cb_ HB hw449_1:)⟩ (fun hHeld=>?_);refine with_tabW spec_FrontMove.tab9 spec_FrontMove.bits9 (fun HT_ HW_=>?_)
        generalize wr.drew = w33 at BK441 BK442 BK448 HB hx449_0 hx449_1 hHeld ⊢
        refine pU_ 1 32 c139 ?_
        refine pU_ 2 33 c140 ?_
        refine pU_ 3 34 c141 ?_
        refine tU_ 0 31 b9_4 hHeld ?_
        refine tU_ 4 35 b9_5 hHeld ?_
        refine tU_ 5 36 b9_6 hHeld ?_
        refine one_ (i:=6) (N:=some 37) b9_7 rfl rfl (one_of HT_.out Q1) Q0 (fun K hK=>?_)
        refine goes_ Try.func86 Q1 rfl #[.agg #[.int .i64 ((rd_T36 l0 x6_2).f0),.int .i64 ((rd_T36 l0 x6_2).f1)],.agg #[.int .i64 a1_0,.int .i64 a1_1]] (by rfl) rfl rfl Q79 ?_
        with_reducible refine (spec_TimeJoin.calls ((rd_T36 l0 x6_2).f0) ((rd_T36 l0 x6_2).f1) a1_0 a1_1 t450 t451 _ A31.out).mono ?_
        rintro e w34 ⟨rfl,hb⟩
        refine ⟨_,rfl,?_⟩
        have n0_:=am (blk_below (g:=gb441) (o:=.cells #[.int .i64 a1_0,.int .i64 a1_1] 36 (0,0)) Q69 hb)
        have n1_:=am (blk_below (g:=gb442) (o:=.cells #[.int .i64 0,.int .i64 0] 36 (0,0)) Q70 hb)
        have n2_:=am (blk_below (g:=gb448) (o:=.cells #[.int .i64 x449000_2,.int .i64 x449001_2] 36 (0,0)) Q71 hb)
        have n3_:=am (below_step Q152 hb)
        clear BK441
        clear BK442
        clear BK448
        clear HB
        have BK441:=n0_
        have BK442:=n1_
        have BK448:=n2_
        have HB:=n3_
        clear n0_ n1_ n2_ n3_
        (try clear hb)
        (try clear hb2)
        (try clear hk)
        (try clear hi)
        refine hK.out _ _ ⟨(blk_cell BK448.out 0).trans rfl,(blk_cell BK448.out 1).trans rfl,(blk_cell BK441.out 0).trans rfl,(blk_cell BK441.out 1).trans rfl,(cb_ HB hw449_0:),(cb_ HB hw449_1:)⟩ (fun hHeld=>?_)
        clear hK K
        refine norm_ (a':=?_) ?_ ?_
        rotate_left
        ·show Act.put _ (some 37) _ = _
         simp only [Act.put,sA_,sZ_,sS_,i64_w,i32_w]
         rfl
        refine one_ (i:=7) (N:=some 38) b9_8 rfl rfl (one_of HT_.out Q1) Q0 (fun K hK=>?_)
        refine goes_ Try.func87 Q1 rfl #[.agg #[.int .i64 x449000_2,.int .i64 x449001_2],.agg #[.int .i64 t450,.int .i64 t451]] (by rfl) rfl rfl Q79 ?_
        with_reducible refine (spec_TimeMeet.calls x449000_2 x449001_2 t450 t451 t452 t453 _ A32.out).mono ?_
        rintro e w35 ⟨rfl,hb⟩
        refine ⟨_,rfl,?_⟩
        have n0_:=am (blk_below (g:=gb441) (o:=.cells #[.int .i64 a1_0,.int .i64 a1_1] 36 (0,0)) Q69 hb)
        have n1_:=am (blk_below (g:=gb442) (o:=.cells #[.int .i64 0,.int .i64 0] 36 (0,0)) Q70 hb)
        have n2_:=am (blk_below (g:=gb448) (o:=.cells #[.int .i64 x449000_2,.int .i64 x449001_2] 36 (0,0)) Q71 hb)
        have n3_:=am (below_step Q152 hb)
        clear BK441
        clear BK442
        clear BK448
        clear HB
        have BK441:=n0_
        have BK442:=n1_
        have BK448:=n2_
        have HB:=n3_
        clear n0_ n1_ n2_ n3_
        (try clear hb)
        (try clear hb2)
        (try clear hk)
        (try clear hi)
        refine hK.out _ _ ⟨(blk_cell BK448.out 0).trans rfl,(blk_cell BK448.out 1).trans rfl,(blk_cell BK441.out 0).trans rfl,(blk_cell BK441.out 1).trans rfl,(cb_ HB hw449_0:),(cb_ HB hw449_1:)⟩ (fun hHeld=>?_)
        clear hK K
        refine norm_ (a':=?_) ?_ ?_
        rotate_left
        ·show Act.put _ (some 38) _ = _
         simp only [Act.put,sA_,sZ_,sS_,i64_w,i32_w]
         rfl
        refine last_ (i:=8) (N:=none) b9_9 rfl rfl (one_of HT_.out Q1) Q0 (fun K hK=>?_)
        have hs36 : w35.cell? ⟨gb448,0,none⟩ = some (.int .i64 x449000_2):=(blk_cell BK448.out 0).trans rfl
        have hfs36:=blk_frozen BK448.out 0
        have hns36_0:=NB441_448.out
        have hns36_1:=NB442_448.out
        have hms36_0:=NB448_441.out
        have hms36_1:=NB448_442.out
        have hs37 : w35.cell? ⟨gb448,1,none⟩ = some (.int .i64 x449001_2):=(blk_cell BK448.out 1).trans rfl
        have hfs37:=blk_frozen BK448.out 1
        have hns37_0:=NB441_448.out
        have hns37_1:=NB442_448.out
        have hms37_0:=NB448_441.out
        have hms37_1:=NB448_442.out
        refine skip_ (w1:=?_) (by rfl) rfl ?_ ?_
        rotate_left
        ·go_simp
         rfl
        refine hK.out _ _ ?_
        clear hK K
        refine done_ (done_of HT_.out Q1) ?_
        try go_wp2
        go_roundg k2
        case measure=>have:=HJ2.out;have:=HK2.out;omega
        case rel=>exact ⟨(wrap64 (x6_2 + 1)),(t452),(t453),Q5,H',⟨by have:=HJ2.out;have:=HK2.out;omega⟩,⟨by (with_reducible repeat (first|refine blk_drewN ?_ _|refine blk_drew ?_|refine blk_alloc ?_ _));refine blk_far ?_ NB441_448.out _;(with_reducible repeat (first|refine blk_drewN ?_ _|refine blk_drew ?_|refine blk_alloc ?_ _));refine blk_far ?_ NB441_448.out _;(with_reducible repeat (first|refine blk_drewN ?_ _|refine blk_drew ?_|refine blk_alloc ?_ _));exact BK441.out⟩,⟨by (with_reducible repeat (first|refine blk_drewN ?_ _|refine blk_drew ?_|refine blk_alloc ?_ _));refine blk_far ?_ NB442_448.out _;(with_reducible repeat (first|refine blk_drewN ?_ _|refine blk_drew ?_|refine blk_alloc ?_ _));refine blk_far ?_ NB442_448.out _;(with_reducible repeat (first|refine blk_drewN ?_ _|refine blk_drew ?_|refine blk_alloc ?_ _));exact BK442.out⟩,⟨by (with_reducible repeat (first|refine blk_drewN ?_ _|refine blk_drew ?_|refine blk_alloc ?_ _));refine blk_put (cs:=#[.int .i64 t452,.int .i64 x449001_2]) ?_ 1 _ rfl;(with_reducible repeat (first|refine blk_drewN ?_ _|refine blk_drew ?_|refine blk_alloc ?_ _));refine blk_put (cs:=#[.int .i64 x449000_2,.int .i64 x449001_2]) ?_ 0 _ rfl;(with_reducible repeat (first|refine blk_drewN ?_ _|refine blk_drew ?_|refine blk_alloc ?_ _));exact BK448.out⟩,⟨Q152⟩⟩
       ·rw [if_neg c29] at H
        have c29b0 : decide (x6_2 < (l0.length : Int)) = false:=decide_eq_false c29
        clear c29
        simp only [Option.some.injEq,Prod.mk.injEq] at H
        obtain ⟨rfl,rfl⟩:=H
        have hnb38:=NB448_441.out
        have hnc38:=NB441_448.out
        have hnb39:=NB448_442.out
        have hnc39:=NB442_448.out
        have hcz40_0 : wr.cell? ⟨gb448,0,none⟩ = some (.int .i64 x449000_2):=(blk_cell BK448.out 0).trans rfl
        have hcz40_1 : wr.cell? ⟨gb448,1,none⟩ = some (.int .i64 x449001_2):=(blk_cell BK448.out 1).trans rfl
        have hfz40_0:=blk_frozen BK448.out 0
        have hfz40_1:=blk_frozen BK448.out 1
        have hnb41:=NB442_441.out
        have hnc41:=NB441_442.out
        have hcz42_0 : wr.cell? ⟨gb442,0,none⟩ = some (.int .i64 0):=(blk_cell BK442.out 0).trans rfl
        have hcz42_1 : wr.cell? ⟨gb442,1,none⟩ = some (.int .i64 0):=(blk_cell BK442.out 1).trans rfl
        have hfz42_0:=blk_frozen BK442.out 0
        have hfz42_1:=blk_frozen BK442.out 1
        go_wp2
        refine bodyPost_ret (results_cell_row rfl _ _ gb442 36 #[.int .i64 x449000_2,.int .i64 x449001_2] (0,0) _ rfl (by (with_reducible repeat (first|refine blk_drewN ?_ _|refine blk_drew ?_|refine blk_alloc ?_ _));refine blk_put (cs:=#[.int .i64 x449000_2,.int .i64 0]) ?_ 1 _ rfl;(with_reducible repeat (first|refine blk_drewN ?_ _|refine blk_drew ?_|refine blk_alloc ?_ _));refine blk_put (cs:=#[.int .i64 0,.int .i64 0]) ?_ 0 _ rfl;(with_reducible repeat (first|refine blk_drewN ?_ _|refine blk_drew ?_|refine blk_alloc ?_ _));exact BK442.out) Try.underlying36 rfl Q1) rfl ?_
        exact ⟨Q17,Q152⟩
def spec_l2Comp.l0 : Nat → List Int → List Int → Int → Option (Int)
 | 0, _, _, _ => none
 | k + 1, x5, x6, x7 => if x7 < (x5.length : Int) then (if 0 ≤ x7 then (if x7 < (x6.length : Int) then (if (rd x5 x7) < (rd x6 x7) then (some (-1)) else (if (rd x5 x7) > (rd x6 x7) then (some 1) else (spec_l2Comp.l0 k x5 x6 (wrap64 (x7 + 1))))) else (none)) else (none)) else (some 0)
def spec_l2Comp.f (k : Nat) (a0_0 : Int) (a0_1 : Int) (a0_2 : Int) (a0_3 : Int) (a0_4 : Int) (a1_0 : Int) (a1_1 : Int) (a1_2 : Int) (a1_3 : Int) (a1_4 : Int) : Option (Int) := spec_l2Comp.l0 k (([a0_0, a0_1, a0_2, a0_3] : List Int)) (([a1_0, a1_1, a1_2, a1_3] : List Int)) 0
set_option maxHeartbeats 8000000 in
set_option maxRecDepth 100000 in
theorem spec_l2Comp.calls (k : Nat) (a0_0 : Int) (a0_1 : Int) (a0_2 : Int) (a0_3 : Int) (a0_4 : Int) (a1_0 : Int) (a1_1 : Int) (a1_2 : Int) (a1_3 : Int) (a1_4 : Int) (r : Int) (w : World) (h : spec_l2Comp.f k a0_0 a0_1 a0_2 a0_3 a0_4 a1_0 a1_1 a1_2 a1_3 a1_4 = some r) :
  Calls Try.prog 71 #[.agg #[.int .i64 a0_0,.int .i64 a0_1,.int .i64 a0_2,.int .i64 a0_3,.int .i64 a0_4],.agg #[.int .i64 a1_0,.int .i64 a1_1,.int .i64 a1_2,.int .i64 a1_3,.int .i64 a1_4]] w fun e w'=>e = .returned (.int .i64 r) ∧ Below w.heap.size w w':=by
 have hu38:=Try.underlying38
 have HB:=am (Below.refl w.heap.size w)
 have H : (spec_l2Comp.l0 k (([a0_0,a0_1,a0_2,a0_3] : List Int)) (([a1_0,a1_1,a1_2,a1_3] : List Int)) 0) = some r:=h
 clear h
 obtain ⟨y456,hy_⟩ : ∃ y_ : List Int,y_ = (([a0_0,a0_1,a0_2,a0_3] : List Int)):=⟨_,rfl⟩
 replace H : (spec_l2Comp.l0 k y456 (([a1_0,a1_1,a1_2,a1_3] : List Int)) 0) = some r:=Q156
 have Ny456:=Aside0.mk hy_
 clear hy_
 obtain ⟨y459,hy_⟩ : ∃ y_ : List Int,y_ = (([a1_0,a1_1,a1_2,a1_3] : List Int)):=⟨_,rfl⟩
 replace H : (spec_l2Comp.l0 k y456 y459 0) = some r:=Q156
 have Ny459:=Aside0.mk hy_
 clear hy_
 have H':=Aside0.mk H
 clear H
 go_enter Try.func71,Try.ntmps71
 go_wp2_with (first|((with_reducible refine gate_dst (N:=2) rfl ?_);refine box_event ?hg (N:=2) ?hd (cs:=#[.int .i64 a0_0,.int .i64 a0_1,.int .i64 a0_2,.int .i64 a0_3,.int .i64 a0_4]) (t:=38) ?hr ?_;(case hd=>rfl);(case hg=>rfl);(case hr=>first|(go_simp;done)|(go_simp;rfl));intro gb454 hg w3 hbox hb;have n0_:=am (below_step Q77 hb);have n1_:=am (hbox);have n2_:=am ((Q167 : w.heap.size ≤ gb454));have n3_:=n2_;clear HB;have HB:=n0_;have BK454:=n1_;have GW454:=n2_;have GE454:=n3_;clear n0_ n1_ n2_ n3_;clear hb hbox hg)|((with_reducible refine gate_dst (N:=3) rfl ?_);refine box_event ?hg (N:=3) ?hd (cs:=#[.int .i64 a1_0,.int .i64 a1_1,.int .i64 a1_2,.int .i64 a1_3,.int .i64 a1_4]) (t:=38) ?hr ?_;(case hd=>rfl);(case hg=>rfl);(case hr=>first|(go_simp;done)|(go_simp;rfl));intro gb455 hg w4 hbox hb;have n0_:=am (blk_below (g:=gb454) (o:=.cells #[.int .i64 a0_0,.int .i64 a0_1,.int .i64 a0_2,.int .i64 a0_3,.int .i64 a0_4] 38 (0,0)) Q72 hb);have n1_:=am (below_step Q103 hb);have n2_:=am (hbox);have n3_:=am ((by rw [hg];exact (below_size Q103) : w.heap.size ≤ gb455));have n4_:=n3_;have n5_:=am ((Q201 : gb454 ≠ gb455));have n6_:=am ((Q202 : gb455 ≠ gb454));clear BK454 HB;have BK454:=n0_;have HB:=n1_;have BK455:=n2_;have GW455:=n3_;have GE455:=n4_;have NB454_455:=n5_;have NB455_454:=n6_;clear n0_ n1_ n2_ n3_ n4_ n5_ n6_;clear hb hbox hg;have hnb5:=NB454_455.out;have hnc5:=NB455_454.out;obtain ⟨hcz6_0,hcz6_1,hcz6_2,hcz6_3,hcz6_4,hfz6_0,hfz6_1,hfz6_2,hfz6_3,hfz6_4⟩:=bx5_ BK454)|((with_reducible refine gate_dst (N:=18) rfl ?_);refine Kd.R_lit (Kd.int .i64) _ 3 ?hg (N:=18) ?hd (xs:=([a0_0,a0_1,a0_2,a0_3] : List Int)) (inner:=[.int .i64 a0_0,.int .i64 a0_1,.int .i64 a0_2,.int .i64 a0_3]) (ok:=fun _=>True) (okp:=fun _=>True) ?hr ?hp (fun _ hk=>hk) trivial (Below.refl _ _) (Nat.le_refl _) (by simp) ?_;(case hd=>rfl);(case hg=>rfl);(case hr=>first|(go_simp;done)|(go_simp;rfl));(case hp=>exact (Reps.one (show Kd.M (Kd.int .i64) _ _ _ a0_0 [.int .i64 a0_0] from rfl) (Reps.one (show Kd.M (Kd.int .i64) _ _ _ a0_1 [.int .i64 a0_1] from rfl) (Reps.one (show Kd.M (Kd.int .i64) _ _ _ a0_2 [.int .i64 a0_2] from rfl) (Reps.one (show Kd.M (Kd.int .i64) _ _ _ a0_3 [.int .i64 a0_3] from rfl) (Reps.none _ _))))));intro v457 w7 ho8 hb hg_ hnew_;clear hg_ hnew_;(first|rw [← Ny456.out] at ho8|(simp only [Int.reduceToNat] at ho8;rw [← Ny456.out] at ho8));have n0_:=am (Kd.R_lower ho8 (below_size Q137));have n1_:=am (blk_below (g:=gb454) (o:=.cells #[.int .i64 a0_0,.int .i64 a0_1,.int .i64 a0_2,.int .i64 a0_3,.int .i64 a0_4] 38 (0,0)) Q72 hb);have n2_:=am (blk_below (g:=gb455) (o:=.cells #[.int .i64 a1_0,.int .i64 a1_1,.int .i64 a1_2,.int .i64 a1_3,.int .i64 a1_4] 38 (0,0)) Q73 hb);have n3_:=am (below_step Q137 hb);clear BK454 BK455 HB;have HO458:=n0_;have BK454:=n1_;have BK455:=n2_;have HB:=n3_;clear n0_ n1_ n2_ n3_;clear hb ho8;obtain ⟨hcz9_0,hcz9_1,hcz9_2,hcz9_3,hcz9_4,hfz9_0,hfz9_1,hfz9_2,hfz9_3,hfz9_4⟩:=bx5_ BK455)|((with_reducible refine gate_dst (N:=29) rfl ?_);refine Kd.R_lit (Kd.int .i64) _ 3 ?hg (N:=29) ?hd (xs:=([a1_0,a1_1,a1_2,a1_3] : List Int)) (inner:=[.int .i64 a1_0,.int .i64 a1_1,.int .i64 a1_2,.int .i64 a1_3]) (ok:=fun _=>True) (okp:=fun _=>True) ?hr ?hp (fun _ hk=>hk) trivial (Below.refl _ _) (Nat.le_refl _) (by simp) ?_;(case hd=>rfl);(case hg=>rfl);(case hr=>first|(go_simp;done)|(go_simp;rfl));(case hp=>exact (Reps.one (show Kd.M (Kd.int .i64) _ _ _ a1_0 [.int .i64 a1_0] from rfl) (Reps.one (show Kd.M (Kd.int .i64) _ _ _ a1_1 [.int .i64 a1_1] from rfl) (Reps.one (show Kd.M (Kd.int .i64) _ _ _ a1_2 [.int .i64 a1_2] from rfl) (Reps.one (show Kd.M (Kd.int .i64) _ _ _ a1_3 [.int .i64 a1_3] from rfl) (Reps.none _ _))))));intro v460 w10 ho11 hb hg_ hnew_;clear hg_ hnew_;(first|rw [← Ny459.out] at ho11|(simp only [Int.reduceToNat] at ho11;rw [← Ny459.out] at ho11));have n0_:=am (Kd.R_elder' Q31 (Kd.R_base ho11) hb);have n1_:=am (Kd.R_lower (Kd.R_new' ho11 (Kd.R_lt Q31)) (below_size Q137));have n2_:=am (blk_below (g:=gb454) (o:=.cells #[.int .i64 a0_0,.int .i64 a0_1,.int .i64 a0_2,.int .i64 a0_3,.int .i64 a0_4] 38 (0,0)) Q72 hb);have n3_:=am (blk_below (g:=gb455) (o:=.cells #[.int .i64 a1_0,.int .i64 a1_1,.int .i64 a1_2,.int .i64 a1_3,.int .i64 a1_4] 38 (0,0)) Q73 hb);have n4_:=am (below_step Q137 hb);clear HO458 BK454 BK455 HB;have HO458:=n0_;have HO461:=n1_;have BK454:=n2_;have BK455:=n3_;have HB:=n4_;clear n0_ n1_ n2_ n3_ n4_;clear hb ho11))
 repeat (go_quiet (first|((with_reducible refine gate_dst (N:=2) rfl ?_);refine box_event ?hg (N:=2) ?hd (cs:=#[.int .i64 a0_0,.int .i64 a0_1,.int .i64 a0_2,.int .i64 a0_3,.int .i64 a0_4]) (t:=38) ?hr ?_;(case hd=>rfl);(case hg=>rfl);(case hr=>first|(go_simp;done)|(go_simp;rfl));intro gb454 hg w3 hbox hb;have n0_:=am (below_step Q77 hb);have n1_:=am (hbox);have n2_:=am ((Q167 : w.heap.size ≤ gb454));have n3_:=n2_;clear HB;have HB:=n0_;have BK454:=n1_;have GW454:=n2_;have GE454:=n3_;clear n0_ n1_ n2_ n3_;clear hb hbox hg)|((with_reducible refine gate_dst (N:=3) rfl ?_);refine box_event ?hg (N:=3) ?hd (cs:=#[.int .i64 a1_0,.int .i64 a1_1,.int .i64 a1_2,.int .i64 a1_3,.int .i64 a1_4]) (t:=38) ?hr ?_;(case hd=>rfl);(case hg=>rfl);(case hr=>first|(go_simp;done)|(go_simp;rfl));intro gb455 hg w4 hbox hb;have n0_:=am (blk_below (g:=gb454) (o:=.cells #[.int .i64 a0_0,.int .i64 a0_1,.int .i64 a0_2,.int .i64 a0_3,.int .i64 a0_4] 38 (0,0)) Q72 hb);have n1_:=am (below_step Q103 hb);have n2_:=am (hbox);have n3_:=am ((by rw [hg];exact (below_size Q103) : w.heap.size ≤ gb455));have n4_:=n3_;have n5_:=am ((Q201 : gb454 ≠ gb455));have n6_:=am ((Q202 : gb455 ≠ gb454));clear BK454 HB;have BK454:=n0_;have HB:=n1_;have BK455:=n2_;have GW455:=n3_;have GE455:=n4_;have NB454_455:=n5_;have NB455_454:=n6_;clear n0_ n1_ n2_ n3_ n4_ n5_ n6_;clear hb hbox hg;have hnb5:=NB454_455.out;have hnc5:=NB455_454.out;obtain ⟨hcz6_0,hcz6_1,hcz6_2,hcz6_3,hcz6_4,hfz6_0,hfz6_1,hfz6_2,hfz6_3,hfz6_4⟩:=bx5_ BK454)|((with_reducible refine gate_dst (N:=18) rfl ?_);refine Kd.R_lit (Kd.int .i64) _ 3 ?hg (N:=18) ?hd (xs:=([a0_0,a0_1,a0_2,a0_3] : List Int)) (inner:=[.int .i64 a0_0,.int .i64 a0_1,.int .i64 a0_2,.int .i64 a0_3]) (ok:=fun _=>True) (okp:=fun _=>True) ?hr ?hp (fun _ hk=>hk) trivial (Below.refl _ _) (Nat.le_refl _) (by simp) ?_;(case hd=>rfl);(case hg=>rfl);(case hr=>first|(go_simp;done)|(go_simp;rfl));(case hp=>exact (Reps.one (show Kd.M (Kd.int .i64) _ _ _ a0_0 [.int .i64 a0_0] from rfl) (Reps.one (show Kd.M (Kd.int .i64) _ _ _ a0_1 [.int .i64 a0_1] from rfl) (Reps.one (show Kd.M (Kd.int .i64) _ _ _ a0_2 [.int .i64 a0_2] from rfl) (Reps.one (show Kd.M (Kd.int .i64) _ _ _ a0_3 [.int .i64 a0_3] from rfl) (Reps.none _ _))))));intro v457 w7 ho8 hb hg_ hnew_;clear hg_ hnew_;(first|rw [← Ny456.out] at ho8|(simp only [Int.reduceToNat] at ho8;rw [← Ny456.out] at ho8));have n0_:=am (Kd.R_lower ho8 (below_size Q137));have n1_:=am (blk_below (g:=gb454) (o:=.cells #[.int .i64 a0_0,.int .i64 a0_1,.int .i64 a0_2,.int .i64 a0_3,.int .i64 a0_4] 38 (0,0)) Q72 hb);have n2_:=am (blk_below (g:=gb455) (o:=.cells #[.int .i64 a1_0,.int .i64 a1_1,.int .i64 a1_2,.int .i64 a1_3,.int .i64 a1_4] 38 (0,0)) Q73 hb);have n3_:=am (below_step Q137 hb);clear BK454 BK455 HB;have HO458:=n0_;have BK454:=n1_;have BK455:=n2_;have HB:=n3_;clear n0_ n1_ n2_ n3_;clear hb ho8;obtain ⟨hcz9_0,hcz9_1,hcz9_2,hcz9_3,hcz9_4,hfz9_0,hfz9_1,hfz9_2,hfz9_3,hfz9_4⟩:=bx5_ BK455)|((with_reducible refine gate_dst (N:=29) rfl ?_);refine Kd.R_lit (Kd.int .i64) _ 3 ?hg (N:=29) ?hd (xs:=([a1_0,a1_1,a1_2,a1_3] : List Int)) (inner:=[.int .i64 a1_0,.int .i64 a1_1,.int .i64 a1_2,.int .i64 a1_3]) (ok:=fun _=>True) (okp:=fun _=>True) ?hr ?hp (fun _ hk=>hk) trivial (Below.refl _ _) (Nat.le_refl _) (by simp) ?_;(case hd=>rfl);(case hg=>rfl);(case hr=>first|(go_simp;done)|(go_simp;rfl));(case hp=>exact (Reps.one (show Kd.M (Kd.int .i64) _ _ _ a1_0 [.int .i64 a1_0] from rfl) (Reps.one (show Kd.M (Kd.int .i64) _ _ _ a1_1 [.int .i64 a1_1] from rfl) (Reps.one (show Kd.M (Kd.int .i64) _ _ _ a1_2 [.int .i64 a1_2] from rfl) (Reps.one (show Kd.M (Kd.int .i64) _ _ _ a1_3 [.int .i64 a1_3] from rfl) (Reps.none _ _))))));intro v460 w10 ho11 hb hg_ hnew_;clear hg_ hnew_;(first|rw [← Ny459.out] at ho11|(simp only [Int.reduceToNat] at ho11;rw [← Ny459.out] at ho11));have n0_:=am (Kd.R_elder' Q31 (Kd.R_base ho11) hb);have n1_:=am (Kd.R_lower (Kd.R_new' ho11 (Kd.R_lt Q31)) (below_size Q137));have n2_:=am (blk_below (g:=gb454) (o:=.cells #[.int .i64 a0_0,.int .i64 a0_1,.int .i64 a0_2,.int .i64 a0_3,.int .i64 a0_4] 38 (0,0)) Q72 hb);have n3_:=am (blk_below (g:=gb455) (o:=.cells #[.int .i64 a1_0,.int .i64 a1_1,.int .i64 a1_2,.int .i64 a1_3,.int .i64 a1_4] 38 (0,0)) Q73 hb);have n4_:=am (below_step Q137 hb);clear HO458 BK454 BK455 HB;have HO458:=n0_;have HO461:=n1_;have BK454:=n2_;have BK455:=n3_;have HB:=n4_;clear n0_ n1_ n2_ n3_ n4_;clear hb ho11));try go_wp2_with (first|((with_reducible refine gate_dst (N:=2) rfl ?_);refine box_event ?hg (N:=2) ?hd (cs:=#[.int .i64 a0_0,.int .i64 a0_1,.int .i64 a0_2,.int .i64 a0_3,.int .i64 a0_4]) (t:=38) ?hr ?_;(case hd=>rfl);(case hg=>rfl);(case hr=>first|(go_simp;done)|(go_simp;rfl));intro gb454 hg w3 hbox hb;have n0_:=am (below_step Q77 hb);have n1_:=am (hbox);have n2_:=am ((Q167 : w.heap.size ≤ gb454));have n3_:=n2_;clear HB;have HB:=n0_;have BK454:=n1_;have GW454:=n2_;have GE454:=n3_;clear n0_ n1_ n2_ n3_;clear hb hbox hg)|((with_reducible refine gate_dst (N:=3) rfl ?_);refine box_event ?hg (N:=3) ?hd (cs:=#[.int .i64 a1_0,.int .i64 a1_1,.int .i64 a1_2,.int .i64 a1_3,.int .i64 a1_4]) (t:=38) ?hr ?_;(case hd=>rfl);(case hg=>rfl);(case hr=>first|(go_simp;done)|(go_simp;rfl));intro gb455 hg w4 hbox hb;have n0_:=am (blk_below (g:=gb454) (o:=.cells #[.int .i64 a0_0,.int .i64 a0_1,.int .i64 a0_2,.int .i64 a0_3,.int .i64 a0_4] 38 (0,0)) Q72 hb);have n1_:=am (below_step Q103 hb);have n2_:=am (hbox);have n3_:=am ((by rw [hg];exact (below_size Q103) : w.heap.size ≤ gb455));have n4_:=n3_;have n5_:=am ((Q201 : gb454 ≠ gb455));have n6_:=am ((Q202 : gb455 ≠ gb454));clear BK454 HB;have BK454:=n0_;have HB:=n1_;have BK455:=n2_;have GW455:=n3_;have GE455:=n4_;have NB454_455:=n5_;have NB455_454:=n6_;clear n0_ n1_ n2_ n3_ n4_ n5_ n6_;clear hb hbox hg;have hnb5:=NB454_455.out;have hnc5:=NB455_454.out;obtain ⟨hcz6_0,hcz6_1,hcz6_2,hcz6_3,hcz6_4,hfz6_0,hfz6_1,hfz6_2,hfz6_3,hfz6_4⟩:=bx5_ BK454)|((with_reducible refine gate_dst (N:=18) rfl ?_);refine Kd.R_lit (Kd.int .i64) _ 3 ?hg (N:=18) ?hd (xs:=([a0_0,a0_1,a0_2,a0_3] : List Int)) (inner:=[.int .i64 a0_0,.int .i64 a0_1,.int .i64 a0_2,.int .i64 a0_3]) (ok:=fun _=>True) (okp:=fun _=>True) ?hr ?hp (fun _ hk=>hk) trivial (Below.refl _ _) (Nat.le_refl _) (by simp) ?_;(case hd=>rfl);(case hg=>rfl);(case hr=>first|(go_simp;done)|(go_simp;rfl));(case hp=>exact (Reps.one (show Kd.M (Kd.int .i64) _ _ _ a0_0 [.int .i64 a0_0] from rfl) (Reps.one (show Kd.M (Kd.int .i64) _ _ _ a0_1 [.int .i64 a0_1] from rfl) (Reps.one (show Kd.M (Kd.int .i64) _ _ _ a0_2 [.int .i64 a0_2] from rfl) (Reps.one (show Kd.M (Kd.int .i64) _ _ _ a0_3 [.int .i64 a0_3] from rfl) (Reps.none _ _))))));intro v457 w7 ho8 hb hg_ hnew_;clear hg_ hnew_;(first|rw [← Ny456.out] at ho8|(simp only [Int.reduceToNat] at ho8;rw [← Ny456.out] at ho8));have n0_:=am (Kd.R_lower ho8 (below_size Q137));have n1_:=am (blk_below (g:=gb454) (o:=.cells #[.int .i64 a0_0,.int .i64 a0_1,.int .i64 a0_2,.int .i64 a0_3,.int .i64 a0_4] 38 (0,0)) Q72 hb);have n2_:=am (blk_below (g:=gb455) (o:=.cells #[.int .i64 a1_0,.int .i64 a1_1,.int .i64 a1_2,.int .i64 a1_3,.int .i64 a1_4] 38 (0,0)) Q73 hb);have n3_:=am (below_step Q137 hb);clear BK454 BK455 HB;have HO458:=n0_;have BK454:=n1_;have BK455:=n2_;have HB:=n3_;clear n0_ n1_ n2_ n3_;clear hb ho8;obtain ⟨hcz9_0,hcz9_1,hcz9_2,hcz9_3,hcz9_4,hfz9_0,hfz9_1,hfz9_2,hfz9_3,hfz9_4⟩:=bx5_ BK455)|((with_reducible refine gate_dst (N:=29) rfl ?_);refine Kd.R_lit (Kd.int .i64) _ 3 ?hg (N:=29) ?hd (xs:=([a1_0,a1_1,a1_2,a1_3] : List Int)) (inner:=[.int .i64 a1_0,.int .i64 a1_1,.int .i64 a1_2,.int .i64 a1_3]) (ok:=fun _=>True) (okp:=fun _=>True) ?hr ?hp (fun _ hk=>hk) trivial (Below.refl _ _) (Nat.le_refl _) (by simp) ?_;(case hd=>rfl);(case hg=>rfl);(case hr=>first|(go_simp;done)|(go_simp;rfl));(case hp=>exact (Reps.one (show Kd.M (Kd.int .i64) _ _ _ a1_0 [.int .i64 a1_0] from rfl) (Reps.one (show Kd.M (Kd.int .i64) _ _ _ a1_1 [.int .i64 a1_1] from rfl) (Reps.one (show Kd.M (Kd.int .i64) _ _ _ a1_2 [.int .i64 a1_2] from rfl) (Reps.one (show Kd.M (Kd.int .i64) _ _ _ a1_3 [.int .i64 a1_3] from rfl) (Reps.none _ _))))));intro v460 w10 ho11 hb hg_ hnew_;clear hg_ hnew_;(first|rw [← Ny459.out] at ho11|(simp only [Int.reduceToNat] at ho11;rw [← Ny459.out] at ho11));have n0_:=am (Kd.R_elder' Q31 (Kd.R_base ho11) hb);have n1_:=am (Kd.R_lower (Kd.R_new' ho11 (Kd.R_lt Q31)) (below_size Q137));have n2_:=am (blk_below (g:=gb454) (o:=.cells #[.int .i64 a0_0,.int .i64 a0_1,.int .i64 a0_2,.int .i64 a0_3,.int .i64 a0_4] 38 (0,0)) Q72 hb);have n3_:=am (blk_below (g:=gb455) (o:=.cells #[.int .i64 a1_0,.int .i64 a1_1,.int .i64 a1_2,.int .i64 a1_3,.int .i64 a1_4] 38 (0,0)) Q73 hb);have n4_:=am (below_step Q137 hb);clear HO458 BK454 BK455 HB;have HO458:=n0_;have HO461:=n1_;have BK454:=n2_;have BK455:=n3_;have HB:=n4_;clear n0_ n1_ n2_ n3_ n4_;clear hb ho11)))
 go_loopg [7] k (fun kq v7 w'=>∃ (x7_1 : Int),v7 = .int .i64 x7_1 ∧ Aside0 (spec_l2Comp.l0 kq y456 y459 x7_1 = some r) ∧ Aside0 (kq ≤ k) ∧ Aside0 (Kd.R (Kd.int .i64) 3 w' w.heap.size (fun k_=>some k_ ≠ (v460 : Value).ownBlock) v457 y456) ∧ Aside0 (Kd.R (Kd.int .i64) 3 w' w.heap.size (fun k_=>some k_ ≠ (v457 : Value).ownBlock) v460 y459) ∧ Aside0 (w'.heap[gb454]? = some (.cells #[.int .i64 a0_0,.int .i64 a0_1,.int .i64 a0_2,.int .i64 a0_3,.int .i64 a0_4] 38 (0,0))) ∧ Aside0 (w'.heap[gb455]? = some (.cells #[.int .i64 a1_0,.int .i64 a1_1,.int .i64 a1_2,.int .i64 a1_3,.int .i64 a1_4] 38 (0,0))) ∧ Aside0 (Below w.heap.size w w'))
 case atStart=>exact ⟨(0),Q5,H',⟨Nat.le_refl _⟩,⟨by (with_reducible repeat (first|apply Kd.R_alloc|apply Kd.R_drewN|apply Kd.R_drew));exact Kd.R_mono HO458.out (fun _ hk=>hk.2)⟩,⟨by (with_reducible repeat (first|apply Kd.R_alloc|apply Kd.R_drewN|apply Kd.R_drew));exact Kd.R_mono HO461.out (fun _ hk=>hk.2)⟩,⟨Q72⟩,⟨Q73⟩,⟨Q137⟩⟩
 case round =>
  clear H'
  try clear p2
  try clear c5
  try clear c7
  try clear hcz6_0
  try clear hcz6_1
  try clear hcz6_2
  try clear hcz6_3
  try clear hcz6_4
  try clear hcz9_0
  try clear hcz9_1
  try clear hcz9_2
  try clear hcz9_3
  try clear hcz9_4
  try clear hfz6_0
  try clear hfz6_1
  try clear hfz6_2
  try clear hfz6_3
  try clear hfz6_4
  try clear hfz9_0
  try clear hfz9_1
  try clear hfz9_2
  try clear hfz9_3
  try clear hfz9_4
  obtain ⟨x7_1,rfl,HA,HK1,HO_5,HO_6,BK454,BK455,HB⟩:=hrel
  cases gk with
  | zero=>exact absurd HA.out (by simp [spec_l2Comp.l0])
  | succ k1 =>
   have H:=HA.out
   clear HA
   simp only [spec_l2Comp.l0] at H
   by_cases c12 : x7_1 < (y456.length : Int)
   ·rw [if_pos c12] at H
    have c12b0 : decide (x7_1 < (y456.length : Int)) = true:=decide_eq_true c12
    clear c12
    have c13 : 0 ≤ x7_1:=nn_ H
    rw [if_pos c13] at H
    have c13b0 : decide (0 ≤ x7_1) = true:=decide_eq_true c13
    clear c13
    have c14 : x7_1 < (y459.length : Int):=nn_ H
    rw [if_pos c14] at H
    have c14b0 : decide (x7_1 < (y459.length : Int)) = true:=decide_eq_true c14
    clear c14
    by_cases c15 : (rd y456 x7_1) < (rd y459 x7_1)
    ·rw [if_pos c15] at H
     have c15b0 : decide ((rd y456 x7_1) < (rd y459 x7_1)) = true:=decide_eq_true c15
     clear c15
     obtain rfl:=Option.some.inj H
     obtain ⟨Ao16,co16,eo16⟩:=Kd.R_slice HO_5.out
     subst eo16
     have p462 : 0 ≤ (x7_1 : Int):=of_decide_eq_true Q6
     have q462 : x7_1 < (y456.length : Int):=of_decide_eq_true Q6
     obtain ⟨ad462,e462,hx462_0⟩:=Kd.at_int (Kd.R_reads' HO_5.out).2.2 x7_1 p462 q462
     cases e462
     replace p462:=eq_true p462
     replace q462:=eq_true q462
     obtain ⟨Ao17,co17,eo17⟩:=Kd.R_slice HO_6.out
     subst eo17
     have p463 : 0 ≤ (x7_1 : Int):=of_decide_eq_true Q6
     have q463 : x7_1 < (y459.length : Int):=of_decide_eq_true Q6
     obtain ⟨ad463,e463,hx463_0⟩:=Kd.at_int (Kd.R_reads' HO_6.out).2.2 x7_1 p463 q463
     cases e463
     replace p463:=eq_true p463
     replace q463:=eq_true q463
     go_wp2
     repeat (go_quiet (fail);try go_wp2)
     go_ret
     exact ⟨Q17,Q137⟩
    ·rw [if_neg c15] at H
     have c15b0 : decide ((rd y456 x7_1) < (rd y459 x7_1)) = false:=decide_eq_false c15
     clear c15
     by_cases c18 : (rd y456 x7_1) > (rd y459 x7_1)
     ·rw [if_pos c18] at H
      have c18b0 : decide ((rd y459 x7_1) < (rd y456 x7_1)) = true:=decide_eq_true c18
      clear c18
      obtain rfl:=Option.some.inj H
      obtain ⟨Ao19,co19,eo19⟩:=Kd.R_slice HO_5.out
      subst eo19
      have p462 : 0 ≤ (x7_1 : Int):=of_decide_eq_true Q6
      have q462 : x7_1 < (y456.length : Int):=of_decide_eq_true Q6
      obtain ⟨ad462,e462,hx462_0⟩:=Kd.at_int (Kd.R_reads' HO_5.out).2.2 x7_1 p462 q462
      cases e462
      replace p462:=eq_true p462
      replace q462:=eq_true q462
      obtain ⟨Ao20,co20,eo20⟩:=Kd.R_slice HO_6.out
      subst eo20
      have p463 : 0 ≤ (x7_1 : Int):=of_decide_eq_true Q6
      have q463 : x7_1 < (y459.length : Int):=of_decide_eq_true Q6
      obtain ⟨ad463,e463,hx463_0⟩:=Kd.at_int (Kd.R_reads' HO_6.out).2.2 x7_1 p463 q463
      cases e463
      replace p463:=eq_true p463
      replace q463:=eq_true q463
      have p464 : 0 ≤ (x7_1 : Int):=of_decide_eq_true Q6
      have q464 : x7_1 < (y456.length : Int):=of_decide_eq_true Q6
      obtain ⟨ad464,e464,hx464_0⟩:=Kd.at_int (Kd.R_reads' HO_5.out).2.2 x7_1 p464 q464
      obtain rfl : ad462 = ad464:=(by injection e464)
      replace p464:=eq_true p464
      replace q464:=eq_true q464
      have p465 : 0 ≤ (x7_1 : Int):=of_decide_eq_true Q6
      have q465 : x7_1 < (y459.length : Int):=of_decide_eq_true Q6
      obtain ⟨ad465,e465,hx465_0⟩:=Kd.at_int (Kd.R_reads' HO_6.out).2.2 x7_1 p465 q465
      obtain rfl : ad463 = ad465:=(by injection e465)
      replace p465:=eq_true p465
      replace q465:=eq_true q465
      go_wp2
      repeat (go_quiet (fail);try go_wp2)
      go_ret
      exact ⟨Q17,Q137⟩
     ·rw [if_neg c18] at H
      have c18b0 : decide ((rd y459 x7_1) < (rd y456 x7_1)) = false:=decide_eq_false c18
      clear c18
      have H':=Aside0.mk H
      clear H
      obtain ⟨Ao21,co21,eo21⟩:=Kd.R_slice HO_5.out
      subst eo21
      have p462 : 0 ≤ (x7_1 : Int):=of_decide_eq_true Q6
      have q462 : x7_1 < (y456.length : Int):=of_decide_eq_true Q6
      obtain ⟨ad462,e462,hx462_0⟩:=Kd.at_int (Kd.R_reads' HO_5.out).2.2 x7_1 p462 q462
      cases e462
      replace p462:=eq_true p462
      replace q462:=eq_true q462
      obtain ⟨Ao22,co22,eo22⟩:=Kd.R_slice HO_6.out
      subst eo22
      have p463 : 0 ≤ (x7_1 : Int):=of_decide_eq_true Q6
      have q463 : x7_1 < (y459.length : Int):=of_decide_eq_true Q6
      obtain ⟨ad463,e463,hx463_0⟩:=Kd.at_int (Kd.R_reads' HO_6.out).2.2 x7_1 p463 q463
      cases e463
      replace p463:=eq_true p463
      replace q463:=eq_true q463
      have p464 : 0 ≤ (x7_1 : Int):=of_decide_eq_true Q6
      have q464 : x7_1 < (y456.length : Int):=of_decide_eq_true Q6
      obtain ⟨ad464,e464,hx464_0⟩:=Kd.at_int (Kd.R_reads' HO_5.out).2.2 x7_1 p464 q464
      obtain rfl : ad462 = ad464:=(by injection e464)
      replace p464:=eq_true p464
      replace q464:=eq_true q464
      have p465 : 0 ≤ (x7_1 : Int):=of_decide_eq_true Q6
      have q465 : x7_1 < (y459.length : Int):=of_decide_eq_true Q6
      obtain ⟨ad465,e465,hx465_0⟩:=Kd.at_int (Kd.R_reads' HO_6.out).2.2 x7_1 p465 q465
      obtain rfl : ad463 = ad465:=(by injection e465)
      replace p465:=eq_true p465
      replace q465:=eq_true q465
      go_wp2
      repeat (go_quiet (fail);try go_wp2)
      go_roundg k1
      case measure=>have:=HK1.out;omega
      case rel=>exact ⟨(wrap64 (x7_1 + 1)),Q5,H',⟨Q2⟩,⟨Q20⟩,⟨Q22⟩,⟨Q72⟩,⟨Q73⟩,⟨Q137⟩⟩
   ·rw [if_neg c12] at H
    have c12b0 : decide (x7_1 < (y456.length : Int)) = false:=decide_eq_false c12
    clear c12
    obtain rfl:=Option.some.inj H
    obtain ⟨Ao23,co23,eo23⟩:=Kd.R_slice HO_5.out
    subst eo23
    go_wp2
    repeat (go_quiet (fail);try go_wp2)
    go_ret
    exact ⟨Q17,Q137⟩
def spec_BatchOk.l0 : Nat → List (S38) → Int → Option (Bool)
 | 0, _, _ => none
 | k + 1, x0, x3 => if x3 < (x0.length : Int) then (if 0 ≤ x3 then (if ((rd_T38 x0 x3).f3) = 0 then (some false) else (if x3 > 0 then (if 0 ≤ (wrap64 (x3 - 1)) then (if (wrap64 (x3 - 1)) < (x0.length : Int) then ((spec_l2Comp.f k ((rd_T38 x0 (wrap64 (x3 - 1))).f0) ((rd_T38 x0 (wrap64 (x3 - 1))).f1) ((rd_T38 x0 (wrap64 (x3 - 1))).f2.f0) ((rd_T38 x0 (wrap64 (x3 - 1))).f2.f1) ((rd_T38 x0 (wrap64 (x3 - 1))).f3) ((rd_T38 x0 x3).f0) ((rd_T38 x0 x3).f1) ((rd_T38 x0 x3).f2.f0) ((rd_T38 x0 x3).f2.f1) ((rd_T38 x0 x3).f3)).bind fun t470 => (if t470 ≥ 0 then (some false) else (spec_BatchOk.l0 k x0 (wrap64 (x3 + 1))))) else (none)) else (none)) else (spec_BatchOk.l0 k x0 (wrap64 (x3 + 1))))) else (none)) else (some true)
def spec_BatchOk.f (k : Nat) (l0 : List (S38)) : Option (Bool) := (spec_RowsOk.f k l0).bind fun t466 => (if t466 = true then (spec_BatchOk.l0 k l0 0) else (some false))
def spec_BatchOk.T6 : Bool × List (List Nat × List Nat) := (true, [([], []), ([], []), ([0, 1], [0, 1]), ([2], [2]), ([3], [3]), ([4], [4]), ([5], [5]), ([6], [6]), ([7, 6], [6, 7]), ([8, 6, 6], [6, 8]), ([9], [9]), ([9], [9]), ([11, 9], [9, 11]), ([10, 12, 9], [9, 10, 12]), ([13, 9], [9, 13]), ([9], [9]), ([9], [9]), ([15, 16, 9], [9, 15, 16]), ([17, 9], [9, 17]), ([14, 18, 9, 9], [9, 14, 18]), ([19, 9], [9, 19]), ([9, 20, 6], [6, 9, 20]), ([6, 21], [6, 21])])
def spec_BatchOk.B6 : List Nat := [0, 0, 3, 7, 15, 31, 63, 127, 255, 511, 1023, 1023, 3071, 8191, 16383, 1023, 1023, 99327, 230399, 524287, 1048575, 2097151, 4194303]
theorem spec_BatchOk.tab6 : rtab .any (opsOf Try.f31 6) = spec_BatchOk.T6:=by kernel_rfl
theorem spec_BatchOk.bits6 : waitsOk spec_BatchOk.T6.2 spec_BatchOk.B6 = true:=by kernel_rfl
set_option maxHeartbeats 8000000 in
set_option maxRecDepth 100000 in
theorem spec_BatchOk.calls (k : Nat) (A0 : Option Addr) (c0 : Nat) (l0 : List (S38)) (r : Bool) (w : World) (hr0 : Kd.C k38 w A0 l0.length l0) (hc0 : l0.length ≤ c0) (h : spec_BatchOk.f k l0 = some r) :
  Calls Try.prog 31 #[.slice A0 l0.length c0] w fun e w'=>e = .returned (.bool r) ∧ Below w.heap.size w w':=by
 have hu38:=Try.underlying38
 have HR0:=Aside0.mk hr0
 have HC0:=Aside0.mk hc0
 clear hr0 hc0
 have HB:=am (Below.refl w.heap.size w)
 have H : ((spec_RowsOk.f k l0).bind fun t466=>(if t466 = true then (spec_BatchOk.l0 k l0 0) else (some false))) = some r:=h
 clear h
 replace H:=Option.bind_eq_some_iff.mp H
 obtain ⟨t466,A20,H⟩:=H
 replace H : (if t466 = true then (spec_BatchOk.l0 k l0 0) else (some false)) = some r:=H
 have A2:=Aside0.mk A20
 clear A20
 by_cases c3 : t466 = true
 ·subst c3
  have H1 : (spec_BatchOk.l0 k l0 0) = some r:=by rw [if_pos rfl] at H;exact H
  clear H
  have H:=H1
  clear H1
  have H':=Aside0.mk H
  clear H
  go_enter Try.func31,Try.ntmps31
  go_wp2_with (first|((with_reducible refine gate_callee (f:=20) rfl ?_);refine goesL_ (some 5) rfl rfl Try.func20 Q1 rfl #[.slice A0 l0.length c0] rfl Q79 ?_;(with_reducible refine (spec_RowsOk.calls k _ _ l0 true _ ?side1 ?side2 A2.out).mono ?_);(case side1=>exact Q87);(case side2=>exact HC0.out);rintro e w4 ⟨rfl,hb⟩;refine ⟨_,rfl,?_⟩;have n0_:=am (below_step Q77 hb);clear HB;have HB:=n0_;clear n0_;(try clear hb);(try clear hb2);(try clear hk);(try clear hi)))
  go_loopg [3] k (fun kq v3 w'=>∃ (x3_1 : Int),v3 = .int .i64 x3_1 ∧ Aside0 (spec_BatchOk.l0 kq l0 x3_1 = some r) ∧ Aside0 (kq ≤ k) ∧ Aside0 (Below w.heap.size w w'))
  case atStart=>exact ⟨(0),Q5,H',⟨Nat.le_refl _⟩,⟨Q77⟩⟩
  case round =>
   clear H'
   try clear c2
   try clear p2
   try clear c3
   obtain ⟨x3_1,rfl,HA,HK1,HB⟩:=hrel
   cases gk with
   | zero=>exact absurd HA.out (by simp [spec_BatchOk.l0])
   | succ k1 =>
    have H:=HA.out
    clear HA
    simp only [spec_BatchOk.l0] at H
    by_cases c5 : x3_1 < (l0.length : Int)
    ·rw [if_pos c5] at H
     have c5b0 : decide (x3_1 < (l0.length : Int)) = true:=decide_eq_true c5
     clear c5
     have c6 : 0 ≤ x3_1:=nn_ H
     rw [if_pos c6] at H
     have c6b0 : decide (0 ≤ x3_1) = true:=decide_eq_true c6
     clear c6
     by_cases c7 : ((rd_T38 l0 x3_1).f3) = 0
     ·rw [if_pos c7] at H
      have c7b0 : (((rd_T38 l0 x3_1).f3) == 0) = true:=beq_iff_eq.mpr c7
      have c7b1 : (((rd_T38 l0 x3_1).f3) != 0) = false:=bne_eq_false_iff_eq.mpr c7
      clear c7
      obtain rfl:=Option.some.inj H
      try go_wp2
      have n0_:=am (below_drew1 HB.out)
      clear HB
      have HB:=n0_
      clear n0_
      have p467 : 0 ≤ (x3_1 : Int):=of_decide_eq_true Q6
      have q467 : x3_1 < (l0.length : Int):=of_decide_eq_true Q6
      obtain ⟨ad467,e467,hx467_0,hx467_1,hx467_2,hx467_3,hx467_4⟩:=at_T38 HR0.out x3_1 p467 q467
      have hw467_4:=hx467_4
      have hw467_3:=hx467_3
      have hw467_2:=hx467_2
      have hw467_1:=hx467_1
      have hw467_0:=hx467_0
      cases e467
      replace hx467_0:=cb_ HB hx467_0
      replace hx467_1:=cb_ HB hx467_1
      replace hx467_2:=cb_ HB hx467_2
      replace hx467_3:=cb_ HB hx467_3
      replace hx467_4:=cb_ HB hx467_4
      replace p467:=eq_true p467
      replace q467:=eq_true q467
      refine start_ (n:=23) (S:=fun w'=>w'.cell? (ad467.add ((x3_1).toNat * 5)) = some (.int .i64 ((rd_T38 l0 x3_1).f0)) ∧ w'.cell? ⟨(ad467.add ((x3_1).toNat * 5)).block,(ad467.add ((x3_1).toNat * 5)).off + 1,none⟩ = some (.int .i64 ((rd_T38 l0 x3_1).f1)) ∧ w'.cell? ⟨(ad467.add ((x3_1).toNat * 5)).block,(ad467.add ((x3_1).toNat * 5)).off + 2,none⟩ = some (.int .i64 ((rd_T38 l0 x3_1).f2.f0)) ∧ w'.cell? ⟨(ad467.add ((x3_1).toNat * 5)).block,(ad467.add ((x3_1).toNat * 5)).off + 3,none⟩ = some (.int .i64 ((rd_T38 l0 x3_1).f2.f1)) ∧ w'.cell? ⟨(ad467.add ((x3_1).toNat * 5)).block,(ad467.add ((x3_1).toNat * 5)).off + 4,none⟩ = some (.int .i64 ((rd_T38 l0 x3_1).f3))) (ds:=[]) b23_0 Q1 rfl rfl ⟨(cb_ HB hw467_0:),(cb_ HB hw467_1:),(cb_ HB hw467_2:),(cb_ HB hw467_3:),(cb_ HB hw467_4:)⟩ (fun hHeld=>?_);refine with_tabW spec_BatchOk.tab6 spec_BatchOk.bits6 (fun HT_ HW_=>?_)
      generalize wr.drew = w8 at HB hx467_0 hx467_1 hx467_2 hx467_3 hx467_4 hHeld ⊢
      refine pU_ 0 13 b23_1 ?_
      refine pU_ 1 14 b23_2 ?_
      refine pU_ 2 15 b23_3 ?_
      refine pU_ 3 16 b23_4 ?_
      refine tU_ 4 17 b23_5 hHeld ?_
      refine pU_ 5 18 b23_6 ?_
      refine pU_ 6 19 b23_7 ?_
      refine pV_ 7 20 b23_8 ?_
      refine pV_ 8 21 b23_9 ?_
      refine pV_ 9 22 b23_10 ?_
      refine pV_ 10 23 b23_11 ?_
      refine pV_ 11 24 b23_12 ?_
      refine pV_ 12 25 b23_13 ?_
      refine pV_ 13 26 b23_14 ?_
      refine pV_ 14 27 b23_15 ?_
      refine pV_ 15 28 b23_16 ?_
      refine pV_ 16 29 b23_17 ?_
      refine pV_ 17 30 b23_18 ?_
      refine pV_ 18 31 b23_19 ?_
      refine pV_ 19 32 b23_20 ?_
      refine pV_ 20 33 b23_21 ?_
      refine pV_ 21 34 b23_22 ?_
      refine pU_ 22 35 b23_23 ?_
      refine done_ (done_of HT_.out Q1) ?_
      try go_wp2
      go_ret
      exact ⟨Q17,Q77⟩
     ·rw [if_neg c7] at H
      have c7b0 : (((rd_T38 l0 x3_1).f3) == 0) = false:=beq_eq_false_iff_ne.mpr c7
      have c7b1 : (((rd_T38 l0 x3_1).f3) != 0) = true:=bne_iff_ne.mpr c7
      by_cases c9 : x3_1 > 0
      ·rw [if_pos c9] at H
       have c9b0 : decide (0 < x3_1) = true:=decide_eq_true c9
       clear c9
       obtain ⟨ji10,hji10⟩ : ∃ j_ : Int,(wrap64 (x3_1 - 1)) = j_:=⟨_,rfl⟩
       replace H : (if 0 ≤ (ji10) then (if (ji10) < (l0.length : Int) then ((spec_l2Comp.f k1 ((rd_T38 l0 (ji10)).f0) ((rd_T38 l0 (ji10)).f1) ((rd_T38 l0 (ji10)).f2.f0) ((rd_T38 l0 (ji10)).f2.f1) ((rd_T38 l0 (ji10)).f3) ((rd_T38 l0 x3_1).f0) ((rd_T38 l0 x3_1).f1) ((rd_T38 l0 x3_1).f2.f0) ((rd_T38 l0 x3_1).f2.f1) ((rd_T38 l0 x3_1).f3)).bind fun t470=>(if t470 ≥ 0 then (some false) else (spec_BatchOk.l0 k1 l0 (wrap64 (x3_1 + 1))))) else (none)) else (none)) = some r:=by first|(rw [hji10] at H;exact H)|(simp only [hji10] at H ⊢;exact H)
       have hji10w : (IntKind.i64.wrap (x3_1 - 1)) = ji10:=(i64_w _).trans hji10
       have c11 : 0 ≤ (ji10):=nn_ H
       rw [if_pos c11] at H
       have c11b0 : decide (0 ≤ (ji10)) = true:=decide_eq_true c11
       clear c11
       have c12 : (ji10) < (l0.length : Int):=nn_ H
       rw [if_pos c12] at H
       have c12b0 : decide ((ji10) < (l0.length : Int)) = true:=decide_eq_true c12
       clear c12
       replace H:=Option.bind_eq_some_iff.mp H
       obtain ⟨t470,A130,H⟩:=H
       replace H : (if t470 ≥ 0 then (some false) else (spec_BatchOk.l0 k1 l0 (wrap64 (x3_1 + 1)))) = some r:=H
       have A13:=Aside0.mk A130
       clear A130
       by_cases c14 : t470 ≥ 0
       ·rw [if_pos c14] at H
        have c14b0 : decide (0 ≤ t470) = true:=decide_eq_true c14
        clear c14
        obtain rfl:=Option.some.inj H
        try go_wp2
        have n0_:=am (below_drew1 HB.out)
        clear HB
        have HB:=n0_
        clear n0_
        have p467 : 0 ≤ (x3_1 : Int):=of_decide_eq_true Q6
        have q467 : x3_1 < (l0.length : Int):=of_decide_eq_true Q6
        obtain ⟨ad467,e467,hx467_0,hx467_1,hx467_2,hx467_3,hx467_4⟩:=at_T38 HR0.out x3_1 p467 q467
        have hw467_4:=hx467_4
        have hw467_3:=hx467_3
        have hw467_2:=hx467_2
        have hw467_1:=hx467_1
        have hw467_0:=hx467_0
        cases e467
        replace hx467_0:=cb_ HB hx467_0
        replace hx467_1:=cb_ HB hx467_1
        replace hx467_2:=cb_ HB hx467_2
        replace hx467_3:=cb_ HB hx467_3
        replace hx467_4:=cb_ HB hx467_4
        replace p467:=eq_true p467
        replace q467:=eq_true q467
        have p468 : 0 ≤ ((ji10) : Int):=of_decide_eq_true Q6
        have q468 : (ji10) < (l0.length : Int):=of_decide_eq_true Q6
        obtain ⟨ad468,e468,hx468_0,hx468_1,hx468_2,hx468_3,hx468_4⟩:=at_T38 HR0.out (ji10) p468 q468
        have hw468_4:=hx468_4
        have hw468_3:=hx468_3
        have hw468_2:=hx468_2
        have hw468_1:=hx468_1
        have hw468_0:=hx468_0
        obtain rfl : ad467 = ad468:=(by injection e468)
        replace hx468_0:=cb_ HB hx468_0
        replace hx468_1:=cb_ HB hx468_1
        replace hx468_2:=cb_ HB hx468_2
        replace hx468_3:=cb_ HB hx468_3
        replace hx468_4:=cb_ HB hx468_4
        replace p468:=eq_true p468
        replace q468:=eq_true q468
        have p469 : 0 ≤ (x3_1 : Int):=of_decide_eq_true Q6
        have q469 : x3_1 < (l0.length : Int):=of_decide_eq_true Q6
        obtain ⟨ad469,e469,hx469_0,hx469_1,hx469_2,hx469_3,hx469_4⟩:=at_T38 HR0.out x3_1 p469 q469
        have hw469_4:=hx469_4
        have hw469_3:=hx469_3
        have hw469_2:=hx469_2
        have hw469_1:=hx469_1
        have hw469_0:=hx469_0
        obtain rfl : ad467 = ad469:=(by injection e469)
        replace hx469_0:=cb_ HB hx469_0
        replace hx469_1:=cb_ HB hx469_1
        replace hx469_2:=cb_ HB hx469_2
        replace hx469_3:=cb_ HB hx469_3
        replace hx469_4:=cb_ HB hx469_4
        replace p469:=eq_true p469
        replace q469:=eq_true q469
        refine start_ (n:=23) (S:=fun w'=>w'.cell? (ad467.add ((x3_1).toNat * 5)) = some (.int .i64 ((rd_T38 l0 x3_1).f0)) ∧ w'.cell? ⟨(ad467.add ((x3_1).toNat * 5)).block,(ad467.add ((x3_1).toNat * 5)).off + 1,none⟩ = some (.int .i64 ((rd_T38 l0 x3_1).f1)) ∧ w'.cell? ⟨(ad467.add ((x3_1).toNat * 5)).block,(ad467.add ((x3_1).toNat * 5)).off + 2,none⟩ = some (.int .i64 ((rd_T38 l0 x3_1).f2.f0)) ∧ w'.cell? ⟨(ad467.add ((x3_1).toNat * 5)).block,(ad467.add ((x3_1).toNat * 5)).off + 3,none⟩ = some (.int .i64 ((rd_T38 l0 x3_1).f2.f1)) ∧ w'.cell? ⟨(ad467.add ((x3_1).toNat * 5)).block,(ad467.add ((x3_1).toNat * 5)).off + 4,none⟩ = some (.int .i64 ((rd_T38 l0 x3_1).f3)) ∧ w'.cell? (ad467.add (((ji10)).toNat * 5)) = some (.int .i64 ((rd_T38 l0 (ji10)).f0)) ∧ w'.cell? ⟨(ad467.add (((ji10)).toNat * 5)).block,(ad467.add (((ji10)).toNat * 5)).off + 1,none⟩ = some (.int .i64 ((rd_T38 l0 (ji10)).f1)) ∧ w'.cell? ⟨(ad467.add (((ji10)).toNat * 5)).block,(ad467.add (((ji10)).toNat * 5)).off + 2,none⟩ = some (.int .i64 ((rd_T38 l0 (ji10)).f2.f0)) ∧ w'.cell? ⟨(ad467.add (((ji10)).toNat * 5)).block,(ad467.add (((ji10)).toNat * 5)).off + 3,none⟩ = some (.int .i64 ((rd_T38 l0 (ji10)).f2.f1)) ∧ w'.cell? ⟨(ad467.add (((ji10)).toNat * 5)).block,(ad467.add (((ji10)).toNat * 5)).off + 4,none⟩ = some (.int .i64 ((rd_T38 l0 (ji10)).f3)) ∧ w'.cell? (ad467.add ((x3_1).toNat * 5)) = some (.int .i64 ((rd_T38 l0 x3_1).f0)) ∧ w'.cell? ⟨(ad467.add ((x3_1).toNat * 5)).block,(ad467.add ((x3_1).toNat * 5)).off + 1,none⟩ = some (.int .i64 ((rd_T38 l0 x3_1).f1)) ∧ w'.cell? ⟨(ad467.add ((x3_1).toNat * 5)).block,(ad467.add ((x3_1).toNat * 5)).off + 2,none⟩ = some (.int .i64 ((rd_T38 l0 x3_1).f2.f0)) ∧ w'.cell? ⟨(ad467.add ((x3_1).toNat * 5)).block,(ad467.add ((x3_1).toNat * 5)).off + 3,none⟩ = some (.int .i64 ((rd_T38 l0 x3_1).f2.f1)) ∧ w'.cell? ⟨(ad467.add ((x3_1).toNat * 5)).block,(ad467.add ((x3_1).toNat * 5)).off + 4,none⟩ = some (.int .i64 ((rd_T38 l0 x3_1).f3))) (ds:=[]) b23_0 Q1 rfl rfl ⟨(cb_ HB hw467_0:),(cb_ HB hw467_1:),(cb_ HB hw467_2:),(cb_ HB hw467_3:),(cb_ HB hw467_4:),(cb_ HB hw468_0:),(cb_ HB hw468_1:),(cb_ HB hw468_2:),(cb_ HB hw468_3:),(cb_ HB hw468_4:),(cb_ HB hw469_0:),(cb_ HB hw469_1:),(cb_ HB hw469_2:),(cb_ HB hw469_3:),(cb_ HB hw469_4:)⟩ (fun hHeld=>?_);refine with_tabW spec_BatchOk.tab6 spec_BatchOk.bits6 (fun HT_ HW_=>?_)
        generalize wr.drew = w15 at HB hx467_0 hx467_1 hx467_2 hx467_3 hx467_4 hx468_0 hx468_1 hx468_2 hx468_3 hx468_4 hx469_0 hx469_1 hx469_2 hx469_3 hx469_4 hHeld ⊢
        refine pU_ 0 13 b23_1 ?_
        refine pU_ 1 14 b23_2 ?_
        refine pU_ 2 15 b23_3 ?_
        refine pU_ 3 16 b23_4 ?_
        refine tU_ 4 17 b23_5 hHeld ?_
        refine pU_ 5 18 b23_6 ?_
        refine pU_ 6 19 b23_7 ?_
        refine pU_ 7 20 b23_8 ?_
        refine pU_ 8 21 b23_9 ?_
        refine pU_ 9 22 b23_10 ?_
        refine pU_ 10 23 b23_11 ?_
        refine pU_ 11 24 b23_12 ?_
        refine pU_ 12 25 b23_13 ?_
        refine pU_ 13 26 b23_14 ?_
        refine pU_ 15 28 c172 ?_
        refine pU_ 16 29 c173 ?_
        refine pU_ 17 30 c174 ?_
        refine tU_ 14 27 b23_18 hHeld ?_
        refine tU_ 18 31 b23_19 hHeld ?_
        refine one_ (i:=19) (N:=some 32) b23_20 rfl rfl (one_of HT_.out Q1) Q0 (fun K hK=>?_)
        refine goes_ Try.func71 Q1 rfl #[.agg #[.int .i64 ((rd_T38 l0 (ji10)).f0),.int .i64 ((rd_T38 l0 (ji10)).f1),.int .i64 ((rd_T38 l0 (ji10)).f2.f0),.int .i64 ((rd_T38 l0 (ji10)).f2.f1),.int .i64 ((rd_T38 l0 (ji10)).f3)],.agg #[.int .i64 ((rd_T38 l0 x3_1).f0),.int .i64 ((rd_T38 l0 x3_1).f1),.int .i64 ((rd_T38 l0 x3_1).f2.f0),.int .i64 ((rd_T38 l0 x3_1).f2.f1),.int .i64 ((rd_T38 l0 x3_1).f3)]] (by rfl) rfl rfl (by (try simp only [List.map_toArray,List.map_cons,List.map_nil]);first|done|(simp only [hji10];rfl)|rfl|(simp only [List.length_drop,List.length_take];rfl)) ?_
        with_reducible refine (spec_l2Comp.calls k1 ((rd_T38 l0 (ji10)).f0) ((rd_T38 l0 (ji10)).f1) ((rd_T38 l0 (ji10)).f2.f0) ((rd_T38 l0 (ji10)).f2.f1) ((rd_T38 l0 (ji10)).f3) ((rd_T38 l0 x3_1).f0) ((rd_T38 l0 x3_1).f1) ((rd_T38 l0 x3_1).f2.f0) ((rd_T38 l0 x3_1).f2.f1) ((rd_T38 l0 x3_1).f3) t470 _ A13.out).mono ?_
        rintro e w16 ⟨rfl,hb⟩
        refine ⟨_,rfl,?_⟩
        have n0_:=am (below_step Q77 hb)
        clear HB
        have HB:=n0_
        clear n0_
        (try clear hb)
        (try clear hb2)
        (try clear hk)
        (try clear hi)
        refine hK.out _ _ ⟨(cb_ HB hw467_0:),(cb_ HB hw467_1:),(cb_ HB hw467_2:),(cb_ HB hw467_3:),(cb_ HB hw467_4:),(cb_ HB hw468_0:),(cb_ HB hw468_1:),(cb_ HB hw468_2:),(cb_ HB hw468_3:),(cb_ HB hw468_4:),(cb_ HB hw469_0:),(cb_ HB hw469_1:),(cb_ HB hw469_2:),(cb_ HB hw469_3:),(cb_ HB hw469_4:)⟩ (fun hHeld=>?_)
        clear hK K
        refine norm_ (a':=?_) ?_ ?_
        rotate_left
        ·show Act.put _ (some 32) _ = _
         simp only [Act.put,sA_,sZ_,sS_,i64_w,i32_w]
         rfl
        refine pU_ 20 33 b23_21 ?_
        refine pU_ 21 34 b23_22 ?_
        refine pU_ 22 35 b23_23 ?_
        refine done_ (done_of HT_.out Q1) ?_
        try go_wp2
        go_ret
        exact ⟨by first|rfl|(simp [errW_none,errW_some] <;> rfl)|(simp only [← hji10];first|rfl|(simp [errW_none,errW_some] <;> rfl))|(simp [*,errW_none,errW_some] <;> rfl),Q77⟩
       ·rw [if_neg c14] at H
        have c14b0 : decide (0 ≤ t470) = false:=decide_eq_false c14
        clear c14
        have H':=Aside0.mk H
        clear H
        try go_wp2
        have n0_:=am (below_drew1 HB.out)
        clear HB
        have HB:=n0_
        clear n0_
        have p467 : 0 ≤ (x3_1 : Int):=of_decide_eq_true Q6
        have q467 : x3_1 < (l0.length : Int):=of_decide_eq_true Q6
        obtain ⟨ad467,e467,hx467_0,hx467_1,hx467_2,hx467_3,hx467_4⟩:=at_T38 HR0.out x3_1 p467 q467
        have hw467_4:=hx467_4
        have hw467_3:=hx467_3
        have hw467_2:=hx467_2
        have hw467_1:=hx467_1
        have hw467_0:=hx467_0
        cases e467
        replace hx467_0:=cb_ HB hx467_0
        replace hx467_1:=cb_ HB hx467_1
        replace hx467_2:=cb_ HB hx467_2
        replace hx467_3:=cb_ HB hx467_3
        replace hx467_4:=cb_ HB hx467_4
        replace p467:=eq_true p467
        replace q467:=eq_true q467
        have p468 : 0 ≤ ((ji10) : Int):=of_decide_eq_true Q6
        have q468 : (ji10) < (l0.length : Int):=of_decide_eq_true Q6
        obtain ⟨ad468,e468,hx468_0,hx468_1,hx468_2,hx468_3,hx468_4⟩:=at_T38 HR0.out (ji10) p468 q468
        have hw468_4:=hx468_4
        have hw468_3:=hx468_3
        have hw468_2:=hx468_2
        have hw468_1:=hx468_1
        have hw468_0:=hx468_0
        obtain rfl : ad467 = ad468:=(by injection e468)
        replace hx468_0:=cb_ HB hx468_0
        replace hx468_1:=cb_ HB hx468_1
        replace hx468_2:=cb_ HB hx468_2
        replace hx468_3:=cb_ HB hx468_3
        replace hx468_4:=cb_ HB hx468_4
        replace p468:=eq_true p468
        replace q468:=eq_true q468
        have p469 : 0 ≤ (x3_1 : Int):=of_decide_eq_true Q6
        have q469 : x3_1 < (l0.length : Int):=of_decide_eq_true Q6
        obtain ⟨ad469,e469,hx469_0,hx469_1,hx469_2,hx469_3,hx469_4⟩:=at_T38 HR0.out x3_1 p469 q469
        have hw469_4:=hx469_4
        have hw469_3:=hx469_3
        have hw469_2:=hx469_2
        have hw469_1:=hx469_1
        have hw469_0:=hx469_0
        obtain rfl : ad467 = ad469:=(by injection e469)
        replace hx469_0:=cb_ HB hx469_0
        replace hx469_1:=cb_ HB hx469_1
        replace hx469_2:=cb_ HB hx469_2
        replace hx469_3:=cb_ HB hx469_3
        replace hx469_4:=cb_ HB hx469_4
        replace p469:=eq_true p469
        replace q469:=eq_true q469
        refine start_ (n:=23) (S:=fun w'=>w'.cell? (ad467.add ((x3_1).toNat * 5)) = some (.int .i64 ((rd_T38 l0 x3_1).f0)) ∧ w'.cell? ⟨(ad467.add ((x3_1).toNat * 5)).block,(ad467.add ((x3_1).toNat * 5)).off + 1,none⟩ = some (.int .i64 ((rd_T38 l0 x3_1).f1)) ∧ w'.cell? ⟨(ad467.add ((x3_1).toNat * 5)).block,(ad467.add ((x3_1).toNat * 5)).off + 2,none⟩ = some (.int .i64 ((rd_T38 l0 x3_1).f2.f0)) ∧ w'.cell? ⟨(ad467.add ((x3_1).toNat * 5)).block,(ad467.add ((x3_1).toNat * 5)).off + 3,none⟩ = some (.int .i64 ((rd_T38 l0 x3_1).f2.f1)) ∧ w'.cell? ⟨(ad467.add ((x3_1).toNat * 5)).block,(ad467.add ((x3_1).toNat * 5)).off + 4,none⟩ = some (.int .i64 ((rd_T38 l0 x3_1).f3)) ∧ w'.cell? (ad467.add (((ji10)).toNat * 5)) = some (.int .i64 ((rd_T38 l0 (ji10)).f0)) ∧ w'.cell? ⟨(ad467.add (((ji10)).toNat * 5)).block,(ad467.add (((ji10)).toNat * 5)).off + 1,none⟩ = some (.int .i64 ((rd_T38 l0 (ji10)).f1)) ∧ w'.cell? ⟨(ad467.add (((ji10)).toNat * 5)).block,(ad467.add (((ji10)).toNat * 5)).off + 2,none⟩ = some (.int .i64 ((rd_T38 l0 (ji10)).f2.f0)) ∧ w'.cell? ⟨(ad467.add (((ji10)).toNat * 5)).block,(ad467.add (((ji10)).toNat * 5)).off + 3,none⟩ = some (.int .i64 ((rd_T38 l0 (ji10)).f2.f1)) ∧ w'.cell? ⟨(ad467.add (((ji10)).toNat * 5)).block,(ad467.add (((ji10)).toNat * 5)).off + 4,none⟩ = some (.int .i64 ((rd_T38 l0 (ji10)).f3)) ∧ w'.cell? (ad467.add ((x3_1).toNat * 5)) = some (.int .i64 ((rd_T38 l0 x3_1).f0)) ∧ w'.cell? ⟨(ad467.add ((x3_1).toNat * 5)).block,(ad467.add ((x3_1).toNat * 5)).off + 1,none⟩ = some (.int .i64 ((rd_T38 l0 x3_1).f1)) ∧ w'.cell? ⟨(ad467.add ((x3_1).toNat * 5)).block,(ad467.add ((x3_1).toNat * 5)).off + 2,none⟩ = some (.int .i64 ((rd_T38 l0 x3_1).f2.f0)) ∧ w'.cell? ⟨(ad467.add ((x3_1).toNat * 5)).block,(ad467.add ((x3_1).toNat * 5)).off + 3,none⟩ = some (.int .i64 ((rd_T38 l0 x3_1).f2.f1)) ∧ w'.cell? ⟨(ad467.add ((x3_1).toNat * 5)).block,(ad467.add ((x3_1).toNat * 5)).off + 4,none⟩ = some (.int .i64 ((rd_T38 l0 x3_1).f3))) (ds:=[]) b23_0 Q1 rfl rfl ⟨(cb_ HB hw467_0:),(cb_ HB hw467_1:),(cb_ HB hw467_2:),(cb_ HB hw467_3:),(cb_ HB hw467_4:),(cb_ HB hw468_0:),(cb_ HB hw468_1:),(cb_ HB hw468_2:),(cb_ HB hw468_3:),(cb_ HB hw468_4:),(cb_ HB hw469_0:),(cb_ HB hw469_1:),(cb_ HB hw469_2:),(cb_ HB hw469_3:),(cb_ HB hw469_4:)⟩ (fun hHeld=>?_);refine with_tabW spec_BatchOk.tab6 spec_BatchOk.bits6 (fun HT_ HW_=>?_)
        generalize wr.drew = w17 at HB hx467_0 hx467_1 hx467_2 hx467_3 hx467_4 hx468_0 hx468_1 hx468_2 hx468_3 hx468_4 hx469_0 hx469_1 hx469_2 hx469_3 hx469_4 hHeld ⊢
        refine pU_ 0 13 b23_1 ?_
        refine pU_ 1 14 b23_2 ?_
        refine pU_ 2 15 b23_3 ?_
        refine pU_ 3 16 b23_4 ?_
        refine tU_ 4 17 b23_5 hHeld ?_
        refine pU_ 5 18 b23_6 ?_
        refine pU_ 6 19 b23_7 ?_
        refine pU_ 7 20 b23_8 ?_
        refine pU_ 8 21 b23_9 ?_
        refine pU_ 9 22 b23_10 ?_
        refine pU_ 10 23 b23_11 ?_
        refine pU_ 11 24 b23_12 ?_
        refine pU_ 12 25 b23_13 ?_
        refine pU_ 13 26 b23_14 ?_
        refine pU_ 15 28 c172 ?_
        refine pU_ 16 29 c173 ?_
        refine pU_ 17 30 c174 ?_
        refine tU_ 14 27 b23_18 hHeld ?_
        refine tU_ 18 31 b23_19 hHeld ?_
        refine one_ (i:=19) (N:=some 32) b23_20 rfl rfl (one_of HT_.out Q1) Q0 (fun K hK=>?_)
        refine goes_ Try.func71 Q1 rfl #[.agg #[.int .i64 ((rd_T38 l0 (ji10)).f0),.int .i64 ((rd_T38 l0 (ji10)).f1),.int .i64 ((rd_T38 l0 (ji10)).f2.f0),.int .i64 ((rd_T38 l0 (ji10)).f2.f1),.int .i64 ((rd_T38 l0 (ji10)).f3)],.agg #[.int .i64 ((rd_T38 l0 x3_1).f0),.int .i64 ((rd_T38 l0 x3_1).f1),.int .i64 ((rd_T38 l0 x3_1).f2.f0),.int .i64 ((rd_T38 l0 x3_1).f2.f1),.int .i64 ((rd_T38 l0 x3_1).f3)]] (by rfl) rfl rfl (by (try simp only [List.map_toArray,List.map_cons,List.map_nil]);first|done|(simp only [hji10];rfl)|rfl|(simp only [List.length_drop,List.length_take];rfl)) ?_
        with_reducible refine (spec_l2Comp.calls k1 ((rd_T38 l0 (ji10)).f0) ((rd_T38 l0 (ji10)).f1) ((rd_T38 l0 (ji10)).f2.f0) ((rd_T38 l0 (ji10)).f2.f1) ((rd_T38 l0 (ji10)).f3) ((rd_T38 l0 x3_1).f0) ((rd_T38 l0 x3_1).f1) ((rd_T38 l0 x3_1).f2.f0) ((rd_T38 l0 x3_1).f2.f1) ((rd_T38 l0 x3_1).f3) t470 _ A13.out).mono ?_
        rintro e w18 ⟨rfl,hb⟩
        refine ⟨_,rfl,?_⟩
        have n0_:=am (below_step Q77 hb)
        clear HB
        have HB:=n0_
        clear n0_
        (try clear hb)
        (try clear hb2)
        (try clear hk)
        (try clear hi)
        refine hK.out _ _ ⟨(cb_ HB hw467_0:),(cb_ HB hw467_1:),(cb_ HB hw467_2:),(cb_ HB hw467_3:),(cb_ HB hw467_4:),(cb_ HB hw468_0:),(cb_ HB hw468_1:),(cb_ HB hw468_2:),(cb_ HB hw468_3:),(cb_ HB hw468_4:),(cb_ HB hw469_0:),(cb_ HB hw469_1:),(cb_ HB hw469_2:),(cb_ HB hw469_3:),(cb_ HB hw469_4:)⟩ (fun hHeld=>?_)
        clear hK K
        refine norm_ (a':=?_) ?_ ?_
        rotate_left
        ·show Act.put _ (some 32) _ = _
         simp only [Act.put,sA_,sZ_,sS_,i64_w,i32_w]
         rfl
        refine pU_ 20 33 b23_21 ?_
        refine pU_ 21 34 b23_22 ?_
        refine pU_ 22 35 b23_23 ?_
        refine done_ (done_of HT_.out Q1) ?_
        try go_wp2
        go_roundg k1
        case measure=>have:=HK1.out;omega
        case rel=>exact ⟨(wrap64 (x3_1 + 1)),Q5,H',⟨Q2⟩,⟨Q77⟩⟩
      ·rw [if_neg c9] at H
       have c9b0 : decide (0 < x3_1) = false:=decide_eq_false c9
       clear c9
       have H':=Aside0.mk H
       clear H
       try go_wp2
       have n0_:=am (below_drew1 HB.out)
       clear HB
       have HB:=n0_
       clear n0_
       have p467 : 0 ≤ (x3_1 : Int):=of_decide_eq_true Q6
       have q467 : x3_1 < (l0.length : Int):=of_decide_eq_true Q6
       obtain ⟨ad467,e467,hx467_0,hx467_1,hx467_2,hx467_3,hx467_4⟩:=at_T38 HR0.out x3_1 p467 q467
       have hw467_4:=hx467_4
       have hw467_3:=hx467_3
       have hw467_2:=hx467_2
       have hw467_1:=hx467_1
       have hw467_0:=hx467_0
       cases e467
       replace hx467_0:=cb_ HB hx467_0
       replace hx467_1:=cb_ HB hx467_1
       replace hx467_2:=cb_ HB hx467_2
       replace hx467_3:=cb_ HB hx467_3
       replace hx467_4:=cb_ HB hx467_4
       replace p467:=eq_true p467
       replace q467:=eq_true q467
       refine start_ (n:=23) (S:=fun w'=>w'.cell? (ad467.add ((x3_1).toNat * 5)) = some (.int .i64 ((rd_T38 l0 x3_1).f0)) ∧ w'.cell? ⟨(ad467.add ((x3_1).toNat * 5)).block,(ad467.add ((x3_1).toNat * 5)).off + 1,none⟩ = some (.int .i64 ((rd_T38 l0 x3_1).f1)) ∧ w'.cell? ⟨(ad467.add ((x3_1).toNat * 5)).block,(ad467.add ((x3_1).toNat * 5)).off + 2,none⟩ = some (.int .i64 ((rd_T38 l0 x3_1).f2.f0)) ∧ w'.cell? ⟨(ad467.add ((x3_1).toNat * 5)).block,(ad467.add ((x3_1).toNat * 5)).off + 3,none⟩ = some (.int .i64 ((rd_T38 l0 x3_1).f2.f1)) ∧ w'.cell? ⟨(ad467.add ((x3_1).toNat * 5)).block,(ad467.add ((x3_1).toNat * 5)).off + 4,none⟩ = some (.int .i64 ((rd_T38 l0 x3_1).f3))) (ds:=[]) b23_0 Q1 rfl rfl ⟨(cb_ HB hw467_0:),(cb_ HB hw467_1:),(cb_ HB hw467_2:),(cb_ HB hw467_3:),(cb_ HB hw467_4:)⟩ (fun hHeld=>?_);refine with_tabW spec_BatchOk.tab6 spec_BatchOk.bits6 (fun HT_ HW_=>?_)
       generalize wr.drew = w19 at HB hx467_0 hx467_1 hx467_2 hx467_3 hx467_4 hHeld ⊢
       refine pU_ 0 13 b23_1 ?_
       refine pU_ 1 14 b23_2 ?_
       refine pU_ 2 15 b23_3 ?_
       refine pU_ 3 16 b23_4 ?_
       refine tU_ 4 17 b23_5 hHeld ?_
       refine pU_ 5 18 b23_6 ?_
       refine pU_ 6 19 b23_7 ?_
       refine pU_ 7 20 b23_8 ?_
       refine pU_ 8 21 b23_9 ?_
       refine pU_ 9 22 b23_10 ?_
       refine pV_ 10 23 b23_11 ?_
       refine pV_ 11 24 b23_12 ?_
       refine pV_ 12 25 b23_13 ?_
       refine pV_ 13 26 b23_14 ?_
       refine pV_ 14 27 b23_15 ?_
       refine pV_ 15 28 b23_16 ?_
       refine pV_ 16 29 b23_17 ?_
       refine pV_ 17 30 b23_18 ?_
       refine pV_ 18 31 b23_19 ?_
       refine pV_ 19 32 b23_20 ?_
       refine pV_ 20 33 b23_21 ?_
       refine pU_ 21 34 b23_22 ?_
       refine pU_ 22 35 b23_23 ?_
       refine done_ (done_of HT_.out Q1) ?_
       try go_wp2
       go_roundg k1
       case measure=>have:=HK1.out;omega
       case rel=>exact ⟨(wrap64 (x3_1 + 1)),Q5,H',⟨Q2⟩,⟨Q77⟩⟩
    ·rw [if_neg c5] at H
     have c5b0 : decide (x3_1 < (l0.length : Int)) = false:=decide_eq_false c5
     clear c5
     obtain rfl:=Option.some.inj H
     go_wp2
     go_ret
     exact ⟨Q17,Q77⟩
 ·replace c3:=Bool.eq_false_iff.mpr c3
  subst c3
  have H1 : (some false) = some r:=by rw [if_neg (show ¬ (false = true) by decide)] at H;exact H
  clear H
  have H:=H1
  clear H1
  obtain rfl:=Option.some.inj H
  go_enter Try.func31,Try.ntmps31
  go_wp2_with (first|((with_reducible refine gate_callee (f:=20) rfl ?_);refine goesL_ (some 5) rfl rfl Try.func20 Q1 rfl #[.slice A0 l0.length c0] rfl Q79 ?_;(with_reducible refine (spec_RowsOk.calls k _ _ l0 false _ ?side1 ?side2 A2.out).mono ?_);(case side1=>exact Q87);(case side2=>exact HC0.out);rintro e w20 ⟨rfl,hb⟩;refine ⟨_,rfl,?_⟩;have n0_:=am (below_step Q77 hb);clear HB;have HB:=n0_;clear n0_;(try clear hb);(try clear hb2);(try clear hk);(try clear hi)))
  go_ret
  exact ⟨Q17,Q77⟩
def spec_l2Fit.f (k : Nat) (l0 : List (S38)) : Option ((List (S38))) := (spec_BatchOk.f k l0).bind fun t471 => (if t471 = true then (some l0) else (some (([] : List (S38)))))
set_option maxHeartbeats 8000000 in
set_option maxRecDepth 100000 in
theorem spec_l2Fit.calls (k : Nat) (P0_ : Nat → Prop) (u9000_ : Value) (l0 : List (S38)) (r : List (S38)) (w0 w : World) (hB : Below w0.heap.size w0 w) (ho0 : Kd.R k38 38 w w0.heap.size P0_ u9000_ l0) (h : spec_l2Fit.f k l0 = some r) :
  Calls Try.prog 57 #[u9000_] w fun e w'=>∃ v0_ : Value,e = .returned (v0_) ∧ Kd.R k38 38 w' w0.heap.size (fun k_=>(P0_ k_ ∨ w.heap.size ≤ k_)) v0_ r ∧ Below w0.heap.size w0 w' ∧ Kept w w' (fun k_=>P0_ k_):=by
 have HO0:=am (show Kd.R k38 38 w w0.heap.size (fun k_=>(P0_ k_ ∨ w.heap.size ≤ k_)) u9000_ l0 from Kd.R_mono ho0 (fun k_ hk=>(.inl hk)))
 have HK:=am (Kept.refl w (fun k_=>P0_ k_))
 have HW0:=Aside0.mk hB.size
 have HB:=Aside0.mk hB
 clear hB
 have H : ((spec_BatchOk.f k l0).bind fun t471=>(if t471 = true then (some l0) else (some (([] : List (S38)))))) = some r:=h
 clear h
 replace H:=Option.bind_eq_some_iff.mp H
 obtain ⟨t471,A20,H⟩:=H
 replace H : (if t471 = true then (some l0) else (some (([] : List (S38))))) = some r:=H
 have A2:=Aside0.mk A20
 clear A20
 by_cases c3 : t471 = true
 ·subst c3
  have H1 : (some l0) = some r:=by rw [if_pos rfl] at H;exact H
  clear H
  have H:=H1
  clear H1
  obtain rfl:=Option.some.inj H
  obtain ⟨Ao4,co4,eo4⟩:=Kd.R_slice HO0.out
  subst eo4
  go_enter Try.func57,Try.ntmps57
  go_wp2_with (first|((with_reducible refine gate_callee (f:=31) rfl ?_);refine goesL_ (some 4) rfl rfl Try.func31 Q1 rfl #[.slice Ao4 l0.length co4] rfl Q79 ?_;(with_reducible refine (spec_BatchOk.calls k _ _ l0 true _ ?side1 ?side2 A2.out).mono ?_);(case side1=>exact (by repeat (first|exact (Kd.R_reads' HO0.out).2.2|(with_reducible refine Kd.C_alloc ?_ _)|(with_reducible refine Kd.C_drewN ?_ _)|(with_reducible refine Kd.C_drew ?_))));(case side2=>exact (Kd.R_reads' HO0.out).2.1);rintro e w5 ⟨rfl,hb⟩;refine ⟨_,rfl,?_⟩;have n0_:=am (Kd.R_below Q19 hb);have n1_:=am (Kept.below (S:=(fun k_=>P0_ k_)) Q76 hb);have n2_:=am (below_step Q77 hb);clear HO0 HK HB;have HO0:=n0_;have HK:=n1_;have HB:=n2_;clear n0_ n1_ n2_;(try clear hb);(try clear hb2);(try clear hk);(try clear hi)))
  go_ret
  exact ⟨_,Q17,Q19,Q77,Q76⟩
 ·replace c3:=Bool.eq_false_iff.mpr c3
  subst c3
  have H1 : (some (([] : List (S38)))) = some r:=by rw [if_neg (show ¬ (false = true) by decide)] at H;exact H
  clear H
  have H:=H1
  clear H1
  obtain ⟨y472,hy_⟩ : ∃ y_ : List (S38),y_ = (([] : List (S38))):=⟨_,rfl⟩
  replace H : (some y472) = some r:=Q156
  have Ny472:=Aside0.mk hy_
  clear hy_
  obtain rfl:=Option.some.inj H
  obtain ⟨Ao6,co6,eo6⟩:=Kd.R_slice HO0.out
  subst eo6
  go_enter Try.func57,Try.ntmps57
  go_wp2_with (first|((with_reducible refine gate_callee (f:=31) rfl ?_);refine goesL_ (some 4) rfl rfl Try.func31 Q1 rfl #[.slice Ao6 l0.length co6] rfl Q79 ?_;(with_reducible refine (spec_BatchOk.calls k _ _ l0 false _ ?side1 ?side2 A2.out).mono ?_);(case side1=>exact (by repeat (first|exact (Kd.R_reads' HO0.out).2.2|(with_reducible refine Kd.C_alloc ?_ _)|(with_reducible refine Kd.C_drewN ?_ _)|(with_reducible refine Kd.C_drew ?_))));(case side2=>exact (Kd.R_reads' HO0.out).2.1);rintro e w7 ⟨rfl,hb⟩;refine ⟨_,rfl,?_⟩;have n0_:=am (Kd.R_below Q19 hb);have n1_:=am (Kept.below (S:=(fun k_=>P0_ k_)) Q76 hb);have n2_:=am (below_step Q77 hb);clear HO0 HK HB;have HO0:=n0_;have HK:=n1_;have HB:=n2_;clear n0_ n1_ n2_;(try clear hb);(try clear hb2);(try clear hk);(try clear hi))|((with_reducible refine gate_dst (N:=6) rfl ?_);refine Kd.R_lit k38 _ 38 ?hg (N:=6) ?hd (xs:=([] : List (S38))) (inner:=[]) (ok:=fun _=>True) (okp:=fun _=>True) ?hr ?hp (fun _ hk=>hk) trivial (Below.refl _ _) (Nat.le_refl _) (by simp) ?_;(case hd=>rfl);(case hg=>rfl);(case hr=>first|(go_simp;done)|(go_simp;rfl));(case hp=>exact (Reps.none _ _));intro v473 w8 ho9 hb hg_ hnew_;clear hg_ hnew_;(first|rw [← Ny472.out] at ho9|(simp only [Int.reduceToNat] at ho9;rw [← Ny472.out] at ho9));have n0_:=am (Kd.R_elder' Q19 (Kd.R_base ho9) hb);have n1_:=am (Kd.R_lower (Kd.R_new' (Kd.R_newM (M:=fun k_=>(P0_ k_ ∨ w.heap.size ≤ k_)) ho9 (by first|exact HK.out.1|exact (show Kept w _ (fun k_=>P0_ k_) from by repeat (first|(with_reducible first|exact HK.out|apply Kept.alloc|apply Kept.drewN|apply Kept.drew)|exact HK.out)).1) (fun k_ h_=>.inr h_)) (Kd.R_lt Q19)) (below_size Q77));have n2_:=am (Kept.below (S:=(fun k_=>P0_ k_)) Q76 hb);have n3_:=am (below_step Q77 hb);clear HO0 HK HB;have HO0:=n0_;have HO474:=n1_;have HK:=n2_;have HB:=n3_;clear n0_ n1_ n2_ n3_;clear hb ho9))
  go_ret
  exact ⟨_,Q17,by (with_reducible repeat (first|apply Kd.R_alloc|apply Kd.R_drewN|apply Kd.R_drew));exact Kd.R_mono HO474.out (fun _ hk=>hk.1.1),Q77,Q76⟩
mutual
def spec_l2Put.l0 : Nat → List (S38) → List (S38) → Bool → Int → Int → Int → Int → Int → Int → Option ((List (S38)))
 | 0, _, _, _, _, _, _, _, _, _ => none
 | k + 1, x0, x5, x6, x7, x476000, x476001, x476002, x476003, x476004 => if x7 < (x0.length : Int) then (if 0 ≤ x7 then ((spec_l2Comp.f k ((rd_T38 x0 x7).f0) ((rd_T38 x0 x7).f1) ((rd_T38 x0 x7).f2.f0) ((rd_T38 x0 x7).f2.f1) ((rd_T38 x0 x7).f3) x476000 x476001 x476002 x476003 x476004).bind fun t483 => (if x6 = true then (spec_l2Put.j1 k x0 x5 x6 x7 t483 false x476000 x476001 x476002 x476003 x476004) else (spec_l2Put.j1 k x0 x5 x6 x7 t483 (decide (t483 > 0)) x476000 x476001 x476002 x476003 x476004))) else (none)) else (if x6 = true then (some x5) else (if x5.length < 3518437208883 then (some (x5 ++ [(⟨x476000, x476001, (⟨x476002, x476003⟩ : S36), x476004⟩ : S38)])) else (none)))
def spec_l2Put.j1 : Nat → List (S38) → List (S38) → Bool → Int → Int → Bool → Int → Int → Int → Int → Int → Option ((List (S38)))
 | 0, _, _, _, _, _, _, _, _, _, _, _ => none
 | k + 1, x0, x5, x6, x7, x8, x27, x476000, x476001, x476002, x476003, x476004 => if x27 = true then (if x5.length < 3518437208883 then ((some (x5 ++ [(⟨x476000, x476001, (⟨x476002, x476003⟩ : S36), x476004⟩ : S38)] : List (S38))).bind fun y484 => (if 0 ≤ x7 then (if x7 < (x0.length : Int) then (if y484.length < 3518437208883 then (spec_l2Put.l0 k x0 (y484 ++ [(⟨(rd_T38 x0 x7).f0, (rd_T38 x0 x7).f1, (⟨(rd_T38 x0 x7).f2.f0, (rd_T38 x0 x7).f2.f1⟩ : S36), (rd_T38 x0 x7).f3⟩ : S38)]) true (wrap64 (x7 + 1)) x476000 x476001 x476002 x476003 x476004) else (none)) else (none)) else (none))) else (none)) else (if x6 = true then (if 0 ≤ x7 then (if x7 < (x0.length : Int) then (if x5.length < 3518437208883 then (spec_l2Put.l0 k x0 (x5 ++ [(⟨(rd_T38 x0 x7).f0, (rd_T38 x0 x7).f1, (⟨(rd_T38 x0 x7).f2.f0, (rd_T38 x0 x7).f2.f1⟩ : S36), (rd_T38 x0 x7).f3⟩ : S38)]) x6 (wrap64 (x7 + 1)) x476000 x476001 x476002 x476003 x476004) else (none)) else (none)) else (none)) else (if x8 = 0 then (if 0 ≤ x7 then (if x7 < (x0.length : Int) then (if x5.length < 3518437208883 then (spec_l2Put.l0 k x0 (x5 ++ [(⟨x476000, x476001, (⟨x476002, x476003⟩ : S36), wrap64 (x476004 + ((rd_T38 x0 x7).f3))⟩ : S38)]) true (wrap64 (x7 + 1)) x476000 x476001 x476002 x476003 (wrap64 (x476004 + ((rd_T38 x0 x7).f3)))) else (none)) else (none)) else (none)) else (if 0 ≤ x7 then (if x7 < (x0.length : Int) then (if x5.length < 3518437208883 then (spec_l2Put.l0 k x0 (x5 ++ [(⟨(rd_T38 x0 x7).f0, (rd_T38 x0 x7).f1, (⟨(rd_T38 x0 x7).f2.f0, (rd_T38 x0 x7).f2.f1⟩ : S36), (rd_T38 x0 x7).f3⟩ : S38)]) x6 (wrap64 (x7 + 1)) x476000 x476001 x476002 x476003 x476004) else (none)) else (none)) else (none))))
end
def spec_l2Put.f (k : Nat) (l0 : List (S38)) (a1_0 : Int) (a1_1 : Int) (a1_2 : Int) (a1_3 : Int) (a1_4 : Int) : Option ((List (S38))) := spec_l2Put.l0 k l0 (([] : List (S38))) false 0 a1_0 a1_1 a1_2 a1_3 a1_4
def spec_l2Put.T11 : Bool × List (List Nat × List Nat) := (true, [([], []), ([0], [0]), ([], []), ([], []), ([2, 3], [2, 3]), ([4], [4]), ([5], [5]), ([1, 6], [1, 6]), ([0, 1, 2, 3, 4, 5, 6, 7], []), ([8, 7, 0, 1, 2, 3, 4, 5, 6, 7], [7, 8])])
def spec_l2Put.B11 : List Nat := [0, 1, 0, 0, 12, 28, 60, 127, 255, 511]
theorem spec_l2Put.tab11 : rtab .any (opsOf Try.f88 11) = spec_l2Put.T11:=by kernel_rfl
theorem spec_l2Put.bits11 : waitsOk spec_l2Put.T11.2 spec_l2Put.B11 = true:=by kernel_rfl
end Go.Proofs.Ytjlkffmdmifahaa.PFnBatchMoveBoth
