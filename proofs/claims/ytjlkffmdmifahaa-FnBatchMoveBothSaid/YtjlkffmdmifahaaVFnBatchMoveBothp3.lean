/- Functions that the law comes to: each as a plain Lean function, with the contract of the Go function. -/
import Derived.Test.YtjlkffmdmifahaaVFnBatchMoveBothw
import Derived.Test.YtjlkffmdmifahaaVFnBatchMoveBothp0
import Derived.Test.YtjlkffmdmifahaaVFnBatchMoveBothp1
import Derived.Test.YtjlkffmdmifahaaVFnBatchMoveBothp2
import Derived.Test.YtjlkffmdmifahaaVFnBatchMoveBothg0
namespace Go.Proofs.Ytjlkffmdmifahaa.PFnBatchMoveBoth
open Go.RowKit Go.Proofs.YtjlkffmdmifahaaW.PrintWords Go.Proofs.YtjlkffmdmifahaaW.PrintLast Go.Proofs.YtjlkffmdmifahaaW.PrintMore
attribute [local go_sem] max2_int min2_int max_two min_two max_three min_three max_four min_four
set_option linter.unusedVariables false
set_option linter.unusedSimpArgs false
attribute [local go_sem high] eqA36 eqA38
set_option maxHeartbeats 8000000 in
set_option maxRecDepth 100000 in
theorem spec_DrawBatchMove.calls (k : Nat) (A0 : Option Addr) (c0 : Nat) (l0 : List Int) (r1 : List (S38)) (r2 : List (S36)) (w : World) (hr0 : Kd.C (Kd.int .u8) w A0 l0.length l0) (hc0 : l0.length ≤ c0) (h : spec_DrawBatchMove.f k l0 = some (r1,r2)) :
  Calls Try.prog 15 #[.slice A0 l0.length c0] w fun e w'=>∃ v0_ v1_ : Value,e = .returned (.tuple #[v0_,v1_]) ∧ Kd.R k38 38 w' w.heap.size (fun _=>True) v0_ r1 ∧ Kd.R k36 36 w' w.heap.size (fun _=>True) v1_ r2 ∧ Below w.heap.size w w':=by
 have HR0:=Aside0.mk hr0
 have HC0:=Aside0.mk hc0
 clear hr0 hc0
 have HB:=am (Below.refl w.heap.size w)
 have H : ((spec_l6Open.f l0).bind fun bt332=>((spec_l71Any.f k bt332.1 bt332.2).bind fun bt335=>((spec_l71Some.f k bt332.1 bt335.2).bind fun bt339=>(some (bt335.1,bt339.1))))) = some (r1,r2):=h
 clear h
 replace H:=Option.bind_eq_some_iff.mp H
 obtain ⟨⟨t332,t333⟩,A20,H⟩:=H
 replace H : ((spec_l71Any.f k t332 t333).bind fun bt335=>((spec_l71Some.f k t332 bt335.2).bind fun bt339=>(some (bt335.1,bt339.1)))) = some (r1,r2):=H
 have A2:=Aside0.mk A20
 clear A20
 replace H:=Option.bind_eq_some_iff.mp H
 obtain ⟨⟨t335,t338⟩,A30,H⟩:=H
 replace H : ((spec_l71Some.f k t332 t338).bind fun bt339=>(some (t335,bt339.1))) = some (r1,r2):=H
 have A3:=Aside0.mk A30
 clear A30
 replace H:=Option.bind_eq_some_iff.mp H
 obtain ⟨⟨t339,t342⟩,A40,H⟩:=H
 replace H : (some (t335,t339)) = some (r1,r2):=H
 have A4:=Aside0.mk A40
 clear A40
 simp only [Option.some.injEq,Prod.mk.injEq] at H
 obtain ⟨rfl,rfl⟩:=H
 go_enter Try.func15,Try.ntmps15
 go_wp2_with (first|((with_reducible refine gate_callee (f:=50) rfl ?_);refine goesL_ (some 6) rfl rfl Try.func50 Q1 rfl #[.slice A0 l0.length c0] rfl Q79 ?_;(with_reducible refine (spec_l6Open.calls _ _ l0 t332 t333 w _ ?side1 ?side2 ?side3 A2.out).mono ?_);(case side1=>exact Q77);(case side2=>exact HR0.out);(case side3=>exact HC0.out);rintro e w5 ⟨g334,rfl,hi,hb,hb2⟩;refine ⟨_,rfl,?_⟩;have n0_:=am (hb);have n1_:=am (hi);clear HB;have HB:=n0_;have HI334:=n1_;clear n0_ n1_;(try clear hb);(try clear hb2);(try clear hk);(try clear hi))|((with_reducible refine gate_callee (f:=51) rfl ?_);refine goesL_ (some 8) rfl rfl Try.func51 Q1 rfl #[.pointer (some ⟨g334,0,none⟩)] rfl Q79 ?_;(with_reducible refine (spec_l71Any.calls k g334 t332 t333 t335 t338 w _ ?side1 ?side2 A3.out).mono ?_);(case side1=>exact (by repeat (first|(with_reducible first|exact HI334.out|apply IsS87.alloc|apply IsS87.drewN|apply IsS87.drew|apply IsS87.set_1)|exact HI334.out)));(case side2=>exact Q115);rintro e w6 ⟨v336,rfl,ho0,hi,hb,hk⟩;refine ⟨_,rfl,?_⟩;have n0_:=am (Kd.R_lower ho0 (below_size Q115));have n1_:=am (hb);have n2_:=am (hi);clear HB HI334;have HO337:=n0_;have HB:=n1_;have HI334:=n2_;clear n0_ n1_ n2_;(try clear hb);(try clear hb2);(try clear hk);(try clear hi);(try clear ho0))|((with_reducible refine gate_callee (f:=52) rfl ?_);refine goesL_ (some 10) rfl rfl Try.func52 Q1 rfl #[.pointer (some ⟨g334,0,none⟩)] rfl Q79 ?_;(with_reducible refine (spec_l71Some.calls k g334 t332 t338 t339 t342 w _ ?side1 ?side2 A4.out).mono ?_);(case side1=>exact (by repeat (first|(with_reducible first|exact HI334.out|apply IsS87.alloc|apply IsS87.drewN|apply IsS87.drew|apply IsS87.set_1)|exact HI334.out)));(case side2=>exact Q115);rintro e w7 ⟨v340,rfl,ho0,hi,hb,hk⟩;refine ⟨_,rfl,?_⟩;have n0_:=am (Kd.R_mono (Kd.R_keep (IsS87.apart (show IsS87 w _ g334 t332 t338 from by repeat (first|(with_reducible first|exact HI334.out|apply IsS87.alloc|apply IsS87.drewN|apply IsS87.drew|apply IsS87.set_1)|exact HI334.out)) (by (with_reducible repeat (first|apply Kd.R_alloc|apply Kd.R_drewN|apply Kd.R_drew));exact HO337.out) Q0) hk (fun _ h=>h.2)) (fun _ h=>h.1));have n1_:=am (Kd.R_lower ho0 (below_size Q115));have n2_:=am (hb);have n3_:=am (hi);clear HO337 HB HI334;have HO337:=n0_;have HO341:=n1_;have HB:=n2_;have HI334:=n3_;clear n0_ n1_ n2_ n3_;(try clear hb);(try clear hb2);(try clear hk);(try clear hi);(try clear ho0)))
 go_ret2
 exact ⟨_,_,Q17,by (with_reducible repeat (first|apply Kd.R_alloc|apply Kd.R_drewN|apply Kd.R_drew));exact HO337.out,by (with_reducible repeat (first|apply Kd.R_alloc|apply Kd.R_drewN|apply Kd.R_drew));exact HO341.out,Q115⟩
def spec_DrawBatchOf.f (k : Nat) (l0 : List Int) : Option ((List (S38))) := (spec_l6Open.f l0).bind fun bt343 => ((spec_l71Any.f k bt343.1 bt343.2).bind fun bt346 => (some bt346.1))
set_option maxHeartbeats 8000000 in
set_option maxRecDepth 100000 in
theorem spec_DrawBatchOf.calls (k : Nat) (A0 : Option Addr) (c0 : Nat) (l0 : List Int) (r : List (S38)) (w : World) (hr0 : Kd.C (Kd.int .u8) w A0 l0.length l0) (hc0 : l0.length ≤ c0) (h : spec_DrawBatchOf.f k l0 = some r) :
  Calls Try.prog 16 #[.slice A0 l0.length c0] w fun e w'=>∃ v0_ : Value,e = .returned (v0_) ∧ Kd.R k38 38 w' w.heap.size (fun _=>True) v0_ r ∧ Below w.heap.size w w':=by
 have HR0:=Aside0.mk hr0
 have HC0:=Aside0.mk hc0
 clear hr0 hc0
 have HB:=am (Below.refl w.heap.size w)
 have H : ((spec_l6Open.f l0).bind fun bt343=>((spec_l71Any.f k bt343.1 bt343.2).bind fun bt346=>(some bt346.1))) = some r:=h
 clear h
 replace H:=Option.bind_eq_some_iff.mp H
 obtain ⟨⟨t343,t344⟩,A20,H⟩:=H
 replace H : ((spec_l71Any.f k t343 t344).bind fun bt346=>(some bt346.1)) = some r:=H
 have A2:=Aside0.mk A20
 clear A20
 replace H:=Option.bind_eq_some_iff.mp H
 obtain ⟨⟨t346,t349⟩,A30,H⟩:=H
 replace H : (some t346) = some r:=H
 have A3:=Aside0.mk A30
 clear A30
 obtain rfl:=Option.some.inj H
 go_enter Try.func16,Try.ntmps16
 go_wp2_with (first|((with_reducible refine gate_callee (f:=50) rfl ?_);refine goesL_ (some 4) rfl rfl Try.func50 Q1 rfl #[.slice A0 l0.length c0] rfl Q79 ?_;(with_reducible refine (spec_l6Open.calls _ _ l0 t343 t344 w _ ?side1 ?side2 ?side3 A2.out).mono ?_);(case side1=>exact Q77);(case side2=>exact HR0.out);(case side3=>exact HC0.out);rintro e w4 ⟨g345,rfl,hi,hb,hb2⟩;refine ⟨_,rfl,?_⟩;have n0_:=am (hb);have n1_:=am (hi);clear HB;have HB:=n0_;have HI345:=n1_;clear n0_ n1_;(try clear hb);(try clear hb2);(try clear hk);(try clear hi))|((with_reducible refine gate_callee (f:=51) rfl ?_);refine goesL_ (some 5) rfl rfl Try.func51 Q1 rfl #[.pointer (some ⟨g345,0,none⟩)] rfl Q79 ?_;(with_reducible refine (spec_l71Any.calls k g345 t343 t344 t346 t349 w _ ?side1 ?side2 A3.out).mono ?_);(case side1=>exact (by repeat (first|(with_reducible first|exact HI345.out|apply IsS87.alloc|apply IsS87.drewN|apply IsS87.drew|apply IsS87.set_1)|exact HI345.out)));(case side2=>exact Q116);rintro e w5 ⟨v347,rfl,ho0,hi,hb,hk⟩;refine ⟨_,rfl,?_⟩;have n0_:=am (Kd.R_lower ho0 (below_size Q116));have n1_:=am (hb);have n2_:=am (hi);clear HB HI345;have HO348:=n0_;have HB:=n1_;have HI345:=n2_;clear n0_ n1_ n2_;(try clear hb);(try clear hb2);(try clear hk);(try clear hi);(try clear ho0)))
 go_ret
 exact ⟨_,Q17,by (with_reducible repeat (first|apply Kd.R_alloc|apply Kd.R_drewN|apply Kd.R_drew));exact HO348.out,Q116⟩
def impl_TimeOk.f (a0_0 : Int) (a0_1 : Int) : Option (Bool) := if a0_0 ≥ 0 then (if a0_0 ≤ 7 then (if a0_1 ≥ 0 then (some (decide (a0_1 ≤ 7))) else (some false)) else (some false)) else (some false)
set_option maxHeartbeats 8000000 in
set_option maxRecDepth 100000 in
theorem impl_TimeOk.calls (a0_0 : Int) (a0_1 : Int) (r : Bool) (w : World) (h : impl_TimeOk.f a0_0 a0_1 = some r) :
  Calls Try.prog 62 #[.agg #[.int .i64 a0_0,.int .i64 a0_1]] w fun e w'=>e = .returned (.bool r) ∧ Below w.heap.size w w':=by
 have hu36:=Try.underlying36
 have HB:=am (Below.refl w.heap.size w)
 have H : (if a0_0 ≥ 0 then (if a0_0 ≤ 7 then (if a0_1 ≥ 0 then (some (decide (a0_1 ≤ 7))) else (some false)) else (some false)) else (some false)) = some r:=h
 clear h
 by_cases c2 : a0_0 ≥ 0
 ·rw [if_pos c2] at H
  have c2b0 : decide (0 ≤ a0_0) = true:=decide_eq_true c2
  clear c2
  by_cases c3 : a0_0 ≤ 7
  ·rw [if_pos c3] at H
   have c3b0 : decide (a0_0 ≤ 7) = true:=decide_eq_true c3
   clear c3
   by_cases c4 : a0_1 ≥ 0
   ·rw [if_pos c4] at H
    have c4b0 : decide (0 ≤ a0_1) = true:=decide_eq_true c4
    clear c4
    obtain rfl:=Option.some.inj H
    go_enter Try.func62,Try.ntmps62
    go_wp2_with (first|((with_reducible refine gate_dst (N:=1) rfl ?_);refine box_event ?hg (N:=1) ?hd (cs:=#[.int .i64 a0_0,.int .i64 a0_1]) (t:=36) ?hr ?_;(case hd=>rfl);(case hg=>rfl);(case hr=>first|(go_simp;done)|(go_simp;rfl));intro gb350 hg w5 hbox hb;have n0_:=am (below_step Q77 hb);have n1_:=am (hbox);have n2_:=am ((Q167 : w.heap.size ≤ gb350));have n3_:=n2_;clear HB;have HB:=n0_;have BK350:=n1_;have GW350:=n2_;have GE350:=n3_;clear n0_ n1_ n2_ n3_;clear hb hbox hg;obtain ⟨hcz6_0,hcz6_1,hfz6_0,hfz6_1⟩:=bx2_ BK350))
    go_ret
    exact ⟨Q17,Q91⟩
   ·rw [if_neg c4] at H
    have c4b0 : decide (0 ≤ a0_1) = false:=decide_eq_false c4
    clear c4
    obtain rfl:=Option.some.inj H
    go_enter Try.func62,Try.ntmps62
    go_wp2_with (first|((with_reducible refine gate_dst (N:=1) rfl ?_);refine box_event ?hg (N:=1) ?hd (cs:=#[.int .i64 a0_0,.int .i64 a0_1]) (t:=36) ?hr ?_;(case hd=>rfl);(case hg=>rfl);(case hr=>first|(go_simp;done)|(go_simp;rfl));intro gb350 hg w7 hbox hb;have n0_:=am (below_step Q77 hb);have n1_:=am (hbox);have n2_:=am ((Q167 : w.heap.size ≤ gb350));have n3_:=n2_;clear HB;have HB:=n0_;have BK350:=n1_;have GW350:=n2_;have GE350:=n3_;clear n0_ n1_ n2_ n3_;clear hb hbox hg;obtain ⟨hcz8_0,hcz8_1,hfz8_0,hfz8_1⟩:=bx2_ BK350))
    go_ret
    exact ⟨Q17,Q91⟩
  ·rw [if_neg c3] at H
   have c3b0 : decide (a0_0 ≤ 7) = false:=decide_eq_false c3
   clear c3
   obtain rfl:=Option.some.inj H
   go_enter Try.func62,Try.ntmps62
   go_wp2_with (first|((with_reducible refine gate_dst (N:=1) rfl ?_);refine box_event ?hg (N:=1) ?hd (cs:=#[.int .i64 a0_0,.int .i64 a0_1]) (t:=36) ?hr ?_;(case hd=>rfl);(case hg=>rfl);(case hr=>first|(go_simp;done)|(go_simp;rfl));intro gb350 hg w9 hbox hb;have n0_:=am (below_step Q77 hb);have n1_:=am (hbox);have n2_:=am ((Q167 : w.heap.size ≤ gb350));have n3_:=n2_;clear HB;have HB:=n0_;have BK350:=n1_;have GW350:=n2_;have GE350:=n3_;clear n0_ n1_ n2_ n3_;clear hb hbox hg;obtain ⟨hcz10_0,hcz10_1,hfz10_0,hfz10_1⟩:=bx2_ BK350))
   go_ret
   exact ⟨Q17,Q91⟩
 ·rw [if_neg c2] at H
  have c2b0 : decide (0 ≤ a0_0) = false:=decide_eq_false c2
  clear c2
  obtain rfl:=Option.some.inj H
  go_enter Try.func62,Try.ntmps62
  go_wp2_with (first|((with_reducible refine gate_dst (N:=1) rfl ?_);refine box_event ?hg (N:=1) ?hd (cs:=#[.int .i64 a0_0,.int .i64 a0_1]) (t:=36) ?hr ?_;(case hd=>rfl);(case hg=>rfl);(case hr=>first|(go_simp;done)|(go_simp;rfl));intro gb350 hg w11 hbox hb;have n0_:=am (below_step Q77 hb);have n1_:=am (hbox);have n2_:=am ((Q167 : w.heap.size ≤ gb350));have n3_:=n2_;clear HB;have HB:=n0_;have BK350:=n1_;have GW350:=n2_;have GE350:=n3_;clear n0_ n1_ n2_ n3_;clear hb hbox hg;obtain ⟨hcz12_0,hcz12_1,hfz12_0,hfz12_1⟩:=bx2_ BK350))
  go_ret
  exact ⟨Q17,Q91⟩
def impl_RowsOk.l0 : Nat → List (S38) → List (S38) → Int → Int → Option (Bool)
 | 0, _, _, _, _ => none
 | k + 1, x0, x5, x6, x7 => if x7 < x6 then (if 0 ≤ x7 then (if x7 < (x5.length : Int) then (if ((rd_T38 x5 x7).f0) < 0 then (some false) else (if ((rd_T38 x5 x7).f0) ≥ 4 then (some false) else (if ((rd_T38 x5 x7).f1) < 0 then (some false) else (if ((rd_T38 x5 x7).f1) ≥ 100 then (some false) else ((impl_TimeOk.f ((rd_T38 x5 x7).f2.f0) ((rd_T38 x5 x7).f2.f1)).bind fun t353 => (if t353 = true then (if ((rd_T38 x5 x7).f3) < (-99999) then (some false) else (if ((rd_T38 x5 x7).f3) > 99999 then (some false) else (impl_RowsOk.l0 k x0 x5 x6 (wrap64 (x7 + 1))))) else (some false))))))) else (none)) else (none)) else (some (decide ((x0.length : Int) ≤ 400)))
def impl_RowsOk.f (k : Nat) (l0 : List (S38)) : Option (Bool) := impl_RowsOk.l0 k l0 l0 (l0.length : Int) 0
set_option maxHeartbeats 8000000 in
set_option maxRecDepth 100000 in
theorem impl_RowsOk.calls (k : Nat) (A0 : Option Addr) (c0 : Nat) (l0 : List (S38)) (r : Bool) (w : World) (hr0 : Kd.C k38 w A0 l0.length l0) (hc0 : l0.length ≤ c0) (h : impl_RowsOk.f k l0 = some r) :
  Calls Try.prog 39 #[.slice A0 l0.length c0] w fun e w'=>e = .returned (.bool r) ∧ Below w.heap.size w w':=by
 have hu38:=Try.underlying38
 have hu36:=Try.underlying36
 have HR0:=Aside0.mk hr0
 have HC0:=Aside0.mk hc0
 clear hr0 hc0
 have HB:=am (Below.refl w.heap.size w)
 have H : (impl_RowsOk.l0 k l0 l0 (l0.length : Int) 0) = some r:=h
 clear h
 have H':=Aside0.mk H
 clear H
 go_enter Try.func39,Try.ntmps39
 go_wp2
 go_loopg [7] k (fun kq v7 w'=>∃ (x7_1 : Int),v7 = .int .i64 x7_1 ∧ Aside0 (impl_RowsOk.l0 kq l0 l0 (l0.length : Int) x7_1 = some r) ∧ Aside0 (kq ≤ k) ∧ Aside0 (Below w.heap.size w w'))
 case atStart=>exact ⟨(0),Q5,H',⟨Nat.le_refl _⟩,⟨Q77⟩⟩
 case round =>
  clear H'
  obtain ⟨x7_1,rfl,HA,HK1,HB⟩:=hrel
  cases gk with
  | zero=>exact absurd HA.out (by simp [impl_RowsOk.l0])
  | succ k1 =>
   have H:=HA.out
   clear HA
   simp only [impl_RowsOk.l0] at H
   by_cases c2 : x7_1 < (l0.length : Int)
   ·rw [if_pos c2] at H
    have c2b0 : decide (x7_1 < (l0.length : Int)) = true:=decide_eq_true c2
    clear c2
    have c3 : 0 ≤ x7_1:=nn_ H
    rw [if_pos c3] at H
    have c3b0 : decide (0 ≤ x7_1) = true:=decide_eq_true c3
    clear c3
    have c4 : x7_1 < (l0.length : Int):=nn_ H
    rw [if_pos c4] at H
    have c4b0 : decide (x7_1 < (l0.length : Int)) = true:=decide_eq_true c4
    clear c4
    by_cases c5 : ((rd_T38 l0 x7_1).f0) < 0
    ·rw [if_pos c5] at H
     have c5b0 : decide (((rd_T38 l0 x7_1).f0) < 0) = true:=decide_eq_true c5
     clear c5
     obtain rfl:=Option.some.inj H
     have p351 : 0 ≤ (x7_1 : Int):=of_decide_eq_true Q6
     have q351 : x7_1 < (l0.length : Int):=of_decide_eq_true Q6
     obtain ⟨ad351,e351,hx351_0,hx351_1,hx351_2,hx351_3,hx351_4⟩:=at_T38 HR0.out x7_1 p351 q351
     cases e351
     replace hx351_0:=cb_ HB hx351_0
     replace hx351_1:=cb_ HB hx351_1
     replace hx351_2:=cb_ HB hx351_2
     replace hx351_3:=cb_ HB hx351_3
     replace hx351_4:=cb_ HB hx351_4
     replace p351:=eq_true p351
     replace q351:=eq_true q351
     go_wp2_with (first|((with_reducible refine gate_dst (N:=4) rfl ?_);refine box_event ?hg (N:=4) ?hd (cs:=#[.int .i64 0,.int .i64 0,.int .i64 0,.int .i64 0,.int .i64 0]) (t:=38) ?hr ?_;(case hd=>rfl);(case hg=>rfl);(case hr=>first|(go_simp;done)|(go_simp;rfl));intro gb352 hg w6 hbox hb;have n0_:=am (below_step Q77 hb);have n1_:=am (hbox);have n2_:=am ((Q167 : w.heap.size ≤ gb352));have n3_:=n2_;clear HB;have HB:=n0_;have BK352:=n1_;have GW352:=n2_;have GE352:=n3_;clear n0_ n1_ n2_ n3_;clear hb hbox hg;obtain ⟨hcz7_0,hcz7_1,hcz7_2,hcz7_3,hcz7_4,hfz7_0,hfz7_1,hfz7_2,hfz7_3,hfz7_4⟩:=bx5_ BK352))
     go_ret
     exact ⟨Q17,Q92⟩
    ·rw [if_neg c5] at H
     have c5b0 : decide (((rd_T38 l0 x7_1).f0) < 0) = false:=decide_eq_false c5
     clear c5
     by_cases c8 : ((rd_T38 l0 x7_1).f0) ≥ 4
     ·rw [if_pos c8] at H
      have c8b0 : decide (4 ≤ ((rd_T38 l0 x7_1).f0)) = true:=decide_eq_true c8
      clear c8
      obtain rfl:=Option.some.inj H
      have p351 : 0 ≤ (x7_1 : Int):=of_decide_eq_true Q6
      have q351 : x7_1 < (l0.length : Int):=of_decide_eq_true Q6
      obtain ⟨ad351,e351,hx351_0,hx351_1,hx351_2,hx351_3,hx351_4⟩:=at_T38 HR0.out x7_1 p351 q351
      cases e351
      replace hx351_0:=cb_ HB hx351_0
      replace hx351_1:=cb_ HB hx351_1
      replace hx351_2:=cb_ HB hx351_2
      replace hx351_3:=cb_ HB hx351_3
      replace hx351_4:=cb_ HB hx351_4
      replace p351:=eq_true p351
      replace q351:=eq_true q351
      go_wp2_with (first|((with_reducible refine gate_dst (N:=4) rfl ?_);refine box_event ?hg (N:=4) ?hd (cs:=#[.int .i64 0,.int .i64 0,.int .i64 0,.int .i64 0,.int .i64 0]) (t:=38) ?hr ?_;(case hd=>rfl);(case hg=>rfl);(case hr=>first|(go_simp;done)|(go_simp;rfl));intro gb352 hg w9 hbox hb;have n0_:=am (below_step Q77 hb);have n1_:=am (hbox);have n2_:=am ((Q167 : w.heap.size ≤ gb352));have n3_:=n2_;clear HB;have HB:=n0_;have BK352:=n1_;have GW352:=n2_;have GE352:=n3_;clear n0_ n1_ n2_ n3_;clear hb hbox hg;obtain ⟨hcz10_0,hcz10_1,hcz10_2,hcz10_3,hcz10_4,hfz10_0,hfz10_1,hfz10_2,hfz10_3,hfz10_4⟩:=bx5_ BK352))
      go_ret
      exact ⟨Q17,Q92⟩
     ·rw [if_neg c8] at H
      have c8b0 : decide (4 ≤ ((rd_T38 l0 x7_1).f0)) = false:=decide_eq_false c8
      clear c8
      by_cases c11 : ((rd_T38 l0 x7_1).f1) < 0
      ·rw [if_pos c11] at H
       have c11b0 : decide (((rd_T38 l0 x7_1).f1) < 0) = true:=decide_eq_true c11
       clear c11
       obtain rfl:=Option.some.inj H
       have p351 : 0 ≤ (x7_1 : Int):=of_decide_eq_true Q6
       have q351 : x7_1 < (l0.length : Int):=of_decide_eq_true Q6
       obtain ⟨ad351,e351,hx351_0,hx351_1,hx351_2,hx351_3,hx351_4⟩:=at_T38 HR0.out x7_1 p351 q351
       cases e351
       replace hx351_0:=cb_ HB hx351_0
       replace hx351_1:=cb_ HB hx351_1
       replace hx351_2:=cb_ HB hx351_2
       replace hx351_3:=cb_ HB hx351_3
       replace hx351_4:=cb_ HB hx351_4
       replace p351:=eq_true p351
       replace q351:=eq_true q351
       go_wp2_with (first|((with_reducible refine gate_dst (N:=4) rfl ?_);refine box_event ?hg (N:=4) ?hd (cs:=#[.int .i64 0,.int .i64 0,.int .i64 0,.int .i64 0,.int .i64 0]) (t:=38) ?hr ?_;(case hd=>rfl);(case hg=>rfl);(case hr=>first|(go_simp;done)|(go_simp;rfl));intro gb352 hg w12 hbox hb;have n0_:=am (below_step Q77 hb);have n1_:=am (hbox);have n2_:=am ((Q167 : w.heap.size ≤ gb352));have n3_:=n2_;clear HB;have HB:=n0_;have BK352:=n1_;have GW352:=n2_;have GE352:=n3_;clear n0_ n1_ n2_ n3_;clear hb hbox hg;obtain ⟨hcz13_0,hcz13_1,hcz13_2,hcz13_3,hcz13_4,hfz13_0,hfz13_1,hfz13_2,hfz13_3,hfz13_4⟩:=bx5_ BK352))
       go_ret
       exact ⟨Q17,Q92⟩
      ·rw [if_neg c11] at H
       have c11b0 : decide (((rd_T38 l0 x7_1).f1) < 0) = false:=decide_eq_false c11
       clear c11
       by_cases c14 : ((rd_T38 l0 x7_1).f1) ≥ 100
       ·rw [if_pos c14] at H
        have c14b0 : decide (100 ≤ ((rd_T38 l0 x7_1).f1)) = true:=decide_eq_true c14
        clear c14
        obtain rfl:=Option.some.inj H
        have p351 : 0 ≤ (x7_1 : Int):=of_decide_eq_true Q6
        have q351 : x7_1 < (l0.length : Int):=of_decide_eq_true Q6
        obtain ⟨ad351,e351,hx351_0,hx351_1,hx351_2,hx351_3,hx351_4⟩:=at_T38 HR0.out x7_1 p351 q351
        cases e351
        replace hx351_0:=cb_ HB hx351_0
        replace hx351_1:=cb_ HB hx351_1
        replace hx351_2:=cb_ HB hx351_2
        replace hx351_3:=cb_ HB hx351_3
        replace hx351_4:=cb_ HB hx351_4
        replace p351:=eq_true p351
        replace q351:=eq_true q351
        go_wp2_with (first|((with_reducible refine gate_dst (N:=4) rfl ?_);refine box_event ?hg (N:=4) ?hd (cs:=#[.int .i64 0,.int .i64 0,.int .i64 0,.int .i64 0,.int .i64 0]) (t:=38) ?hr ?_;(case hd=>rfl);(case hg=>rfl);(case hr=>first|(go_simp;done)|(go_simp;rfl));intro gb352 hg w15 hbox hb;have n0_:=am (below_step Q77 hb);have n1_:=am (hbox);have n2_:=am ((Q167 : w.heap.size ≤ gb352));have n3_:=n2_;clear HB;have HB:=n0_;have BK352:=n1_;have GW352:=n2_;have GE352:=n3_;clear n0_ n1_ n2_ n3_;clear hb hbox hg;obtain ⟨hcz16_0,hcz16_1,hcz16_2,hcz16_3,hcz16_4,hfz16_0,hfz16_1,hfz16_2,hfz16_3,hfz16_4⟩:=bx5_ BK352))
        go_ret
        exact ⟨Q17,Q92⟩
       ·rw [if_neg c14] at H
        have c14b0 : decide (100 ≤ ((rd_T38 l0 x7_1).f1)) = false:=decide_eq_false c14
        clear c14
        replace H:=Option.bind_eq_some_iff.mp H
        obtain ⟨t353,A170,H⟩:=H
        replace H : (if t353 = true then (if ((rd_T38 l0 x7_1).f3) < (-99999) then (some false) else (if ((rd_T38 l0 x7_1).f3) > 99999 then (some false) else (impl_RowsOk.l0 k1 l0 l0 (l0.length : Int) (wrap64 (x7_1 + 1))))) else (some false)) = some r:=H
        have A17:=Aside0.mk A170
        clear A170
        by_cases c18 : t353 = true
        ·subst c18
         have H1 : (if ((rd_T38 l0 x7_1).f3) < (-99999) then (some false) else (if ((rd_T38 l0 x7_1).f3) > 99999 then (some false) else (impl_RowsOk.l0 k1 l0 l0 (l0.length : Int) (wrap64 (x7_1 + 1))))) = some r:=by rw [if_pos rfl] at H;exact H
         clear H
         have H:=H1
         clear H1
         by_cases c19 : ((rd_T38 l0 x7_1).f3) < (-99999)
         ·rw [if_pos c19] at H
          have c19b0 : decide (((rd_T38 l0 x7_1).f3) < (-99999)) = true:=decide_eq_true c19
          clear c19
          obtain rfl:=Option.some.inj H
          have p351 : 0 ≤ (x7_1 : Int):=of_decide_eq_true Q6
          have q351 : x7_1 < (l0.length : Int):=of_decide_eq_true Q6
          obtain ⟨ad351,e351,hx351_0,hx351_1,hx351_2,hx351_3,hx351_4⟩:=at_T38 HR0.out x7_1 p351 q351
          cases e351
          replace hx351_0:=cb_ HB hx351_0
          replace hx351_1:=cb_ HB hx351_1
          replace hx351_2:=cb_ HB hx351_2
          replace hx351_3:=cb_ HB hx351_3
          replace hx351_4:=cb_ HB hx351_4
          replace p351:=eq_true p351
          replace q351:=eq_true q351
          go_wp2_with (first|((with_reducible refine gate_dst (N:=4) rfl ?_);refine box_event ?hg (N:=4) ?hd (cs:=#[.int .i64 0,.int .i64 0,.int .i64 0,.int .i64 0,.int .i64 0]) (t:=38) ?hr ?_;(case hd=>rfl);(case hg=>rfl);(case hr=>first|(go_simp;done)|(go_simp;rfl));intro gb352 hg w20 hbox hb;have n0_:=am (below_step Q77 hb);have n1_:=am (hbox);have n2_:=am ((Q167 : w.heap.size ≤ gb352));have n3_:=n2_;clear HB;have HB:=n0_;have BK352:=n1_;have GW352:=n2_;have GE352:=n3_;clear n0_ n1_ n2_ n3_;clear hb hbox hg;obtain ⟨hcz21_0,hcz21_1,hcz21_2,hcz21_3,hcz21_4,hfz21_0,hfz21_1,hfz21_2,hfz21_3,hfz21_4⟩:=bx5_ BK352)|(go_at_call 62;(with_reducible refine (impl_TimeOk.calls ((rd_T38 l0 x7_1).f2.f0) ((rd_T38 l0 x7_1).f2.f1) true _ A17.out).mono ?_);rintro e w22 ⟨rfl,hb⟩;have n0_:=am (blk_below (g:=gb352) (o:=.cells #[.int .i64 ((rd_T38 l0 x7_1).f0),.int .i64 ((rd_T38 l0 x7_1).f1),.int .i64 ((rd_T38 l0 x7_1).f2.f0),.int .i64 ((rd_T38 l0 x7_1).f2.f1),.int .i64 ((rd_T38 l0 x7_1).f3)] 38 (0,0)) Q165 hb);have n1_:=am (below_step Q92 hb);clear BK352 HB;have BK352:=n0_;have HB:=n1_;clear n0_ n1_;(try clear hb);(try clear hb2);(try clear hk);(try clear hi);obtain ⟨hcz23_0,hcz23_1,hcz23_2,hcz23_3,hcz23_4,hfz23_0,hfz23_1,hfz23_2,hfz23_3,hfz23_4⟩:=bx5_ BK352))
          go_ret
          exact ⟨Q17,Q92⟩
         ·rw [if_neg c19] at H
          have c19b0 : decide (((rd_T38 l0 x7_1).f3) < (-99999)) = false:=decide_eq_false c19
          clear c19
          by_cases c24 : ((rd_T38 l0 x7_1).f3) > 99999
          ·rw [if_pos c24] at H
           have c24b0 : decide (99999 < ((rd_T38 l0 x7_1).f3)) = true:=decide_eq_true c24
           clear c24
           obtain rfl:=Option.some.inj H
           have p351 : 0 ≤ (x7_1 : Int):=of_decide_eq_true Q6
           have q351 : x7_1 < (l0.length : Int):=of_decide_eq_true Q6
           obtain ⟨ad351,e351,hx351_0,hx351_1,hx351_2,hx351_3,hx351_4⟩:=at_T38 HR0.out x7_1 p351 q351
           cases e351
           replace hx351_0:=cb_ HB hx351_0
           replace hx351_1:=cb_ HB hx351_1
           replace hx351_2:=cb_ HB hx351_2
           replace hx351_3:=cb_ HB hx351_3
           replace hx351_4:=cb_ HB hx351_4
           replace p351:=eq_true p351
           replace q351:=eq_true q351
           go_wp2_with (first|((with_reducible refine gate_dst (N:=4) rfl ?_);refine box_event ?hg (N:=4) ?hd (cs:=#[.int .i64 0,.int .i64 0,.int .i64 0,.int .i64 0,.int .i64 0]) (t:=38) ?hr ?_;(case hd=>rfl);(case hg=>rfl);(case hr=>first|(go_simp;done)|(go_simp;rfl));intro gb352 hg w25 hbox hb;have n0_:=am (below_step Q77 hb);have n1_:=am (hbox);have n2_:=am ((Q167 : w.heap.size ≤ gb352));have n3_:=n2_;clear HB;have HB:=n0_;have BK352:=n1_;have GW352:=n2_;have GE352:=n3_;clear n0_ n1_ n2_ n3_;clear hb hbox hg;obtain ⟨hcz26_0,hcz26_1,hcz26_2,hcz26_3,hcz26_4,hfz26_0,hfz26_1,hfz26_2,hfz26_3,hfz26_4⟩:=bx5_ BK352)|(go_at_call 62;(with_reducible refine (impl_TimeOk.calls ((rd_T38 l0 x7_1).f2.f0) ((rd_T38 l0 x7_1).f2.f1) true _ A17.out).mono ?_);rintro e w27 ⟨rfl,hb⟩;have n0_:=am (blk_below (g:=gb352) (o:=.cells #[.int .i64 ((rd_T38 l0 x7_1).f0),.int .i64 ((rd_T38 l0 x7_1).f1),.int .i64 ((rd_T38 l0 x7_1).f2.f0),.int .i64 ((rd_T38 l0 x7_1).f2.f1),.int .i64 ((rd_T38 l0 x7_1).f3)] 38 (0,0)) Q165 hb);have n1_:=am (below_step Q92 hb);clear BK352 HB;have BK352:=n0_;have HB:=n1_;clear n0_ n1_;(try clear hb);(try clear hb2);(try clear hk);(try clear hi);obtain ⟨hcz28_0,hcz28_1,hcz28_2,hcz28_3,hcz28_4,hfz28_0,hfz28_1,hfz28_2,hfz28_3,hfz28_4⟩:=bx5_ BK352))
           go_ret
           exact ⟨Q17,Q92⟩
          ·rw [if_neg c24] at H
           have c24b0 : decide (99999 < ((rd_T38 l0 x7_1).f3)) = false:=decide_eq_false c24
           clear c24
           have H':=Aside0.mk H
           clear H
           have p351 : 0 ≤ (x7_1 : Int):=of_decide_eq_true Q6
           have q351 : x7_1 < (l0.length : Int):=of_decide_eq_true Q6
           obtain ⟨ad351,e351,hx351_0,hx351_1,hx351_2,hx351_3,hx351_4⟩:=at_T38 HR0.out x7_1 p351 q351
           cases e351
           replace hx351_0:=cb_ HB hx351_0
           replace hx351_1:=cb_ HB hx351_1
           replace hx351_2:=cb_ HB hx351_2
           replace hx351_3:=cb_ HB hx351_3
           replace hx351_4:=cb_ HB hx351_4
           replace p351:=eq_true p351
           replace q351:=eq_true q351
           go_wp2_with (first|((with_reducible refine gate_dst (N:=4) rfl ?_);refine box_event ?hg (N:=4) ?hd (cs:=#[.int .i64 0,.int .i64 0,.int .i64 0,.int .i64 0,.int .i64 0]) (t:=38) ?hr ?_;(case hd=>rfl);(case hg=>rfl);(case hr=>first|(go_simp;done)|(go_simp;rfl));intro gb352 hg w29 hbox hb;have n0_:=am (below_step Q77 hb);have n1_:=am (hbox);have n2_:=am ((Q167 : w.heap.size ≤ gb352));have n3_:=n2_;clear HB;have HB:=n0_;have BK352:=n1_;have GW352:=n2_;have GE352:=n3_;clear n0_ n1_ n2_ n3_;clear hb hbox hg;obtain ⟨hcz30_0,hcz30_1,hcz30_2,hcz30_3,hcz30_4,hfz30_0,hfz30_1,hfz30_2,hfz30_3,hfz30_4⟩:=bx5_ BK352)|(go_at_call 62;(with_reducible refine (impl_TimeOk.calls ((rd_T38 l0 x7_1).f2.f0) ((rd_T38 l0 x7_1).f2.f1) true _ A17.out).mono ?_);rintro e w31 ⟨rfl,hb⟩;have n0_:=am (blk_below (g:=gb352) (o:=.cells #[.int .i64 ((rd_T38 l0 x7_1).f0),.int .i64 ((rd_T38 l0 x7_1).f1),.int .i64 ((rd_T38 l0 x7_1).f2.f0),.int .i64 ((rd_T38 l0 x7_1).f2.f1),.int .i64 ((rd_T38 l0 x7_1).f3)] 38 (0,0)) Q165 hb);have n1_:=am (below_step Q92 hb);clear BK352 HB;have BK352:=n0_;have HB:=n1_;clear n0_ n1_;(try clear hb);(try clear hb2);(try clear hk);(try clear hi);obtain ⟨hcz32_0,hcz32_1,hcz32_2,hcz32_3,hcz32_4,hfz32_0,hfz32_1,hfz32_2,hfz32_3,hfz32_4⟩:=bx5_ BK352))
           go_roundg k1
           case measure=>have:=HK1.out;omega
           case rel=>exact ⟨(wrap64 (x7_1 + 1)),Q5,H',⟨Q2⟩,⟨Q92⟩⟩
        ·replace c18:=Bool.eq_false_iff.mpr c18
         subst c18
         have H1 : (some false) = some r:=by rw [if_neg (show ¬ (false = true) by decide)] at H;exact H
         clear H
         have H:=H1
         clear H1
         obtain rfl:=Option.some.inj H
         have p351 : 0 ≤ (x7_1 : Int):=of_decide_eq_true Q6
         have q351 : x7_1 < (l0.length : Int):=of_decide_eq_true Q6
         obtain ⟨ad351,e351,hx351_0,hx351_1,hx351_2,hx351_3,hx351_4⟩:=at_T38 HR0.out x7_1 p351 q351
         cases e351
         replace hx351_0:=cb_ HB hx351_0
         replace hx351_1:=cb_ HB hx351_1
         replace hx351_2:=cb_ HB hx351_2
         replace hx351_3:=cb_ HB hx351_3
         replace hx351_4:=cb_ HB hx351_4
         replace p351:=eq_true p351
         replace q351:=eq_true q351
         go_wp2_with (first|((with_reducible refine gate_dst (N:=4) rfl ?_);refine box_event ?hg (N:=4) ?hd (cs:=#[.int .i64 0,.int .i64 0,.int .i64 0,.int .i64 0,.int .i64 0]) (t:=38) ?hr ?_;(case hd=>rfl);(case hg=>rfl);(case hr=>first|(go_simp;done)|(go_simp;rfl));intro gb352 hg w33 hbox hb;have n0_:=am (below_step Q77 hb);have n1_:=am (hbox);have n2_:=am ((Q167 : w.heap.size ≤ gb352));have n3_:=n2_;clear HB;have HB:=n0_;have BK352:=n1_;have GW352:=n2_;have GE352:=n3_;clear n0_ n1_ n2_ n3_;clear hb hbox hg;obtain ⟨hcz34_0,hcz34_1,hcz34_2,hcz34_3,hcz34_4,hfz34_0,hfz34_1,hfz34_2,hfz34_3,hfz34_4⟩:=bx5_ BK352)|(go_at_call 62;(with_reducible refine (impl_TimeOk.calls ((rd_T38 l0 x7_1).f2.f0) ((rd_T38 l0 x7_1).f2.f1) false _ A17.out).mono ?_);rintro e w35 ⟨rfl,hb⟩;have n0_:=am (blk_below (g:=gb352) (o:=.cells #[.int .i64 ((rd_T38 l0 x7_1).f0),.int .i64 ((rd_T38 l0 x7_1).f1),.int .i64 ((rd_T38 l0 x7_1).f2.f0),.int .i64 ((rd_T38 l0 x7_1).f2.f1),.int .i64 ((rd_T38 l0 x7_1).f3)] 38 (0,0)) Q165 hb);have n1_:=am (below_step Q92 hb);clear BK352 HB;have BK352:=n0_;have HB:=n1_;clear n0_ n1_;(try clear hb);(try clear hb2);(try clear hk);(try clear hi)))
         go_ret
         exact ⟨Q17,Q92⟩
   ·rw [if_neg c2] at H
    have c2b0 : decide (x7_1 < (l0.length : Int)) = false:=decide_eq_false c2
    clear c2
    obtain rfl:=Option.some.inj H
    go_wp2
    go_ret
    exact ⟨Q17,Q77⟩
def impl_FrontOk.l0 : Nat → List (S36) → List (S36) → Int → Int → Option (Bool)
 | 0, _, _, _, _ => none
 | k + 1, x0, x5, x6, x7 => if x7 < x6 then (if 0 ≤ x7 then (if x7 < (x5.length : Int) then ((impl_TimeOk.f ((rd_T36 x5 x7).f0) ((rd_T36 x5 x7).f1)).bind fun t356 => (if t356 = true then (if x7 > 0 then (if 0 ≤ (wrap64 (x7 - 1)) then (if (wrap64 (x7 - 1)) < (x0.length : Int) then (if ((rd_T36 x0 (wrap64 (x7 - 1))).f0) ≥ ((rd_T36 x5 x7).f0) then (some false) else (if ((rd_T36 x0 (wrap64 (x7 - 1))).f1) ≤ ((rd_T36 x5 x7).f1) then (some false) else (impl_FrontOk.l0 k x0 x5 x6 (wrap64 (x7 + 1))))) else (none)) else (none)) else (impl_FrontOk.l0 k x0 x5 x6 (wrap64 (x7 + 1)))) else (some false))) else (none)) else (none)) else (some true)
def impl_FrontOk.f (k : Nat) (l0 : List (S36)) : Option (Bool) := impl_FrontOk.l0 k l0 l0 (l0.length : Int) 0
def impl_FrontOk.T4 : Bool × List (List Nat × List Nat) := (true, [([], []), ([0], [0]), ([1], [1]), ([2, 1], [2]), ([3], [3]), ([4, 3], [3, 4]), ([5, 3, 3], [3, 5]), ([6], [6]), ([6], [6]), ([8, 6], [6, 8]), ([7, 9, 6], [6, 7, 9]), ([10, 6], [6, 10]), ([11, 6], [6, 11]), ([6], [6]), ([13, 6], [6, 13]), ([12, 14, 6], [6, 12, 14]), ([15, 6, 6], [6, 15]), ([16], [16]), ([16], [16]), ([18, 16], [16, 18]), ([17, 19, 16], [16, 17, 19]), ([20, 16], [16, 20]), ([21, 16], [16, 21]), ([16], [16]), ([23, 16], [16, 23]), ([22, 24, 16], [16, 22, 24]), ([16, 25, 6], [6, 16, 25]), ([6, 26, 3], [3, 6, 26]), ([3, 27], [3, 27])])
def impl_FrontOk.B4 : List Nat := [0, 1, 3, 7, 15, 31, 63, 127, 127, 383, 1023, 2047, 4095, 127, 8319, 32767, 65535, 131071, 131071, 393215, 1048575, 2097151, 4194303, 131071, 8519679, 33554431, 67108863, 134217727, 268435455]
theorem impl_FrontOk.tab4 : rtab .any (opsOf Try.f53 4) = impl_FrontOk.T4:=by kernel_rfl
theorem impl_FrontOk.bits4 : waitsOk impl_FrontOk.T4.2 impl_FrontOk.B4 = true:=by kernel_rfl
set_option maxHeartbeats 8000000 in
set_option maxRecDepth 100000 in
theorem impl_FrontOk.calls (k : Nat) (A0 : Option Addr) (c0 : Nat) (l0 : List (S36)) (r : Bool) (w : World) (hr0 : Kd.C k36 w A0 l0.length l0) (hc0 : l0.length ≤ c0) (h : impl_FrontOk.f k l0 = some r) :
  Calls Try.prog 53 #[.slice A0 l0.length c0] w fun e w'=>e = .returned (.bool r) ∧ Below w.heap.size w w':=by
 have hu36:=Try.underlying36
 have HR0:=Aside0.mk hr0
 have HC0:=Aside0.mk hc0
 clear hr0 hc0
 have HB:=am (Below.refl w.heap.size w)
 have H : (impl_FrontOk.l0 k l0 l0 (l0.length : Int) 0) = some r:=h
 clear h
 have H':=Aside0.mk H
 clear H
 go_enter Try.func53,Try.ntmps53
 go_wp2
 go_loopg [7] k (fun kq v7 w'=>∃ (x7_1 : Int),v7 = .int .i64 x7_1 ∧ Aside0 (impl_FrontOk.l0 kq l0 l0 (l0.length : Int) x7_1 = some r) ∧ Aside0 (kq ≤ k) ∧ Aside0 (Below w.heap.size w w'))
 case atStart=>exact ⟨(0),Q5,H',⟨Nat.le_refl _⟩,⟨Q77⟩⟩
 case round =>
  clear H'
  obtain ⟨x7_1,rfl,HA,HK1,HB⟩:=hrel
  cases gk with
  | zero=>exact absurd HA.out (by simp [impl_FrontOk.l0])
  | succ k1 =>
   have H:=HA.out
   clear HA
   simp only [impl_FrontOk.l0] at H
   by_cases c2 : x7_1 < (l0.length : Int)
   ·rw [if_pos c2] at H
    have c2b0 : decide (x7_1 < (l0.length : Int)) = true:=decide_eq_true c2
    clear c2
    have c3 : 0 ≤ x7_1:=nn_ H
    rw [if_pos c3] at H
    have c3b0 : decide (0 ≤ x7_1) = true:=decide_eq_true c3
    clear c3
    have c4 : x7_1 < (l0.length : Int):=nn_ H
    rw [if_pos c4] at H
    have c4b0 : decide (x7_1 < (l0.length : Int)) = true:=decide_eq_true c4
    clear c4
    replace H:=Option.bind_eq_some_iff.mp H
    obtain ⟨t356,A50,H⟩:=H
    replace H : (if t356 = true then (if x7_1 > 0 then (if 0 ≤ (wrap64 (x7_1 - 1)) then (if (wrap64 (x7_1 - 1)) < (l0.length : Int) then (if ((rd_T36 l0 (wrap64 (x7_1 - 1))).f0) ≥ ((rd_T36 l0 x7_1).f0) then (some false) else (if ((rd_T36 l0 (wrap64 (x7_1 - 1))).f1) ≤ ((rd_T36 l0 x7_1).f1) then (some false) else (impl_FrontOk.l0 k1 l0 l0 (l0.length : Int) (wrap64 (x7_1 + 1))))) else (none)) else (none)) else (impl_FrontOk.l0 k1 l0 l0 (l0.length : Int) (wrap64 (x7_1 + 1)))) else (some false)) = some r:=H
    have A5:=Aside0.mk A50
    clear A50
    by_cases c6 : t356 = true
    ·subst c6
     have H1 : (if x7_1 > 0 then (if 0 ≤ (wrap64 (x7_1 - 1)) then (if (wrap64 (x7_1 - 1)) < (l0.length : Int) then (if ((rd_T36 l0 (wrap64 (x7_1 - 1))).f0) ≥ ((rd_T36 l0 x7_1).f0) then (some false) else (if ((rd_T36 l0 (wrap64 (x7_1 - 1))).f1) ≤ ((rd_T36 l0 x7_1).f1) then (some false) else (impl_FrontOk.l0 k1 l0 l0 (l0.length : Int) (wrap64 (x7_1 + 1))))) else (none)) else (none)) else (impl_FrontOk.l0 k1 l0 l0 (l0.length : Int) (wrap64 (x7_1 + 1)))) = some r:=by rw [if_pos rfl] at H;exact H
     clear H
     have H:=H1
     clear H1
     by_cases c7 : x7_1 > 0
     ·rw [if_pos c7] at H
      have c7b0 : decide (0 < x7_1) = true:=decide_eq_true c7
      clear c7
      obtain ⟨ji8,hji8⟩ : ∃ j_ : Int,(wrap64 (x7_1 - 1)) = j_:=⟨_,rfl⟩
      replace H : (if 0 ≤ (ji8) then (if (ji8) < (l0.length : Int) then (if ((rd_T36 l0 (ji8)).f0) ≥ ((rd_T36 l0 x7_1).f0) then (some false) else (if ((rd_T36 l0 (ji8)).f1) ≤ ((rd_T36 l0 x7_1).f1) then (some false) else (impl_FrontOk.l0 k1 l0 l0 (l0.length : Int) (wrap64 (x7_1 + 1))))) else (none)) else (none)) = some r:=Q10
      (try rw [hji8] at A5)
      have hji8w : (IntKind.i64.wrap (x7_1 - 1)) = ji8:=(i64_w _).trans hji8
      have c9 : 0 ≤ (ji8):=nn_ H
      rw [if_pos c9] at H
      have c9b0 : decide (0 ≤ (ji8)) = true:=decide_eq_true c9
      clear c9
      have c10 : (ji8) < (l0.length : Int):=nn_ H
      rw [if_pos c10] at H
      have c10b0 : decide ((ji8) < (l0.length : Int)) = true:=decide_eq_true c10
      clear c10
      by_cases c11 : ((rd_T36 l0 (ji8)).f0) ≥ ((rd_T36 l0 x7_1).f0)
      ·rw [if_pos c11] at H
       have c11b0 : decide (((rd_T36 l0 x7_1).f0) ≤ ((rd_T36 l0 (ji8)).f0)) = true:=decide_eq_true c11
       clear c11
       obtain rfl:=Option.some.inj H
       have p354 : 0 ≤ (x7_1 : Int):=of_decide_eq_true Q6
       have q354 : x7_1 < (l0.length : Int):=of_decide_eq_true Q6
       obtain ⟨ad354,e354,hx354_0,hx354_1⟩:=at_T36 HR0.out x7_1 p354 q354
       cases e354
       replace hx354_0:=cb_ HB hx354_0
       replace hx354_1:=cb_ HB hx354_1
       replace p354:=eq_true p354
       replace q354:=eq_true q354
       try go_wp2_with (first|((with_reducible refine gate_dst (N:=4) rfl ?_);refine box_event ?hg (N:=4) ?hd (cs:=#[.int .i64 0,.int .i64 0]) (t:=36) ?hr ?_;(case hd=>rfl);(case hg=>rfl);(case hr=>first|(go_simp;done)|(go_simp;rfl));intro gb355 hg w12 hbox hb;have n0_:=am (below_step Q77 hb);have n1_:=am (hbox);have n2_:=am ((Q167 : w.heap.size ≤ gb355));have n3_:=n2_;clear HB;have HB:=n0_;have BK355:=n1_;have GW355:=n2_;have GE355:=n3_;clear n0_ n1_ n2_ n3_;clear hb hbox hg;obtain ⟨hcz13_0,hcz13_1,hfz13_0,hfz13_1⟩:=bx2_ BK355))
       have n0_ : Aside0 (((w12.setCell ⟨gb355,0,none⟩ (.int .i64 ((rd_T36 l0 x7_1).f0))).setCell ⟨gb355,1,none⟩ (.int .i64 ((rd_T36 l0 x7_1).f1))).heap[gb355]? = some (.cells #[.int .i64 ((rd_T36 l0 x7_1).f0),.int .i64 ((rd_T36 l0 x7_1).f1)] 36 (0,0))):=⟨Q163⟩
       have n1_ : Aside0 (Below w.heap.size w ((w12.setCell ⟨gb355,0,none⟩ (.int .i64 ((rd_T36 l0 x7_1).f0))).setCell ⟨gb355,1,none⟩ (.int .i64 ((rd_T36 l0 x7_1).f1)))):=⟨Q93⟩
       (try clear BK355)
       (try clear HB)
       generalize ((w12.setCell ⟨gb355,0,none⟩ (.int .i64 ((rd_T36 l0 x7_1).f0))).setCell ⟨gb355,1,none⟩ (.int .i64 ((rd_T36 l0 x7_1).f1))) = w14 at n0_ n1_ ⊢
       have BK355:=n0_
       have HB:=n1_
       clear n0_ n1_
       have n0_:=am (blk_drew BK355.out)
       have n1_:=am (below_drew1 HB.out)
       clear BK355
       clear HB
       have BK355:=n0_
       have HB:=n1_
       clear n0_ n1_
       have p357 : 0 ≤ ((ji8) : Int):=of_decide_eq_true Q6
       have q357 : (ji8) < (l0.length : Int):=of_decide_eq_true Q6
       obtain ⟨ad357,e357,hx357_0,hx357_1⟩:=at_T36 HR0.out (ji8) p357 q357
       have hw357_1:=hx357_1
       have hw357_0:=hx357_0
       obtain rfl : ad354 = ad357:=(by injection e357)
       replace hx357_0:=cb_ HB hx357_0
       replace hx357_1:=cb_ HB hx357_1
       replace p357:=eq_true p357
       replace q357:=eq_true q357
       refine start_ (n:=29) (S:=fun w'=>w'.cell? ⟨gb355,0,none⟩ = some (.int .i64 ((rd_T36 l0 x7_1).f0)) ∧ w'.cell? ⟨gb355,1,none⟩ = some (.int .i64 ((rd_T36 l0 x7_1).f1)) ∧ w'.cell? (ad354.add (((ji8)).toNat * 2)) = some (.int .i64 ((rd_T36 l0 (ji8)).f0)) ∧ w'.cell? ⟨(ad354.add (((ji8)).toNat * 2)).block,(ad354.add (((ji8)).toNat * 2)).off + 1,none⟩ = some (.int .i64 ((rd_T36 l0 (ji8)).f1))) (ds:=[]) b29_0 Q1 rfl rfl ⟨(blk_cell BK355.out 0).trans rfl,(blk_cell BK355.out 1).trans rfl,(cb_ HB hw357_0:),(cb_ HB hw357_1:)⟩ (fun hHeld=>?_);refine with_tabW impl_FrontOk.tab4 impl_FrontOk.bits4 (fun HT_ HW_=>?_)
       generalize w14.drew = w15 at BK355 HB hx357_0 hx357_1 hHeld ⊢
       refine tU_ 0 12 b29_1 hHeld ?_
       refine one_ (i:=1) (N:=some 13) b29_2 rfl rfl (one_of HT_.out Q1) Q0 (fun K hK=>?_)
       refine goes_ Try.func62 Q1 rfl #[.agg #[.int .i64 ((rd_T36 l0 x7_1).f0),.int .i64 ((rd_T36 l0 x7_1).f1)]] (by rfl) rfl rfl Q79 ?_
       with_reducible refine (impl_TimeOk.calls ((rd_T36 l0 x7_1).f0) ((rd_T36 l0 x7_1).f1) true _ A5.out).mono ?_
       rintro e w16 ⟨rfl,hb⟩
       refine ⟨_,rfl,?_⟩
       have n0_:=am (blk_below (g:=gb355) (o:=.cells #[.int .i64 ((rd_T36 l0 x7_1).f0),.int .i64 ((rd_T36 l0 x7_1).f1)] 36 (0,0)) Q51 hb)
       have n1_:=am (below_step Q93 hb)
       clear BK355
       clear HB
       have BK355:=n0_
       have HB:=n1_
       clear n0_ n1_
       (try clear hb)
       (try clear hb2)
       (try clear hk)
       (try clear hi)
       refine hK.out _ _ ⟨(blk_cell BK355.out 0).trans rfl,(blk_cell BK355.out 1).trans rfl,(cb_ HB hw357_0:),(cb_ HB hw357_1:)⟩ (fun hHeld=>?_)
       clear hK K
       refine norm_ (a':=?_) ?_ ?_
       rotate_left
       ·show Act.put _ (some 13) _ = _
        simp only [Act.put,sA_,sZ_,sS_,i64_w,i32_w]
        rfl
       refine pU_ 2 14 b29_3 ?_
       refine pU_ 3 15 b29_4 ?_
       refine pU_ 4 16 b29_5 ?_
       refine pU_ 5 17 b29_6 ?_
       refine pU_ 6 18 b29_7 ?_
       refine pU_ 7 19 b29_8 ?_
       refine pU_ 8 20 b29_9 ?_
       refine pU_ 9 21 b29_10 ?_
       refine pU_ 10 22 b29_11 ?_
       refine pU_ 11 23 b29_12 ?_
       refine pU_ 13 25 c50 ?_
       refine tU_ 12 24 b29_14 hHeld ?_
       refine tU_ 14 26 b29_15 hHeld ?_
       refine pU_ 15 27 b29_16 ?_
       refine pU_ 16 28 b29_17 ?_
       refine pV_ 17 29 b29_18 ?_
       refine pV_ 18 30 b29_19 ?_
       refine pV_ 19 31 b29_20 ?_
       refine pV_ 20 32 b29_21 ?_
       refine pV_ 21 33 b29_22 ?_
       refine pV_ 22 34 b29_23 ?_
       refine pV_ 23 35 b29_24 ?_
       refine pV_ 24 36 b29_25 ?_
       refine pV_ 25 37 b29_26 ?_
       refine pU_ 26 38 b29_27 ?_
       refine pU_ 27 39 b29_28 ?_
       refine pU_ 28 40 b29_29 ?_
       refine done_ (done_of HT_.out Q1) ?_
       try go_wp2
       go_ret
       exact ⟨by first|rfl|(simp [errW_none,errW_some] <;> rfl)|(simp only [← hji8];first|rfl|(simp [errW_none,errW_some] <;> rfl))|(simp [*,errW_none,errW_some] <;> rfl),Q93⟩
      ·rw [if_neg c11] at H
       have c11b0 : decide (((rd_T36 l0 x7_1).f0) ≤ ((rd_T36 l0 (ji8)).f0)) = false:=decide_eq_false c11
       clear c11
       by_cases c17 : ((rd_T36 l0 (ji8)).f1) ≤ ((rd_T36 l0 x7_1).f1)
       ·rw [if_pos c17] at H
        have c17b0 : decide (((rd_T36 l0 (ji8)).f1) ≤ ((rd_T36 l0 x7_1).f1)) = true:=decide_eq_true c17
        clear c17
        obtain rfl:=Option.some.inj H
        have p354 : 0 ≤ (x7_1 : Int):=of_decide_eq_true Q6
        have q354 : x7_1 < (l0.length : Int):=of_decide_eq_true Q6
        obtain ⟨ad354,e354,hx354_0,hx354_1⟩:=at_T36 HR0.out x7_1 p354 q354
        cases e354
        replace hx354_0:=cb_ HB hx354_0
        replace hx354_1:=cb_ HB hx354_1
        replace p354:=eq_true p354
        replace q354:=eq_true q354
        try go_wp2_with (first|((with_reducible refine gate_dst (N:=4) rfl ?_);refine box_event ?hg (N:=4) ?hd (cs:=#[.int .i64 0,.int .i64 0]) (t:=36) ?hr ?_;(case hd=>rfl);(case hg=>rfl);(case hr=>first|(go_simp;done)|(go_simp;rfl));intro gb355 hg w18 hbox hb;have n0_:=am (below_step Q77 hb);have n1_:=am (hbox);have n2_:=am ((Q167 : w.heap.size ≤ gb355));have n3_:=n2_;clear HB;have HB:=n0_;have BK355:=n1_;have GW355:=n2_;have GE355:=n3_;clear n0_ n1_ n2_ n3_;clear hb hbox hg;obtain ⟨hcz19_0,hcz19_1,hfz19_0,hfz19_1⟩:=bx2_ BK355))
        have n0_ : Aside0 (((w18.setCell ⟨gb355,0,none⟩ (.int .i64 ((rd_T36 l0 x7_1).f0))).setCell ⟨gb355,1,none⟩ (.int .i64 ((rd_T36 l0 x7_1).f1))).heap[gb355]? = some (.cells #[.int .i64 ((rd_T36 l0 x7_1).f0),.int .i64 ((rd_T36 l0 x7_1).f1)] 36 (0,0))):=⟨Q163⟩
        have n1_ : Aside0 (Below w.heap.size w ((w18.setCell ⟨gb355,0,none⟩ (.int .i64 ((rd_T36 l0 x7_1).f0))).setCell ⟨gb355,1,none⟩ (.int .i64 ((rd_T36 l0 x7_1).f1)))):=⟨Q93⟩
        (try clear BK355)
        (try clear HB)
        generalize ((w18.setCell ⟨gb355,0,none⟩ (.int .i64 ((rd_T36 l0 x7_1).f0))).setCell ⟨gb355,1,none⟩ (.int .i64 ((rd_T36 l0 x7_1).f1))) = w20 at n0_ n1_ ⊢
        have BK355:=n0_
        have HB:=n1_
        clear n0_ n1_
        have n0_:=am (blk_drew BK355.out)
        have n1_:=am (below_drew1 HB.out)
        clear BK355
        clear HB
        have BK355:=n0_
        have HB:=n1_
        clear n0_ n1_
        have p357 : 0 ≤ ((ji8) : Int):=of_decide_eq_true Q6
        have q357 : (ji8) < (l0.length : Int):=of_decide_eq_true Q6
        obtain ⟨ad357,e357,hx357_0,hx357_1⟩:=at_T36 HR0.out (ji8) p357 q357
        have hw357_1:=hx357_1
        have hw357_0:=hx357_0
        obtain rfl : ad354 = ad357:=(by injection e357)
        replace hx357_0:=cb_ HB hx357_0
        replace hx357_1:=cb_ HB hx357_1
        replace p357:=eq_true p357
        replace q357:=eq_true q357
        have p358 : 0 ≤ ((ji8) : Int):=of_decide_eq_true Q6
        have q358 : (ji8) < (l0.length : Int):=of_decide_eq_true Q6
        obtain ⟨ad358,e358,hx358_0,hx358_1⟩:=at_T36 HR0.out (ji8) p358 q358
        have hw358_1:=hx358_1
        have hw358_0:=hx358_0
        obtain rfl : ad354 = ad358:=(by injection e358)
        replace hx358_0:=cb_ HB hx358_0
        replace hx358_1:=cb_ HB hx358_1
        replace p358:=eq_true p358
        replace q358:=eq_true q358
        refine start_ (n:=29) (S:=fun w'=>w'.cell? ⟨gb355,0,none⟩ = some (.int .i64 ((rd_T36 l0 x7_1).f0)) ∧ w'.cell? ⟨gb355,1,none⟩ = some (.int .i64 ((rd_T36 l0 x7_1).f1)) ∧ w'.cell? (ad354.add (((ji8)).toNat * 2)) = some (.int .i64 ((rd_T36 l0 (ji8)).f0)) ∧ w'.cell? ⟨(ad354.add (((ji8)).toNat * 2)).block,(ad354.add (((ji8)).toNat * 2)).off + 1,none⟩ = some (.int .i64 ((rd_T36 l0 (ji8)).f1)) ∧ w'.cell? (ad354.add (((ji8)).toNat * 2)) = some (.int .i64 ((rd_T36 l0 (ji8)).f0)) ∧ w'.cell? ⟨(ad354.add (((ji8)).toNat * 2)).block,(ad354.add (((ji8)).toNat * 2)).off + 1,none⟩ = some (.int .i64 ((rd_T36 l0 (ji8)).f1))) (ds:=[]) b29_0 Q1 rfl rfl ⟨(blk_cell BK355.out 0).trans rfl,(blk_cell BK355.out 1).trans rfl,(cb_ HB hw357_0:),(cb_ HB hw357_1:),(cb_ HB hw358_0:),(cb_ HB hw358_1:)⟩ (fun hHeld=>?_);refine with_tabW impl_FrontOk.tab4 impl_FrontOk.bits4 (fun HT_ HW_=>?_)
        generalize w20.drew = w21 at BK355 HB hx357_0 hx357_1 hx358_0 hx358_1 hHeld ⊢
        refine tU_ 0 12 b29_1 hHeld ?_
        refine one_ (i:=1) (N:=some 13) b29_2 rfl rfl (one_of HT_.out Q1) Q0 (fun K hK=>?_)
        refine goes_ Try.func62 Q1 rfl #[.agg #[.int .i64 ((rd_T36 l0 x7_1).f0),.int .i64 ((rd_T36 l0 x7_1).f1)]] (by rfl) rfl rfl Q79 ?_
        with_reducible refine (impl_TimeOk.calls ((rd_T36 l0 x7_1).f0) ((rd_T36 l0 x7_1).f1) true _ A5.out).mono ?_
        rintro e w22 ⟨rfl,hb⟩
        refine ⟨_,rfl,?_⟩
        have n0_:=am (blk_below (g:=gb355) (o:=.cells #[.int .i64 ((rd_T36 l0 x7_1).f0),.int .i64 ((rd_T36 l0 x7_1).f1)] 36 (0,0)) Q51 hb)
        have n1_:=am (below_step Q93 hb)
        clear BK355
        clear HB
        have BK355:=n0_
        have HB:=n1_
        clear n0_ n1_
        (try clear hb)
        (try clear hb2)
        (try clear hk)
        (try clear hi)
        refine hK.out _ _ ⟨(blk_cell BK355.out 0).trans rfl,(blk_cell BK355.out 1).trans rfl,(cb_ HB hw357_0:),(cb_ HB hw357_1:),(cb_ HB hw358_0:),(cb_ HB hw358_1:)⟩ (fun hHeld=>?_)
        clear hK K
        refine norm_ (a':=?_) ?_ ?_
        rotate_left
        ·show Act.put _ (some 13) _ = _
         simp only [Act.put,sA_,sZ_,sS_,i64_w,i32_w]
         rfl
        refine pU_ 2 14 b29_3 ?_
        refine pU_ 3 15 b29_4 ?_
        refine pU_ 4 16 b29_5 ?_
        refine pU_ 5 17 b29_6 ?_
        refine pU_ 6 18 b29_7 ?_
        refine pU_ 7 19 b29_8 ?_
        refine pU_ 8 20 b29_9 ?_
        refine pU_ 9 21 b29_10 ?_
        refine pU_ 10 22 b29_11 ?_
        refine pU_ 11 23 b29_12 ?_
        refine pU_ 13 25 c50 ?_
        refine tU_ 12 24 b29_14 hHeld ?_
        refine tU_ 14 26 b29_15 hHeld ?_
        refine pU_ 15 27 b29_16 ?_
        refine pU_ 16 28 b29_17 ?_
        refine pU_ 17 29 b29_18 ?_
        refine pU_ 18 30 b29_19 ?_
        refine pU_ 19 31 b29_20 ?_
        refine pU_ 20 32 b29_21 ?_
        refine pU_ 21 33 b29_22 ?_
        refine pU_ 23 35 c67 ?_
        refine tU_ 22 34 b29_24 hHeld ?_
        refine tU_ 24 36 b29_25 hHeld ?_
        refine pU_ 25 37 b29_26 ?_
        refine pU_ 26 38 b29_27 ?_
        refine pU_ 27 39 b29_28 ?_
        refine pU_ 28 40 b29_29 ?_
        refine done_ (done_of HT_.out Q1) ?_
        try go_wp2
        go_ret
        exact ⟨by first|rfl|(simp [errW_none,errW_some] <;> rfl)|(simp only [← hji8];first|rfl|(simp [errW_none,errW_some] <;> rfl))|(simp [*,errW_none,errW_some] <;> rfl),Q93⟩
       ·rw [if_neg c17] at H
        have c17b0 : decide (((rd_T36 l0 (ji8)).f1) ≤ ((rd_T36 l0 x7_1).f1)) = false:=decide_eq_false c17
        clear c17
        have H':=Aside0.mk H
        clear H
        have p354 : 0 ≤ (x7_1 : Int):=of_decide_eq_true Q6
        have q354 : x7_1 < (l0.length : Int):=of_decide_eq_true Q6
        obtain ⟨ad354,e354,hx354_0,hx354_1⟩:=at_T36 HR0.out x7_1 p354 q354
        cases e354
        replace hx354_0:=cb_ HB hx354_0
        replace hx354_1:=cb_ HB hx354_1
        replace p354:=eq_true p354
        replace q354:=eq_true q354
        try go_wp2_with (first|((with_reducible refine gate_dst (N:=4) rfl ?_);refine box_event ?hg (N:=4) ?hd (cs:=#[.int .i64 0,.int .i64 0]) (t:=36) ?hr ?_;(case hd=>rfl);(case hg=>rfl);(case hr=>first|(go_simp;done)|(go_simp;rfl));intro gb355 hg w23 hbox hb;have n0_:=am (below_step Q77 hb);have n1_:=am (hbox);have n2_:=am ((Q167 : w.heap.size ≤ gb355));have n3_:=n2_;clear HB;have HB:=n0_;have BK355:=n1_;have GW355:=n2_;have GE355:=n3_;clear n0_ n1_ n2_ n3_;clear hb hbox hg;obtain ⟨hcz24_0,hcz24_1,hfz24_0,hfz24_1⟩:=bx2_ BK355))
        have n0_ : Aside0 (((w23.setCell ⟨gb355,0,none⟩ (.int .i64 ((rd_T36 l0 x7_1).f0))).setCell ⟨gb355,1,none⟩ (.int .i64 ((rd_T36 l0 x7_1).f1))).heap[gb355]? = some (.cells #[.int .i64 ((rd_T36 l0 x7_1).f0),.int .i64 ((rd_T36 l0 x7_1).f1)] 36 (0,0))):=⟨Q163⟩
        have n1_ : Aside0 (Below w.heap.size w ((w23.setCell ⟨gb355,0,none⟩ (.int .i64 ((rd_T36 l0 x7_1).f0))).setCell ⟨gb355,1,none⟩ (.int .i64 ((rd_T36 l0 x7_1).f1)))):=⟨Q93⟩
        (try clear BK355)
        (try clear HB)
        generalize ((w23.setCell ⟨gb355,0,none⟩ (.int .i64 ((rd_T36 l0 x7_1).f0))).setCell ⟨gb355,1,none⟩ (.int .i64 ((rd_T36 l0 x7_1).f1))) = w25 at n0_ n1_ ⊢
        have BK355:=n0_
        have HB:=n1_
        clear n0_ n1_
        have n0_:=am (blk_drew BK355.out)
        have n1_:=am (below_drew1 HB.out)
        clear BK355
        clear HB
        have BK355:=n0_
        have HB:=n1_
        clear n0_ n1_
        have p357 : 0 ≤ ((ji8) : Int):=of_decide_eq_true Q6
        have q357 : (ji8) < (l0.length : Int):=of_decide_eq_true Q6
        obtain ⟨ad357,e357,hx357_0,hx357_1⟩:=at_T36 HR0.out (ji8) p357 q357
        have hw357_1:=hx357_1
        have hw357_0:=hx357_0
        obtain rfl : ad354 = ad357:=(by injection e357)
        replace hx357_0:=cb_ HB hx357_0
        replace hx357_1:=cb_ HB hx357_1
        replace p357:=eq_true p357
        replace q357:=eq_true q357
        have p358 : 0 ≤ ((ji8) : Int):=of_decide_eq_true Q6
        have q358 : (ji8) < (l0.length : Int):=of_decide_eq_true Q6
        obtain ⟨ad358,e358,hx358_0,hx358_1⟩:=at_T36 HR0.out (ji8) p358 q358
        have hw358_1:=hx358_1
        have hw358_0:=hx358_0
        obtain rfl : ad354 = ad358:=(by injection e358)
        replace hx358_0:=cb_ HB hx358_0
        replace hx358_1:=cb_ HB hx358_1
        replace p358:=eq_true p358
        replace q358:=eq_true q358
        refine start_ (n:=29) (S:=fun w'=>w'.cell? ⟨gb355,0,none⟩ = some (.int .i64 ((rd_T36 l0 x7_1).f0)) ∧ w'.cell? ⟨gb355,1,none⟩ = some (.int .i64 ((rd_T36 l0 x7_1).f1)) ∧ w'.cell? (ad354.add (((ji8)).toNat * 2)) = some (.int .i64 ((rd_T36 l0 (ji8)).f0)) ∧ w'.cell? ⟨(ad354.add (((ji8)).toNat * 2)).block,(ad354.add (((ji8)).toNat * 2)).off + 1,none⟩ = some (.int .i64 ((rd_T36 l0 (ji8)).f1)) ∧ w'.cell? (ad354.add (((ji8)).toNat * 2)) = some (.int .i64 ((rd_T36 l0 (ji8)).f0)) ∧ w'.cell? ⟨(ad354.add (((ji8)).toNat * 2)).block,(ad354.add (((ji8)).toNat * 2)).off + 1,none⟩ = some (.int .i64 ((rd_T36 l0 (ji8)).f1))) (ds:=[]) b29_0 Q1 rfl rfl ⟨(blk_cell BK355.out 0).trans rfl,(blk_cell BK355.out 1).trans rfl,(cb_ HB hw357_0:),(cb_ HB hw357_1:),(cb_ HB hw358_0:),(cb_ HB hw358_1:)⟩ (fun hHeld=>?_);refine with_tabW impl_FrontOk.tab4 impl_FrontOk.bits4 (fun HT_ HW_=>?_)
        generalize w25.drew = w26 at BK355 HB hx357_0 hx357_1 hx358_0 hx358_1 hHeld ⊢
        refine tU_ 0 12 b29_1 hHeld ?_
        refine one_ (i:=1) (N:=some 13) b29_2 rfl rfl (one_of HT_.out Q1) Q0 (fun K hK=>?_)
        refine goes_ Try.func62 Q1 rfl #[.agg #[.int .i64 ((rd_T36 l0 x7_1).f0),.int .i64 ((rd_T36 l0 x7_1).f1)]] (by rfl) rfl rfl Q79 ?_
        with_reducible refine (impl_TimeOk.calls ((rd_T36 l0 x7_1).f0) ((rd_T36 l0 x7_1).f1) true _ A5.out).mono ?_
        rintro e w27 ⟨rfl,hb⟩
        refine ⟨_,rfl,?_⟩
        have n0_:=am (blk_below (g:=gb355) (o:=.cells #[.int .i64 ((rd_T36 l0 x7_1).f0),.int .i64 ((rd_T36 l0 x7_1).f1)] 36 (0,0)) Q51 hb)
        have n1_:=am (below_step Q93 hb)
        clear BK355
        clear HB
        have BK355:=n0_
        have HB:=n1_
        clear n0_ n1_
        (try clear hb)
        (try clear hb2)
        (try clear hk)
        (try clear hi)
        refine hK.out _ _ ⟨(blk_cell BK355.out 0).trans rfl,(blk_cell BK355.out 1).trans rfl,(cb_ HB hw357_0:),(cb_ HB hw357_1:),(cb_ HB hw358_0:),(cb_ HB hw358_1:)⟩ (fun hHeld=>?_)
        clear hK K
        refine norm_ (a':=?_) ?_ ?_
        rotate_left
        ·show Act.put _ (some 13) _ = _
         simp only [Act.put,sA_,sZ_,sS_,i64_w,i32_w]
         rfl
        refine pU_ 2 14 b29_3 ?_
        refine pU_ 3 15 b29_4 ?_
        refine pU_ 4 16 b29_5 ?_
        refine pU_ 5 17 b29_6 ?_
        refine pU_ 6 18 b29_7 ?_
        refine pU_ 7 19 b29_8 ?_
        refine pU_ 8 20 b29_9 ?_
        refine pU_ 9 21 b29_10 ?_
        refine pU_ 10 22 b29_11 ?_
        refine pU_ 11 23 b29_12 ?_
        refine pU_ 13 25 c50 ?_
        refine tU_ 12 24 b29_14 hHeld ?_
        refine tU_ 14 26 b29_15 hHeld ?_
        refine pU_ 15 27 b29_16 ?_
        refine pU_ 16 28 b29_17 ?_
        refine pU_ 17 29 b29_18 ?_
        refine pU_ 18 30 b29_19 ?_
        refine pU_ 19 31 b29_20 ?_
        refine pU_ 20 32 b29_21 ?_
        refine pU_ 21 33 b29_22 ?_
        refine pU_ 23 35 c67 ?_
        refine tU_ 22 34 b29_24 hHeld ?_
        refine tU_ 24 36 b29_25 hHeld ?_
        refine pU_ 25 37 b29_26 ?_
        refine pU_ 26 38 b29_27 ?_
        refine pU_ 27 39 b29_28 ?_
        refine pU_ 28 40 b29_29 ?_
        refine done_ (done_of HT_.out Q1) ?_
        try go_wp2
        go_roundg k1
        case measure=>have:=HK1.out;omega
        case rel=>exact ⟨(wrap64 (x7_1 + 1)),Q5,H',⟨Q2⟩,⟨Q93⟩⟩
     ·rw [if_neg c7] at H
      have c7b0 : decide (0 < x7_1) = false:=decide_eq_false c7
      clear c7
      have H':=Aside0.mk H
      clear H
      have p354 : 0 ≤ (x7_1 : Int):=of_decide_eq_true Q6
      have q354 : x7_1 < (l0.length : Int):=of_decide_eq_true Q6
      obtain ⟨ad354,e354,hx354_0,hx354_1⟩:=at_T36 HR0.out x7_1 p354 q354
      cases e354
      replace hx354_0:=cb_ HB hx354_0
      replace hx354_1:=cb_ HB hx354_1
      replace p354:=eq_true p354
      replace q354:=eq_true q354
      try go_wp2_with (first|((with_reducible refine gate_dst (N:=4) rfl ?_);refine box_event ?hg (N:=4) ?hd (cs:=#[.int .i64 0,.int .i64 0]) (t:=36) ?hr ?_;(case hd=>rfl);(case hg=>rfl);(case hr=>first|(go_simp;done)|(go_simp;rfl));intro gb355 hg w28 hbox hb;have n0_:=am (below_step Q77 hb);have n1_:=am (hbox);have n2_:=am ((Q167 : w.heap.size ≤ gb355));have n3_:=n2_;clear HB;have HB:=n0_;have BK355:=n1_;have GW355:=n2_;have GE355:=n3_;clear n0_ n1_ n2_ n3_;clear hb hbox hg;obtain ⟨hcz29_0,hcz29_1,hfz29_0,hfz29_1⟩:=bx2_ BK355))
      have n0_ : Aside0 (((w28.setCell ⟨gb355,0,none⟩ (.int .i64 ((rd_T36 l0 x7_1).f0))).setCell ⟨gb355,1,none⟩ (.int .i64 ((rd_T36 l0 x7_1).f1))).heap[gb355]? = some (.cells #[.int .i64 ((rd_T36 l0 x7_1).f0),.int .i64 ((rd_T36 l0 x7_1).f1)] 36 (0,0))):=⟨Q163⟩
      have n1_ : Aside0 (Below w.heap.size w ((w28.setCell ⟨gb355,0,none⟩ (.int .i64 ((rd_T36 l0 x7_1).f0))).setCell ⟨gb355,1,none⟩ (.int .i64 ((rd_T36 l0 x7_1).f1)))):=⟨Q93⟩
      (try clear BK355)
      (try clear HB)
      generalize ((w28.setCell ⟨gb355,0,none⟩ (.int .i64 ((rd_T36 l0 x7_1).f0))).setCell ⟨gb355,1,none⟩ (.int .i64 ((rd_T36 l0 x7_1).f1))) = w30 at n0_ n1_ ⊢
      have BK355:=n0_
      have HB:=n1_
      clear n0_ n1_
      have n0_:=am (blk_drew BK355.out)
      have n1_:=am (below_drew1 HB.out)
      clear BK355
      clear HB
      have BK355:=n0_
      have HB:=n1_
      clear n0_ n1_
      refine start_ (n:=29) (S:=fun w'=>w'.cell? ⟨gb355,0,none⟩ = some (.int .i64 ((rd_T36 l0 x7_1).f0)) ∧ w'.cell? ⟨gb355,1,none⟩ = some (.int .i64 ((rd_T36 l0 x7_1).f1))) (ds:=[]) b29_0 Q1 rfl rfl ⟨(blk_cell BK355.out 0).trans rfl,(blk_cell BK355.out 1).trans rfl⟩ (fun hHeld=>?_);refine with_tabW impl_FrontOk.tab4 impl_FrontOk.bits4 (fun HT_ HW_=>?_)
      generalize w30.drew = w31 at BK355 HB hHeld ⊢
      refine tU_ 0 12 b29_1 hHeld ?_
      refine one_ (i:=1) (N:=some 13) b29_2 rfl rfl (one_of HT_.out Q1) Q0 (fun K hK=>?_)
      refine goes_ Try.func62 Q1 rfl #[.agg #[.int .i64 ((rd_T36 l0 x7_1).f0),.int .i64 ((rd_T36 l0 x7_1).f1)]] (by rfl) rfl rfl Q79 ?_
      with_reducible refine (impl_TimeOk.calls ((rd_T36 l0 x7_1).f0) ((rd_T36 l0 x7_1).f1) true _ A5.out).mono ?_
      rintro e w32 ⟨rfl,hb⟩
      refine ⟨_,rfl,?_⟩
      have n0_:=am (blk_below (g:=gb355) (o:=.cells #[.int .i64 ((rd_T36 l0 x7_1).f0),.int .i64 ((rd_T36 l0 x7_1).f1)] 36 (0,0)) Q51 hb)
      have n1_:=am (below_step Q93 hb)
      clear BK355
      clear HB
      have BK355:=n0_
      have HB:=n1_
      clear n0_ n1_
      (try clear hb)
      (try clear hb2)
      (try clear hk)
      (try clear hi)
      refine hK.out _ _ ⟨(blk_cell BK355.out 0).trans rfl,(blk_cell BK355.out 1).trans rfl⟩ (fun hHeld=>?_)
      clear hK K
      refine norm_ (a':=?_) ?_ ?_
      rotate_left
      ·show Act.put _ (some 13) _ = _
       simp only [Act.put,sA_,sZ_,sS_,i64_w,i32_w]
       rfl
      refine pU_ 2 14 b29_3 ?_
      refine pU_ 3 15 b29_4 ?_
      refine pU_ 4 16 b29_5 ?_
      refine pU_ 5 17 b29_6 ?_
      refine pU_ 6 18 b29_7 ?_
      refine pV_ 7 19 b29_8 ?_
      refine pV_ 8 20 b29_9 ?_
      refine pV_ 9 21 b29_10 ?_
      refine pV_ 10 22 b29_11 ?_
      refine pV_ 11 23 b29_12 ?_
      refine pV_ 12 24 b29_13 ?_
      refine pV_ 13 25 b29_14 ?_
      refine pV_ 14 26 b29_15 ?_
      refine pV_ 15 27 b29_16 ?_
      refine pV_ 16 28 b29_17 ?_
      refine pV_ 17 29 b29_18 ?_
      refine pV_ 18 30 b29_19 ?_
      refine pV_ 19 31 b29_20 ?_
      refine pV_ 20 32 b29_21 ?_
      refine pV_ 21 33 b29_22 ?_
      refine pV_ 22 34 b29_23 ?_
      refine pV_ 23 35 b29_24 ?_
      refine pV_ 24 36 b29_25 ?_
      refine pV_ 25 37 b29_26 ?_
      refine pV_ 26 38 b29_27 ?_
      refine pU_ 27 39 b29_28 ?_
      refine pU_ 28 40 b29_29 ?_
      refine done_ (done_of HT_.out Q1) ?_
      try go_wp2
      go_roundg k1
      case measure=>have:=HK1.out;omega
      case rel=>exact ⟨(wrap64 (x7_1 + 1)),Q5,H',⟨Q2⟩,⟨Q93⟩⟩
    ·replace c6:=Bool.eq_false_iff.mpr c6
     subst c6
     have H1 : (some false) = some r:=by rw [if_neg (show ¬ (false = true) by decide)] at H;exact H
     clear H
     have H:=H1
     clear H1
     obtain rfl:=Option.some.inj H
     have p354 : 0 ≤ (x7_1 : Int):=of_decide_eq_true Q6
     have q354 : x7_1 < (l0.length : Int):=of_decide_eq_true Q6
     obtain ⟨ad354,e354,hx354_0,hx354_1⟩:=at_T36 HR0.out x7_1 p354 q354
     cases e354
     replace hx354_0:=cb_ HB hx354_0
     replace hx354_1:=cb_ HB hx354_1
     replace p354:=eq_true p354
     replace q354:=eq_true q354
     try go_wp2_with (first|((with_reducible refine gate_dst (N:=4) rfl ?_);refine box_event ?hg (N:=4) ?hd (cs:=#[.int .i64 0,.int .i64 0]) (t:=36) ?hr ?_;(case hd=>rfl);(case hg=>rfl);(case hr=>first|(go_simp;done)|(go_simp;rfl));intro gb355 hg w33 hbox hb;have n0_:=am (below_step Q77 hb);have n1_:=am (hbox);have n2_:=am ((Q167 : w.heap.size ≤ gb355));have n3_:=n2_;clear HB;have HB:=n0_;have BK355:=n1_;have GW355:=n2_;have GE355:=n3_;clear n0_ n1_ n2_ n3_;clear hb hbox hg;obtain ⟨hcz34_0,hcz34_1,hfz34_0,hfz34_1⟩:=bx2_ BK355))
     have n0_ : Aside0 (((w33.setCell ⟨gb355,0,none⟩ (.int .i64 ((rd_T36 l0 x7_1).f0))).setCell ⟨gb355,1,none⟩ (.int .i64 ((rd_T36 l0 x7_1).f1))).heap[gb355]? = some (.cells #[.int .i64 ((rd_T36 l0 x7_1).f0),.int .i64 ((rd_T36 l0 x7_1).f1)] 36 (0,0))):=⟨Q163⟩
     have n1_ : Aside0 (Below w.heap.size w ((w33.setCell ⟨gb355,0,none⟩ (.int .i64 ((rd_T36 l0 x7_1).f0))).setCell ⟨gb355,1,none⟩ (.int .i64 ((rd_T36 l0 x7_1).f1)))):=⟨Q93⟩
     (try clear BK355)
     (try clear HB)
     generalize ((w33.setCell ⟨gb355,0,none⟩ (.int .i64 ((rd_T36 l0 x7_1).f0))).setCell ⟨gb355,1,none⟩ (.int .i64 ((rd_T36 l0 x7_1).f1))) = w35 at n0_ n1_ ⊢
     have BK355:=n0_
     have HB:=n1_
     clear n0_ n1_
     have n0_:=am (blk_drew BK355.out)
     have n1_:=am (below_drew1 HB.out)
     clear BK355
     clear HB
     have BK355:=n0_
     have HB:=n1_
     clear n0_ n1_
     refine start_ (n:=29) (S:=fun w'=>w'.cell? ⟨gb355,0,none⟩ = some (.int .i64 ((rd_T36 l0 x7_1).f0)) ∧ w'.cell? ⟨gb355,1,none⟩ = some (.int .i64 ((rd_T36 l0 x7_1).f1))) (ds:=[]) b29_0 Q1 rfl rfl ⟨(blk_cell BK355.out 0).trans rfl,(blk_cell BK355.out 1).trans rfl⟩ (fun hHeld=>?_);refine with_tabW impl_FrontOk.tab4 impl_FrontOk.bits4 (fun HT_ HW_=>?_)
     generalize w35.drew = w36 at BK355 HB hHeld ⊢
     refine tU_ 0 12 b29_1 hHeld ?_
     refine one_ (i:=1) (N:=some 13) b29_2 rfl rfl (one_of HT_.out Q1) Q0 (fun K hK=>?_)
     refine goes_ Try.func62 Q1 rfl #[.agg #[.int .i64 ((rd_T36 l0 x7_1).f0),.int .i64 ((rd_T36 l0 x7_1).f1)]] (by rfl) rfl rfl Q79 ?_
     with_reducible refine (impl_TimeOk.calls ((rd_T36 l0 x7_1).f0) ((rd_T36 l0 x7_1).f1) false _ A5.out).mono ?_
     rintro e w37 ⟨rfl,hb⟩
     refine ⟨_,rfl,?_⟩
     have n0_:=am (blk_below (g:=gb355) (o:=.cells #[.int .i64 ((rd_T36 l0 x7_1).f0),.int .i64 ((rd_T36 l0 x7_1).f1)] 36 (0,0)) Q51 hb)
     have n1_:=am (below_step Q93 hb)
     clear BK355
     clear HB
     have BK355:=n0_
     have HB:=n1_
     clear n0_ n1_
     (try clear hb)
     (try clear hb2)
     (try clear hk)
     (try clear hi)
     refine hK.out _ _ ⟨(blk_cell BK355.out 0).trans rfl,(blk_cell BK355.out 1).trans rfl⟩ (fun hHeld=>?_)
     clear hK K
     refine norm_ (a':=?_) ?_ ?_
     rotate_left
     ·show Act.put _ (some 13) _ = _
      simp only [Act.put,sA_,sZ_,sS_,i64_w,i32_w]
      rfl
     refine pU_ 2 14 b29_3 ?_
     refine pU_ 3 15 b29_4 ?_
     refine pV_ 4 16 b29_5 ?_
     refine pV_ 5 17 b29_6 ?_
     refine pV_ 6 18 b29_7 ?_
     refine pV_ 7 19 b29_8 ?_
     refine pV_ 8 20 b29_9 ?_
     refine pV_ 9 21 b29_10 ?_
     refine pV_ 10 22 b29_11 ?_
     refine pV_ 11 23 b29_12 ?_
     refine pV_ 12 24 b29_13 ?_
     refine pV_ 13 25 b29_14 ?_
     refine pV_ 14 26 b29_15 ?_
     refine pV_ 15 27 b29_16 ?_
     refine pV_ 16 28 b29_17 ?_
     refine pV_ 17 29 b29_18 ?_
     refine pV_ 18 30 b29_19 ?_
     refine pV_ 19 31 b29_20 ?_
     refine pV_ 20 32 b29_21 ?_
     refine pV_ 21 33 b29_22 ?_
     refine pV_ 22 34 b29_23 ?_
     refine pV_ 23 35 b29_24 ?_
     refine pV_ 24 36 b29_25 ?_
     refine pV_ 25 37 b29_26 ?_
     refine pV_ 26 38 b29_27 ?_
     refine pV_ 27 39 b29_28 ?_
     refine pU_ 28 40 b29_29 ?_
     refine done_ (done_of HT_.out Q1) ?_
     try go_wp2
     go_ret
     exact ⟨Q17,Q93⟩
   ·rw [if_neg c2] at H
    have c2b0 : decide (x7_1 < (l0.length : Int)) = false:=decide_eq_false c2
    clear c2
    obtain rfl:=Option.some.inj H
    go_wp2
    go_ret
    exact ⟨Q17,Q77⟩
def impl_ahead.f (a0_0 : Int) (a0_1 : Int) (a1_0 : Int) (a1_1 : Int) : Option (Bool) := if a0_0 < a1_0 then (some true) else (if a0_0 = a1_0 then (some (decide (a0_1 < a1_1))) else (some false))
set_option maxHeartbeats 8000000 in
set_option maxRecDepth 100000 in
theorem impl_ahead.calls (a0_0 : Int) (a0_1 : Int) (a1_0 : Int) (a1_1 : Int) (r : Bool) (w : World) (h : impl_ahead.f a0_0 a0_1 a1_0 a1_1 = some r) :
  Calls Try.prog 91 #[.agg #[.int .i64 a0_0,.int .i64 a0_1],.agg #[.int .i64 a1_0,.int .i64 a1_1]] w fun e w'=>e = .returned (.bool r) ∧ Below w.heap.size w w':=by
 have hu36:=Try.underlying36
 have HB:=am (Below.refl w.heap.size w)
 have H : (if a0_0 < a1_0 then (some true) else (if a0_0 = a1_0 then (some (decide (a0_1 < a1_1))) else (some false))) = some r:=h
 clear h
 by_cases c3 : a0_0 < a1_0
 ·rw [if_pos c3] at H
  have c3b0 : decide (a0_0 < a1_0) = true:=decide_eq_true c3
  clear c3
  obtain rfl:=Option.some.inj H
  go_enter Try.func91,Try.ntmps91
  go_wp2_with (first|((with_reducible refine gate_dst (N:=2) rfl ?_);refine box_event ?hg (N:=2) ?hd (cs:=#[.int .i64 a0_0,.int .i64 a0_1]) (t:=36) ?hr ?_;(case hd=>rfl);(case hg=>rfl);(case hr=>first|(go_simp;done)|(go_simp;rfl));intro gb359 hg w4 hbox hb;have n0_:=am (below_step Q77 hb);have n1_:=am (hbox);have n2_:=am ((Q167 : w.heap.size ≤ gb359));have n3_:=n2_;clear HB;have HB:=n0_;have BK359:=n1_;have GW359:=n2_;have GE359:=n3_;clear n0_ n1_ n2_ n3_;clear hb hbox hg)|((with_reducible refine gate_dst (N:=3) rfl ?_);refine box_event ?hg (N:=3) ?hd (cs:=#[.int .i64 a1_0,.int .i64 a1_1]) (t:=36) ?hr ?_;(case hd=>rfl);(case hg=>rfl);(case hr=>first|(go_simp;done)|(go_simp;rfl));intro gb360 hg w5 hbox hb;have n0_:=am (blk_below (g:=gb359) (o:=.cells #[.int .i64 a0_0,.int .i64 a0_1] 36 (0,0)) Q52 hb);have n1_:=am (below_step Q94 hb);have n2_:=am (hbox);have n3_:=am ((by rw [hg];exact (below_size Q94) : w.heap.size ≤ gb360));have n4_:=n3_;have n5_:=am ((Q177 : gb359 ≠ gb360));have n6_:=am ((Q178 : gb360 ≠ gb359));clear BK359 HB;have BK359:=n0_;have HB:=n1_;have BK360:=n2_;have GW360:=n3_;have GE360:=n4_;have NB359_360:=n5_;have NB360_359:=n6_;clear n0_ n1_ n2_ n3_ n4_ n5_ n6_;clear hb hbox hg;have hnb6:=NB359_360.out;have hnc6:=NB360_359.out;obtain ⟨hcz7_0,hcz7_1,hfz7_0,hfz7_1⟩:=bx2_ BK359;obtain ⟨hcz8_0,hcz8_1,hfz8_0,hfz8_1⟩:=bx2_ BK360))
  go_ret
  exact ⟨Q17,Q129⟩
 ·rw [if_neg c3] at H
  have c3b0 : decide (a0_0 < a1_0) = false:=decide_eq_false c3
  clear c3
  by_cases c9 : a0_0 = a1_0
  ·rw [if_pos c9] at H
   have c9b0 : (a0_0 == a1_0) = true:=beq_iff_eq.mpr c9
   have c9b1 : (a0_0 != a1_0) = false:=bne_eq_false_iff_eq.mpr c9
   clear c9
   obtain rfl:=Option.some.inj H
   go_enter Try.func91,Try.ntmps91
   go_wp2_with (first|((with_reducible refine gate_dst (N:=2) rfl ?_);refine box_event ?hg (N:=2) ?hd (cs:=#[.int .i64 a0_0,.int .i64 a0_1]) (t:=36) ?hr ?_;(case hd=>rfl);(case hg=>rfl);(case hr=>first|(go_simp;done)|(go_simp;rfl));intro gb359 hg w10 hbox hb;have n0_:=am (below_step Q77 hb);have n1_:=am (hbox);have n2_:=am ((Q167 : w.heap.size ≤ gb359));have n3_:=n2_;clear HB;have HB:=n0_;have BK359:=n1_;have GW359:=n2_;have GE359:=n3_;clear n0_ n1_ n2_ n3_;clear hb hbox hg)|((with_reducible refine gate_dst (N:=3) rfl ?_);refine box_event ?hg (N:=3) ?hd (cs:=#[.int .i64 a1_0,.int .i64 a1_1]) (t:=36) ?hr ?_;(case hd=>rfl);(case hg=>rfl);(case hr=>first|(go_simp;done)|(go_simp;rfl));intro gb360 hg w11 hbox hb;have n0_:=am (blk_below (g:=gb359) (o:=.cells #[.int .i64 a0_0,.int .i64 a0_1] 36 (0,0)) Q52 hb);have n1_:=am (below_step Q94 hb);have n2_:=am (hbox);have n3_:=am ((by rw [hg];exact (below_size Q94) : w.heap.size ≤ gb360));have n4_:=n3_;have n5_:=am ((Q177 : gb359 ≠ gb360));have n6_:=am ((Q178 : gb360 ≠ gb359));clear BK359 HB;have BK359:=n0_;have HB:=n1_;have BK360:=n2_;have GW360:=n3_;have GE360:=n4_;have NB359_360:=n5_;have NB360_359:=n6_;clear n0_ n1_ n2_ n3_ n4_ n5_ n6_;clear hb hbox hg;have hnb12:=NB359_360.out;have hnc12:=NB360_359.out;obtain ⟨hcz13_0,hcz13_1,hfz13_0,hfz13_1⟩:=bx2_ BK359;obtain ⟨hcz14_0,hcz14_1,hfz14_0,hfz14_1⟩:=bx2_ BK360))
   go_ret
   exact ⟨Q17,Q129⟩
  ·rw [if_neg c9] at H
   have c9b0 : (a0_0 == a1_0) = false:=beq_eq_false_iff_ne.mpr c9
   have c9b1 : (a0_0 != a1_0) = true:=bne_iff_ne.mpr c9
   obtain rfl:=Option.some.inj H
   go_enter Try.func91,Try.ntmps91
   go_wp2_with (first|((with_reducible refine gate_dst (N:=2) rfl ?_);refine box_event ?hg (N:=2) ?hd (cs:=#[.int .i64 a0_0,.int .i64 a0_1]) (t:=36) ?hr ?_;(case hd=>rfl);(case hg=>rfl);(case hr=>first|(go_simp;done)|(go_simp;rfl));intro gb359 hg w15 hbox hb;have n0_:=am (below_step Q77 hb);have n1_:=am (hbox);have n2_:=am ((Q167 : w.heap.size ≤ gb359));have n3_:=n2_;clear HB;have HB:=n0_;have BK359:=n1_;have GW359:=n2_;have GE359:=n3_;clear n0_ n1_ n2_ n3_;clear hb hbox hg)|((with_reducible refine gate_dst (N:=3) rfl ?_);refine box_event ?hg (N:=3) ?hd (cs:=#[.int .i64 a1_0,.int .i64 a1_1]) (t:=36) ?hr ?_;(case hd=>rfl);(case hg=>rfl);(case hr=>first|(go_simp;done)|(go_simp;rfl));intro gb360 hg w16 hbox hb;have n0_:=am (blk_below (g:=gb359) (o:=.cells #[.int .i64 a0_0,.int .i64 a0_1] 36 (0,0)) Q52 hb);have n1_:=am (below_step Q94 hb);have n2_:=am (hbox);have n3_:=am ((by rw [hg];exact (below_size Q94) : w.heap.size ≤ gb360));have n4_:=n3_;have n5_:=am ((Q177 : gb359 ≠ gb360));have n6_:=am ((Q178 : gb360 ≠ gb359));clear BK359 HB;have BK359:=n0_;have HB:=n1_;have BK360:=n2_;have GW360:=n3_;have GE360:=n4_;have NB359_360:=n5_;have NB360_359:=n6_;clear n0_ n1_ n2_ n3_ n4_ n5_ n6_;clear hb hbox hg;have hnb17:=NB359_360.out;have hnc17:=NB360_359.out;obtain ⟨hcz18_0,hcz18_1,hfz18_0,hfz18_1⟩:=bx2_ BK359;obtain ⟨hcz19_0,hcz19_1,hfz19_0,hfz19_1⟩:=bx2_ BK360))
   go_ret
   exact ⟨Q17,Q129⟩
def impl_rowAhead.f (a0_0 : Int) (a0_1 : Int) (a0_2 : Int) (a0_3 : Int) (a0_4 : Int) (a1_0 : Int) (a1_1 : Int) (a1_2 : Int) (a1_3 : Int) (a1_4 : Int) : Option (Bool) := if a0_0 = a1_0 then (if a0_1 = a1_1 then ((impl_ahead.f a0_2 a0_3 a1_2 a1_3).bind fun t363 => (some t363)) else (some (decide (a0_1 < a1_1)))) else (some (decide (a0_0 < a1_0)))
set_option maxHeartbeats 8000000 in
set_option maxRecDepth 100000 in
theorem impl_rowAhead.calls (a0_0 : Int) (a0_1 : Int) (a0_2 : Int) (a0_3 : Int) (a0_4 : Int) (a1_0 : Int) (a1_1 : Int) (a1_2 : Int) (a1_3 : Int) (a1_4 : Int) (r : Bool) (w : World) (h : impl_rowAhead.f a0_0 a0_1 a0_2 a0_3 a0_4 a1_0 a1_1 a1_2 a1_3 a1_4 = some r) :
  Calls Try.prog 64 #[.agg #[.int .i64 a0_0,.int .i64 a0_1,.int .i64 a0_2,.int .i64 a0_3,.int .i64 a0_4],.agg #[.int .i64 a1_0,.int .i64 a1_1,.int .i64 a1_2,.int .i64 a1_3,.int .i64 a1_4]] w fun e w'=>e = .returned (.bool r) ∧ Below w.heap.size w w':=by
 have hu38:=Try.underlying38
 have hu36:=Try.underlying36
 have HB:=am (Below.refl w.heap.size w)
 have H : (if a0_0 = a1_0 then (if a0_1 = a1_1 then ((impl_ahead.f a0_2 a0_3 a1_2 a1_3).bind fun t363=>(some t363)) else (some (decide (a0_1 < a1_1)))) else (some (decide (a0_0 < a1_0)))) = some r:=h
 clear h
 by_cases c3 : a0_0 = a1_0
 ·rw [if_pos c3] at H
  have c3b0 : (a0_0 == a1_0) = true:=beq_iff_eq.mpr c3
  have c3b1 : (a0_0 != a1_0) = false:=bne_eq_false_iff_eq.mpr c3
  clear c3
  by_cases c4 : a0_1 = a1_1
  ·rw [if_pos c4] at H
   have c4b0 : (a0_1 == a1_1) = true:=beq_iff_eq.mpr c4
   have c4b1 : (a0_1 != a1_1) = false:=bne_eq_false_iff_eq.mpr c4
   clear c4
   replace H:=Option.bind_eq_some_iff.mp H
   obtain ⟨t363,A50,H⟩:=H
   replace H : (some t363) = some r:=H
   have A5:=Aside0.mk A50
   clear A50
   obtain rfl:=Option.some.inj H
   go_enter Try.func64,Try.ntmps64
   go_wp2_with (first|((with_reducible refine gate_dst (N:=2) rfl ?_);refine box_event ?hg (N:=2) ?hd (cs:=#[.int .i64 a0_0,.int .i64 a0_1,.int .i64 a0_2,.int .i64 a0_3,.int .i64 a0_4]) (t:=38) ?hr ?_;(case hd=>rfl);(case hg=>rfl);(case hr=>first|(go_simp;done)|(go_simp;rfl));intro gb361 hg w6 hbox hb;have n0_:=am (below_step Q77 hb);have n1_:=am (hbox);have n2_:=am ((Q167 : w.heap.size ≤ gb361));have n3_:=n2_;clear HB;have HB:=n0_;have BK361:=n1_;have GW361:=n2_;have GE361:=n3_;clear n0_ n1_ n2_ n3_;clear hb hbox hg)|((with_reducible refine gate_dst (N:=3) rfl ?_);refine box_event ?hg (N:=3) ?hd (cs:=#[.int .i64 a1_0,.int .i64 a1_1,.int .i64 a1_2,.int .i64 a1_3,.int .i64 a1_4]) (t:=38) ?hr ?_;(case hd=>rfl);(case hg=>rfl);(case hr=>first|(go_simp;done)|(go_simp;rfl));intro gb362 hg w7 hbox hb;have n0_:=am (blk_below (g:=gb361) (o:=.cells #[.int .i64 a0_0,.int .i64 a0_1,.int .i64 a0_2,.int .i64 a0_3,.int .i64 a0_4] 38 (0,0)) Q53 hb);have n1_:=am (below_step Q95 hb);have n2_:=am (hbox);have n3_:=am ((by rw [hg];exact (below_size Q95) : w.heap.size ≤ gb362));have n4_:=n3_;have n5_:=am ((Q199 : gb361 ≠ gb362));have n6_:=am ((Q200 : gb362 ≠ gb361));clear BK361 HB;have BK361:=n0_;have HB:=n1_;have BK362:=n2_;have GW362:=n3_;have GE362:=n4_;have NB361_362:=n5_;have NB362_361:=n6_;clear n0_ n1_ n2_ n3_ n4_ n5_ n6_;clear hb hbox hg;have hnb8:=NB361_362.out;have hnc8:=NB362_361.out;obtain ⟨hcz9_0,hcz9_1,hcz9_2,hcz9_3,hcz9_4,hfz9_0,hfz9_1,hfz9_2,hfz9_3,hfz9_4⟩:=bx5_ BK361;obtain ⟨hcz10_0,hcz10_1,hcz10_2,hcz10_3,hcz10_4,hfz10_0,hfz10_1,hfz10_2,hfz10_3,hfz10_4⟩:=bx5_ BK362)|((with_reducible refine gate_callee (f:=91) rfl ?_);refine goesL_ (some 31) rfl rfl Try.func91 Q1 rfl #[.agg #[.int .i64 a0_2,.int .i64 a0_3],.agg #[.int .i64 a1_2,.int .i64 a1_3]] rfl Q79 ?_;(with_reducible refine (impl_ahead.calls a0_2 a0_3 a1_2 a1_3 t363 _ A5.out).mono ?_);rintro e w11 ⟨rfl,hb⟩;refine ⟨_,rfl,?_⟩;have n0_:=am (blk_below (g:=gb361) (o:=.cells #[.int .i64 a0_0,.int .i64 a0_1,.int .i64 a0_2,.int .i64 a0_3,.int .i64 a0_4] 38 (0,0)) Q53 hb);have n1_:=am (blk_below (g:=gb362) (o:=.cells #[.int .i64 a1_0,.int .i64 a1_1,.int .i64 a1_2,.int .i64 a1_3,.int .i64 a1_4] 38 (0,0)) (by (with_reducible repeat (first|refine blk_drewN ?_ _|refine blk_drew ?_|refine blk_alloc ?_ _));exact BK362.out) hb);have n2_:=am (below_step Q130 hb);clear BK361 BK362 HB;have BK361:=n0_;have BK362:=n1_;have HB:=n2_;clear n0_ n1_ n2_;(try clear hb);(try clear hb2);(try clear hk);(try clear hi)))
   go_ret
   exact ⟨Q17,Q130⟩
  ·rw [if_neg c4] at H
   have c4b0 : (a0_1 == a1_1) = false:=beq_eq_false_iff_ne.mpr c4
   have c4b1 : (a0_1 != a1_1) = true:=bne_iff_ne.mpr c4
   obtain rfl:=Option.some.inj H
   go_enter Try.func64,Try.ntmps64
   go_wp2_with (first|((with_reducible refine gate_dst (N:=2) rfl ?_);refine box_event ?hg (N:=2) ?hd (cs:=#[.int .i64 a0_0,.int .i64 a0_1,.int .i64 a0_2,.int .i64 a0_3,.int .i64 a0_4]) (t:=38) ?hr ?_;(case hd=>rfl);(case hg=>rfl);(case hr=>first|(go_simp;done)|(go_simp;rfl));intro gb361 hg w12 hbox hb;have n0_:=am (below_step Q77 hb);have n1_:=am (hbox);have n2_:=am ((Q167 : w.heap.size ≤ gb361));have n3_:=n2_;clear HB;have HB:=n0_;have BK361:=n1_;have GW361:=n2_;have GE361:=n3_;clear n0_ n1_ n2_ n3_;clear hb hbox hg)|((with_reducible refine gate_dst (N:=3) rfl ?_);refine box_event ?hg (N:=3) ?hd (cs:=#[.int .i64 a1_0,.int .i64 a1_1,.int .i64 a1_2,.int .i64 a1_3,.int .i64 a1_4]) (t:=38) ?hr ?_;(case hd=>rfl);(case hg=>rfl);(case hr=>first|(go_simp;done)|(go_simp;rfl));intro gb362 hg w13 hbox hb;have n0_:=am (blk_below (g:=gb361) (o:=.cells #[.int .i64 a0_0,.int .i64 a0_1,.int .i64 a0_2,.int .i64 a0_3,.int .i64 a0_4] 38 (0,0)) Q53 hb);have n1_:=am (below_step Q95 hb);have n2_:=am (hbox);have n3_:=am ((by rw [hg];exact (below_size Q95) : w.heap.size ≤ gb362));have n4_:=n3_;have n5_:=am ((Q199 : gb361 ≠ gb362));have n6_:=am ((Q200 : gb362 ≠ gb361));clear BK361 HB;have BK361:=n0_;have HB:=n1_;have BK362:=n2_;have GW362:=n3_;have GE362:=n4_;have NB361_362:=n5_;have NB362_361:=n6_;clear n0_ n1_ n2_ n3_ n4_ n5_ n6_;clear hb hbox hg;have hnb14:=NB361_362.out;have hnc14:=NB362_361.out;obtain ⟨hcz15_0,hcz15_1,hcz15_2,hcz15_3,hcz15_4,hfz15_0,hfz15_1,hfz15_2,hfz15_3,hfz15_4⟩:=bx5_ BK361;obtain ⟨hcz16_0,hcz16_1,hcz16_2,hcz16_3,hcz16_4,hfz16_0,hfz16_1,hfz16_2,hfz16_3,hfz16_4⟩:=bx5_ BK362))
   go_ret
   exact ⟨Q17,Q130⟩
 ·rw [if_neg c3] at H
  have c3b0 : (a0_0 == a1_0) = false:=beq_eq_false_iff_ne.mpr c3
  have c3b1 : (a0_0 != a1_0) = true:=bne_iff_ne.mpr c3
  obtain rfl:=Option.some.inj H
  go_enter Try.func64,Try.ntmps64
  go_wp2_with (first|((with_reducible refine gate_dst (N:=2) rfl ?_);refine box_event ?hg (N:=2) ?hd (cs:=#[.int .i64 a0_0,.int .i64 a0_1,.int .i64 a0_2,.int .i64 a0_3,.int .i64 a0_4]) (t:=38) ?hr ?_;(case hd=>rfl);(case hg=>rfl);(case hr=>first|(go_simp;done)|(go_simp;rfl));intro gb361 hg w17 hbox hb;have n0_:=am (below_step Q77 hb);have n1_:=am (hbox);have n2_:=am ((Q167 : w.heap.size ≤ gb361));have n3_:=n2_;clear HB;have HB:=n0_;have BK361:=n1_;have GW361:=n2_;have GE361:=n3_;clear n0_ n1_ n2_ n3_;clear hb hbox hg)|((with_reducible refine gate_dst (N:=3) rfl ?_);refine box_event ?hg (N:=3) ?hd (cs:=#[.int .i64 a1_0,.int .i64 a1_1,.int .i64 a1_2,.int .i64 a1_3,.int .i64 a1_4]) (t:=38) ?hr ?_;(case hd=>rfl);(case hg=>rfl);(case hr=>first|(go_simp;done)|(go_simp;rfl));intro gb362 hg w18 hbox hb;have n0_:=am (blk_below (g:=gb361) (o:=.cells #[.int .i64 a0_0,.int .i64 a0_1,.int .i64 a0_2,.int .i64 a0_3,.int .i64 a0_4] 38 (0,0)) Q53 hb);have n1_:=am (below_step Q95 hb);have n2_:=am (hbox);have n3_:=am ((by rw [hg];exact (below_size Q95) : w.heap.size ≤ gb362));have n4_:=n3_;have n5_:=am ((Q199 : gb361 ≠ gb362));have n6_:=am ((Q200 : gb362 ≠ gb361));clear BK361 HB;have BK361:=n0_;have HB:=n1_;have BK362:=n2_;have GW362:=n3_;have GE362:=n4_;have NB361_362:=n5_;have NB362_361:=n6_;clear n0_ n1_ n2_ n3_ n4_ n5_ n6_;clear hb hbox hg;have hnb19:=NB361_362.out;have hnc19:=NB362_361.out;obtain ⟨hcz20_0,hcz20_1,hcz20_2,hcz20_3,hcz20_4,hfz20_0,hfz20_1,hfz20_2,hfz20_3,hfz20_4⟩:=bx5_ BK361;obtain ⟨hcz21_0,hcz21_1,hcz21_2,hcz21_3,hcz21_4,hfz21_0,hfz21_1,hfz21_2,hfz21_3,hfz21_4⟩:=bx5_ BK362))
  go_ret
  exact ⟨Q17,Q130⟩
def impl_BatchOk.l0 : Nat → List (S38) → List (S38) → Int → Int → Option (Bool)
 | 0, _, _, _, _ => none
 | k + 1, x0, x5, x6, x7 => if x7 < x6 then (if 0 ≤ x7 then (if x7 < (x5.length : Int) then (if ((rd_T38 x5 x7).f3) = 0 then (some false) else (if x7 > 0 then (if 0 ≤ (wrap64 (x7 - 1)) then (if (wrap64 (x7 - 1)) < (x0.length : Int) then ((impl_rowAhead.f ((rd_T38 x0 (wrap64 (x7 - 1))).f0) ((rd_T38 x0 (wrap64 (x7 - 1))).f1) ((rd_T38 x0 (wrap64 (x7 - 1))).f2.f0) ((rd_T38 x0 (wrap64 (x7 - 1))).f2.f1) ((rd_T38 x0 (wrap64 (x7 - 1))).f3) ((rd_T38 x5 x7).f0) ((rd_T38 x5 x7).f1) ((rd_T38 x5 x7).f2.f0) ((rd_T38 x5 x7).f2.f1) ((rd_T38 x5 x7).f3)).bind fun t367 => (if t367 = true then (impl_BatchOk.l0 k x0 x5 x6 (wrap64 (x7 + 1))) else (some false))) else (none)) else (none)) else (impl_BatchOk.l0 k x0 x5 x6 (wrap64 (x7 + 1))))) else (none)) else (none)) else ((impl_RowsOk.f k x0).bind fun t368 => (some t368))
def impl_BatchOk.f (k : Nat) (l0 : List (S38)) : Option (Bool) := impl_BatchOk.l0 k l0 l0 (l0.length : Int) 0
def impl_BatchOk.T4 : Bool × List (List Nat × List Nat) := (true, [([], []), ([0], [0]), ([1], [1]), ([2], [2]), ([3], [3]), ([4, 3], [3, 4]), ([5, 3, 3], [3, 5]), ([6], [6]), ([6], [6]), ([8, 6], [6, 8]), ([7, 9, 6], [6, 7, 9]), ([10, 6], [6, 10]), ([6], [6]), ([11, 12, 6, 6], [6, 11, 12]), ([13, 6], [6, 13]), ([6, 14, 3], [3, 6, 14]), ([3, 15], [3, 15])])
def impl_BatchOk.B4 : List Nat := [0, 1, 3, 7, 15, 31, 63, 127, 127, 383, 1023, 2047, 127, 8191, 16383, 32767, 65535]
theorem impl_BatchOk.tab4 : rtab .any (opsOf Try.f24 4) = impl_BatchOk.T4:=by kernel_rfl
theorem impl_BatchOk.bits4 : waitsOk impl_BatchOk.T4.2 impl_BatchOk.B4 = true:=by kernel_rfl
set_option maxHeartbeats 8000000 in
set_option maxRecDepth 100000 in
theorem impl_BatchOk.calls (k : Nat) (A0 : Option Addr) (c0 : Nat) (l0 : List (S38)) (r : Bool) (w : World) (hr0 : Kd.C k38 w A0 l0.length l0) (hc0 : l0.length ≤ c0) (h : impl_BatchOk.f k l0 = some r) :
  Calls Try.prog 24 #[.slice A0 l0.length c0] w fun e w'=>e = .returned (.bool r) ∧ Below w.heap.size w w':=by
 have hu38:=Try.underlying38
 have HR0:=Aside0.mk hr0
 have HC0:=Aside0.mk hc0
 clear hr0 hc0
 have HB:=am (Below.refl w.heap.size w)
 have H : (impl_BatchOk.l0 k l0 l0 (l0.length : Int) 0) = some r:=h
 clear h
 have H':=Aside0.mk H
 clear H
 go_enter Try.func24,Try.ntmps24
 go_wp2
 go_loopg [7] k (fun kq v7 w'=>∃ (x7_1 : Int),v7 = .int .i64 x7_1 ∧ Aside0 (impl_BatchOk.l0 kq l0 l0 (l0.length : Int) x7_1 = some r) ∧ Aside0 (kq ≤ k) ∧ Aside0 (Below w.heap.size w w'))
 case atStart=>exact ⟨(0),Q5,H',⟨Nat.le_refl _⟩,⟨Q77⟩⟩
 case round =>
  clear H'
  obtain ⟨x7_1,rfl,HA,HK1,HB⟩:=hrel
  cases gk with
  | zero=>exact absurd HA.out (by simp [impl_BatchOk.l0])
  | succ k1 =>
   have H:=HA.out
   clear HA
   simp only [impl_BatchOk.l0] at H
   by_cases c2 : x7_1 < (l0.length : Int)
   ·rw [if_pos c2] at H
    have c2b0 : decide (x7_1 < (l0.length : Int)) = true:=decide_eq_true c2
    clear c2
    have c3 : 0 ≤ x7_1:=nn_ H
    rw [if_pos c3] at H
    have c3b0 : decide (0 ≤ x7_1) = true:=decide_eq_true c3
    clear c3
    have c4 : x7_1 < (l0.length : Int):=nn_ H
    rw [if_pos c4] at H
    have c4b0 : decide (x7_1 < (l0.length : Int)) = true:=decide_eq_true c4
    clear c4
    by_cases c5 : ((rd_T38 l0 x7_1).f3) = 0
    ·rw [if_pos c5] at H
     have c5b0 : (((rd_T38 l0 x7_1).f3) == 0) = true:=beq_iff_eq.mpr c5
     have c5b1 : (((rd_T38 l0 x7_1).f3) != 0) = false:=bne_eq_false_iff_eq.mpr c5
     clear c5
     obtain rfl:=Option.some.inj H
     have p364 : 0 ≤ (x7_1 : Int):=of_decide_eq_true Q6
     have q364 : x7_1 < (l0.length : Int):=of_decide_eq_true Q6
     obtain ⟨ad364,e364,hx364_0,hx364_1,hx364_2,hx364_3,hx364_4⟩:=at_T38 HR0.out x7_1 p364 q364
     cases e364
     replace hx364_0:=cb_ HB hx364_0
     replace hx364_1:=cb_ HB hx364_1
     replace hx364_2:=cb_ HB hx364_2
     replace hx364_3:=cb_ HB hx364_3
     replace hx364_4:=cb_ HB hx364_4
     replace p364:=eq_true p364
     replace q364:=eq_true q364
     try go_wp2_with (first|((with_reducible refine gate_dst (N:=4) rfl ?_);refine box_event ?hg (N:=4) ?hd (cs:=#[.int .i64 0,.int .i64 0,.int .i64 0,.int .i64 0,.int .i64 0]) (t:=38) ?hr ?_;(case hd=>rfl);(case hg=>rfl);(case hr=>first|(go_simp;done)|(go_simp;rfl));intro gb365 hg w6 hbox hb;have n0_:=am (below_step Q77 hb);have n1_:=am (hbox);have n2_:=am ((Q167 : w.heap.size ≤ gb365));have n3_:=n2_;clear HB;have HB:=n0_;have BK365:=n1_;have GW365:=n2_;have GE365:=n3_;clear n0_ n1_ n2_ n3_;clear hb hbox hg;obtain ⟨hcz7_0,hcz7_1,hcz7_2,hcz7_3,hcz7_4,hfz7_0,hfz7_1,hfz7_2,hfz7_3,hfz7_4⟩:=bx5_ BK365))
     have n0_ : Aside0 ((((((w6.setCell ⟨gb365,0,none⟩ (.int .i64 ((rd_T38 l0 x7_1).f0))).setCell ⟨gb365,1,none⟩ (.int .i64 ((rd_T38 l0 x7_1).f1))).setCell ⟨gb365,2,none⟩ (.int .i64 ((rd_T38 l0 x7_1).f2.f0))).setCell ⟨gb365,3,none⟩ (.int .i64 ((rd_T38 l0 x7_1).f2.f1))).setCell ⟨gb365,4,none⟩ (.int .i64 ((rd_T38 l0 x7_1).f3))).heap[gb365]? = some (.cells #[.int .i64 ((rd_T38 l0 x7_1).f0),.int .i64 ((rd_T38 l0 x7_1).f1),.int .i64 ((rd_T38 l0 x7_1).f2.f0),.int .i64 ((rd_T38 l0 x7_1).f2.f1),.int .i64 ((rd_T38 l0 x7_1).f3)] 38 (0,0))):=⟨Q166⟩
     have n1_ : Aside0 (Below w.heap.size w (((((w6.setCell ⟨gb365,0,none⟩ (.int .i64 ((rd_T38 l0 x7_1).f0))).setCell ⟨gb365,1,none⟩ (.int .i64 ((rd_T38 l0 x7_1).f1))).setCell ⟨gb365,2,none⟩ (.int .i64 ((rd_T38 l0 x7_1).f2.f0))).setCell ⟨gb365,3,none⟩ (.int .i64 ((rd_T38 l0 x7_1).f2.f1))).setCell ⟨gb365,4,none⟩ (.int .i64 ((rd_T38 l0 x7_1).f3)))):=⟨Q96⟩
     (try clear BK365)
     (try clear HB)
     generalize (((((w6.setCell ⟨gb365,0,none⟩ (.int .i64 ((rd_T38 l0 x7_1).f0))).setCell ⟨gb365,1,none⟩ (.int .i64 ((rd_T38 l0 x7_1).f1))).setCell ⟨gb365,2,none⟩ (.int .i64 ((rd_T38 l0 x7_1).f2.f0))).setCell ⟨gb365,3,none⟩ (.int .i64 ((rd_T38 l0 x7_1).f2.f1))).setCell ⟨gb365,4,none⟩ (.int .i64 ((rd_T38 l0 x7_1).f3))) = w8 at n0_ n1_ ⊢
     have BK365:=n0_
     have HB:=n1_
     clear n0_ n1_
     have n0_:=am (blk_drew BK365.out)
     have n1_:=am (below_drew1 HB.out)
     clear BK365
     clear HB
     have BK365:=n0_
     have HB:=n1_
     clear n0_ n1_
     refine start_ (n:=17) (S:=fun w'=>w'.cell? ⟨gb365,0,none⟩ = some (.int .i64 ((rd_T38 l0 x7_1).f0)) ∧ w'.cell? ⟨gb365,1,none⟩ = some (.int .i64 ((rd_T38 l0 x7_1).f1)) ∧ w'.cell? ⟨gb365,2,none⟩ = some (.int .i64 ((rd_T38 l0 x7_1).f2.f0)) ∧ w'.cell? ⟨gb365,3,none⟩ = some (.int .i64 ((rd_T38 l0 x7_1).f2.f1)) ∧ w'.cell? ⟨gb365,4,none⟩ = some (.int .i64 ((rd_T38 l0 x7_1).f3))) (ds:=[]) b17_0 Q1 rfl rfl ⟨(blk_cell BK365.out 0).trans rfl,(blk_cell BK365.out 1).trans rfl,(blk_cell BK365.out 2).trans rfl,(blk_cell BK365.out 3).trans rfl,(blk_cell BK365.out 4).trans rfl⟩ (fun hHeld=>?_);refine with_tabW impl_BatchOk.tab4 impl_BatchOk.bits4 (fun HT_ HW_=>?_)
     generalize w8.drew = w9 at BK365 HB hHeld ⊢
     refine pU_ 0 12 b17_1 ?_
     refine tU_ 1 13 b17_2 hHeld ?_
     refine pU_ 2 14 b17_3 ?_
     refine pU_ 3 15 b17_4 ?_
     refine pV_ 4 16 b17_5 ?_
     refine pV_ 5 17 b17_6 ?_
     refine pV_ 6 18 b17_7 ?_
     refine pV_ 7 19 b17_8 ?_
     refine pV_ 8 20 b17_9 ?_
     refine pV_ 9 21 b17_10 ?_
     refine pV_ 10 22 b17_11 ?_
     refine pV_ 11 23 b17_12 ?_
     refine pV_ 12 24 b17_13 ?_
     refine pV_ 13 25 b17_14 ?_
     refine pV_ 14 26 b17_15 ?_
     refine pV_ 15 27 b17_16 ?_
     refine pU_ 16 28 b17_17 ?_
     refine done_ (done_of HT_.out Q1) ?_
     try go_wp2
     go_ret
     exact ⟨Q17,Q96⟩
    ·rw [if_neg c5] at H
     have c5b0 : (((rd_T38 l0 x7_1).f3) == 0) = false:=beq_eq_false_iff_ne.mpr c5
     have c5b1 : (((rd_T38 l0 x7_1).f3) != 0) = true:=bne_iff_ne.mpr c5
     by_cases c10 : x7_1 > 0
     ·rw [if_pos c10] at H
      have c10b0 : decide (0 < x7_1) = true:=decide_eq_true c10
      clear c10
      obtain ⟨ji11,hji11⟩ : ∃ j_ : Int,(wrap64 (x7_1 - 1)) = j_:=⟨_,rfl⟩
      replace H : (if 0 ≤ (ji11) then (if (ji11) < (l0.length : Int) then ((impl_rowAhead.f ((rd_T38 l0 (ji11)).f0) ((rd_T38 l0 (ji11)).f1) ((rd_T38 l0 (ji11)).f2.f0) ((rd_T38 l0 (ji11)).f2.f1) ((rd_T38 l0 (ji11)).f3) ((rd_T38 l0 x7_1).f0) ((rd_T38 l0 x7_1).f1) ((rd_T38 l0 x7_1).f2.f0) ((rd_T38 l0 x7_1).f2.f1) ((rd_T38 l0 x7_1).f3)).bind fun t367=>(if t367 = true then (impl_BatchOk.l0 k1 l0 l0 (l0.length : Int) (wrap64 (x7_1 + 1))) else (some false))) else (none)) else (none)) = some r:=by first|(rw [hji11] at H;exact H)|(simp only [hji11] at H ⊢;exact H)
      have hji11w : (IntKind.i64.wrap (x7_1 - 1)) = ji11:=(i64_w _).trans hji11
      have c12 : 0 ≤ (ji11):=nn_ H
      rw [if_pos c12] at H
      have c12b0 : decide (0 ≤ (ji11)) = true:=decide_eq_true c12
      clear c12
      have c13 : (ji11) < (l0.length : Int):=nn_ H
      rw [if_pos c13] at H
      have c13b0 : decide ((ji11) < (l0.length : Int)) = true:=decide_eq_true c13
      clear c13
      replace H:=Option.bind_eq_some_iff.mp H
      obtain ⟨t367,A140,H⟩:=H
      replace H : (if t367 = true then (impl_BatchOk.l0 k1 l0 l0 (l0.length : Int) (wrap64 (x7_1 + 1))) else (some false)) = some r:=H
      have A14:=Aside0.mk A140
      clear A140
      by_cases c15 : t367 = true
      ·subst c15
       have H1 : (impl_BatchOk.l0 k1 l0 l0 (l0.length : Int) (wrap64 (x7_1 + 1))) = some r:=by rw [if_pos rfl] at H;exact H
       clear H
       have H:=H1
       clear H1
       have H':=Aside0.mk H
       clear H
       have p364 : 0 ≤ (x7_1 : Int):=of_decide_eq_true Q6
       have q364 : x7_1 < (l0.length : Int):=of_decide_eq_true Q6
       obtain ⟨ad364,e364,hx364_0,hx364_1,hx364_2,hx364_3,hx364_4⟩:=at_T38 HR0.out x7_1 p364 q364
       cases e364
       replace hx364_0:=cb_ HB hx364_0
       replace hx364_1:=cb_ HB hx364_1
       replace hx364_2:=cb_ HB hx364_2
       replace hx364_3:=cb_ HB hx364_3
       replace hx364_4:=cb_ HB hx364_4
       replace p364:=eq_true p364
       replace q364:=eq_true q364
       try go_wp2_with (first|((with_reducible refine gate_dst (N:=4) rfl ?_);refine box_event ?hg (N:=4) ?hd (cs:=#[.int .i64 0,.int .i64 0,.int .i64 0,.int .i64 0,.int .i64 0]) (t:=38) ?hr ?_;(case hd=>rfl);(case hg=>rfl);(case hr=>first|(go_simp;done)|(go_simp;rfl));intro gb365 hg w16 hbox hb;have n0_:=am (below_step Q77 hb);have n1_:=am (hbox);have n2_:=am ((Q167 : w.heap.size ≤ gb365));have n3_:=n2_;clear HB;have HB:=n0_;have BK365:=n1_;have GW365:=n2_;have GE365:=n3_;clear n0_ n1_ n2_ n3_;clear hb hbox hg;obtain ⟨hcz17_0,hcz17_1,hcz17_2,hcz17_3,hcz17_4,hfz17_0,hfz17_1,hfz17_2,hfz17_3,hfz17_4⟩:=bx5_ BK365))
       have n0_ : Aside0 ((((((w16.setCell ⟨gb365,0,none⟩ (.int .i64 ((rd_T38 l0 x7_1).f0))).setCell ⟨gb365,1,none⟩ (.int .i64 ((rd_T38 l0 x7_1).f1))).setCell ⟨gb365,2,none⟩ (.int .i64 ((rd_T38 l0 x7_1).f2.f0))).setCell ⟨gb365,3,none⟩ (.int .i64 ((rd_T38 l0 x7_1).f2.f1))).setCell ⟨gb365,4,none⟩ (.int .i64 ((rd_T38 l0 x7_1).f3))).heap[gb365]? = some (.cells #[.int .i64 ((rd_T38 l0 x7_1).f0),.int .i64 ((rd_T38 l0 x7_1).f1),.int .i64 ((rd_T38 l0 x7_1).f2.f0),.int .i64 ((rd_T38 l0 x7_1).f2.f1),.int .i64 ((rd_T38 l0 x7_1).f3)] 38 (0,0))):=⟨Q166⟩
       have n1_ : Aside0 (Below w.heap.size w (((((w16.setCell ⟨gb365,0,none⟩ (.int .i64 ((rd_T38 l0 x7_1).f0))).setCell ⟨gb365,1,none⟩ (.int .i64 ((rd_T38 l0 x7_1).f1))).setCell ⟨gb365,2,none⟩ (.int .i64 ((rd_T38 l0 x7_1).f2.f0))).setCell ⟨gb365,3,none⟩ (.int .i64 ((rd_T38 l0 x7_1).f2.f1))).setCell ⟨gb365,4,none⟩ (.int .i64 ((rd_T38 l0 x7_1).f3)))):=⟨Q96⟩
       (try clear BK365)
       (try clear HB)
       generalize (((((w16.setCell ⟨gb365,0,none⟩ (.int .i64 ((rd_T38 l0 x7_1).f0))).setCell ⟨gb365,1,none⟩ (.int .i64 ((rd_T38 l0 x7_1).f1))).setCell ⟨gb365,2,none⟩ (.int .i64 ((rd_T38 l0 x7_1).f2.f0))).setCell ⟨gb365,3,none⟩ (.int .i64 ((rd_T38 l0 x7_1).f2.f1))).setCell ⟨gb365,4,none⟩ (.int .i64 ((rd_T38 l0 x7_1).f3))) = w18 at n0_ n1_ ⊢
       have BK365:=n0_
       have HB:=n1_
       clear n0_ n1_
       have n0_:=am (blk_drew BK365.out)
       have n1_:=am (below_drew1 HB.out)
       clear BK365
       clear HB
       have BK365:=n0_
       have HB:=n1_
       clear n0_ n1_
       have p366 : 0 ≤ ((ji11) : Int):=of_decide_eq_true Q6
       have q366 : (ji11) < (l0.length : Int):=of_decide_eq_true Q6
       obtain ⟨ad366,e366,hx366_0,hx366_1,hx366_2,hx366_3,hx366_4⟩:=at_T38 HR0.out (ji11) p366 q366
       have hw366_4:=hx366_4
       have hw366_3:=hx366_3
       have hw366_2:=hx366_2
       have hw366_1:=hx366_1
       have hw366_0:=hx366_0
       obtain rfl : ad364 = ad366:=(by injection e366)
       replace hx366_0:=cb_ HB hx366_0
       replace hx366_1:=cb_ HB hx366_1
       replace hx366_2:=cb_ HB hx366_2
       replace hx366_3:=cb_ HB hx366_3
       replace hx366_4:=cb_ HB hx366_4
       replace p366:=eq_true p366
       replace q366:=eq_true q366
       refine start_ (n:=17) (S:=fun w'=>w'.cell? ⟨gb365,0,none⟩ = some (.int .i64 ((rd_T38 l0 x7_1).f0)) ∧ w'.cell? ⟨gb365,1,none⟩ = some (.int .i64 ((rd_T38 l0 x7_1).f1)) ∧ w'.cell? ⟨gb365,2,none⟩ = some (.int .i64 ((rd_T38 l0 x7_1).f2.f0)) ∧ w'.cell? ⟨gb365,3,none⟩ = some (.int .i64 ((rd_T38 l0 x7_1).f2.f1)) ∧ w'.cell? ⟨gb365,4,none⟩ = some (.int .i64 ((rd_T38 l0 x7_1).f3)) ∧ w'.cell? (ad364.add (((ji11)).toNat * 5)) = some (.int .i64 ((rd_T38 l0 (ji11)).f0)) ∧ w'.cell? ⟨(ad364.add (((ji11)).toNat * 5)).block,(ad364.add (((ji11)).toNat * 5)).off + 1,none⟩ = some (.int .i64 ((rd_T38 l0 (ji11)).f1)) ∧ w'.cell? ⟨(ad364.add (((ji11)).toNat * 5)).block,(ad364.add (((ji11)).toNat * 5)).off + 2,none⟩ = some (.int .i64 ((rd_T38 l0 (ji11)).f2.f0)) ∧ w'.cell? ⟨(ad364.add (((ji11)).toNat * 5)).block,(ad364.add (((ji11)).toNat * 5)).off + 3,none⟩ = some (.int .i64 ((rd_T38 l0 (ji11)).f2.f1)) ∧ w'.cell? ⟨(ad364.add (((ji11)).toNat * 5)).block,(ad364.add (((ji11)).toNat * 5)).off + 4,none⟩ = some (.int .i64 ((rd_T38 l0 (ji11)).f3))) (ds:=[]) b17_0 Q1 rfl rfl ⟨(blk_cell BK365.out 0).trans rfl,(blk_cell BK365.out 1).trans rfl,(blk_cell BK365.out 2).trans rfl,(blk_cell BK365.out 3).trans rfl,(blk_cell BK365.out 4).trans rfl,(cb_ HB hw366_0:),(cb_ HB hw366_1:),(cb_ HB hw366_2:),(cb_ HB hw366_3:),(cb_ HB hw366_4:)⟩ (fun hHeld=>?_);refine with_tabW impl_BatchOk.tab4 impl_BatchOk.bits4 (fun HT_ HW_=>?_)
       generalize w18.drew = w19 at BK365 HB hx366_0 hx366_1 hx366_2 hx366_3 hx366_4 hHeld ⊢
       refine pU_ 0 12 b17_1 ?_
       refine tU_ 1 13 b17_2 hHeld ?_
       refine pU_ 2 14 b17_3 ?_
       refine pU_ 3 15 b17_4 ?_
       refine pU_ 4 16 b17_5 ?_
       refine pU_ 5 17 b17_6 ?_
       refine pU_ 6 18 b17_7 ?_
       refine pU_ 7 19 b17_8 ?_
       refine pU_ 8 20 b17_9 ?_
       refine pU_ 9 21 b17_10 ?_
       refine pU_ 10 22 b17_11 ?_
       refine tU_ 11 23 b17_12 hHeld ?_
       refine tU_ 12 24 b17_13 hHeld ?_
       refine one_ (i:=13) (N:=some 25) b17_14 rfl rfl (one_of HT_.out Q1) Q0 (fun K hK=>?_)
       refine goes_ Try.func64 Q1 rfl #[.agg #[.int .i64 ((rd_T38 l0 (ji11)).f0),.int .i64 ((rd_T38 l0 (ji11)).f1),.int .i64 ((rd_T38 l0 (ji11)).f2.f0),.int .i64 ((rd_T38 l0 (ji11)).f2.f1),.int .i64 ((rd_T38 l0 (ji11)).f3)],.agg #[.int .i64 ((rd_T38 l0 x7_1).f0),.int .i64 ((rd_T38 l0 x7_1).f1),.int .i64 ((rd_T38 l0 x7_1).f2.f0),.int .i64 ((rd_T38 l0 x7_1).f2.f1),.int .i64 ((rd_T38 l0 x7_1).f3)]] (by rfl) rfl rfl (by (try simp only [List.map_toArray,List.map_cons,List.map_nil]);first|done|(simp only [hji11];rfl)|rfl|(simp only [List.length_drop,List.length_take];rfl)) ?_
       with_reducible refine (impl_rowAhead.calls ((rd_T38 l0 (ji11)).f0) ((rd_T38 l0 (ji11)).f1) ((rd_T38 l0 (ji11)).f2.f0) ((rd_T38 l0 (ji11)).f2.f1) ((rd_T38 l0 (ji11)).f3) ((rd_T38 l0 x7_1).f0) ((rd_T38 l0 x7_1).f1) ((rd_T38 l0 x7_1).f2.f0) ((rd_T38 l0 x7_1).f2.f1) ((rd_T38 l0 x7_1).f3) true _ A14.out).mono ?_
       rintro e w20 ⟨rfl,hb⟩
       refine ⟨_,rfl,?_⟩
       have n0_:=am (blk_below (g:=gb365) (o:=.cells #[.int .i64 ((rd_T38 l0 x7_1).f0),.int .i64 ((rd_T38 l0 x7_1).f1),.int .i64 ((rd_T38 l0 x7_1).f2.f0),.int .i64 ((rd_T38 l0 x7_1).f2.f1),.int .i64 ((rd_T38 l0 x7_1).f3)] 38 (0,0)) (by (with_reducible repeat (first|refine blk_drewN ?_ _|refine blk_drew ?_|refine blk_alloc ?_ _));exact BK365.out) hb)
       have n1_:=am (below_step Q96 hb)
       clear BK365
       clear HB
       have BK365:=n0_
       have HB:=n1_
       clear n0_ n1_
       (try clear hb)
       (try clear hb2)
       (try clear hk)
       (try clear hi)
       refine hK.out _ _ ⟨(blk_cell BK365.out 0).trans rfl,(blk_cell BK365.out 1).trans rfl,(blk_cell BK365.out 2).trans rfl,(blk_cell BK365.out 3).trans rfl,(blk_cell BK365.out 4).trans rfl,(cb_ HB hw366_0:),(cb_ HB hw366_1:),(cb_ HB hw366_2:),(cb_ HB hw366_3:),(cb_ HB hw366_4:)⟩ (fun hHeld=>?_)
       clear hK K
       refine norm_ (a':=?_) ?_ ?_
       rotate_left
       ·show Act.put _ (some 25) _ = _
        simp only [Act.put,sA_,sZ_,sS_,i64_w,i32_w]
        rfl
       refine pU_ 14 26 b17_15 ?_
       refine pU_ 15 27 b17_16 ?_
       refine pU_ 16 28 b17_17 ?_
       refine done_ (done_of HT_.out Q1) ?_
       try go_wp2
       go_roundg k1
       case measure=>have:=HK1.out;omega
       case rel=>exact ⟨(wrap64 (x7_1 + 1)),Q5,H',⟨Q2⟩,⟨Q96⟩⟩
      ·replace c15:=Bool.eq_false_iff.mpr c15
       subst c15
       have H1 : (some false) = some r:=by rw [if_neg (show ¬ (false = true) by decide)] at H;exact H
       clear H
       have H:=H1
       clear H1
       obtain rfl:=Option.some.inj H
       have p364 : 0 ≤ (x7_1 : Int):=of_decide_eq_true Q6
       have q364 : x7_1 < (l0.length : Int):=of_decide_eq_true Q6
       obtain ⟨ad364,e364,hx364_0,hx364_1,hx364_2,hx364_3,hx364_4⟩:=at_T38 HR0.out x7_1 p364 q364
       cases e364
       replace hx364_0:=cb_ HB hx364_0
       replace hx364_1:=cb_ HB hx364_1
       replace hx364_2:=cb_ HB hx364_2
       replace hx364_3:=cb_ HB hx364_3
       replace hx364_4:=cb_ HB hx364_4
       replace p364:=eq_true p364
       replace q364:=eq_true q364
       try go_wp2_with (first|((with_reducible refine gate_dst (N:=4) rfl ?_);refine box_event ?hg (N:=4) ?hd (cs:=#[.int .i64 0,.int .i64 0,.int .i64 0,.int .i64 0,.int .i64 0]) (t:=38) ?hr ?_;(case hd=>rfl);(case hg=>rfl);(case hr=>first|(go_simp;done)|(go_simp;rfl));intro gb365 hg w21 hbox hb;have n0_:=am (below_step Q77 hb);have n1_:=am (hbox);have n2_:=am ((Q167 : w.heap.size ≤ gb365));have n3_:=n2_;clear HB;have HB:=n0_;have BK365:=n1_;have GW365:=n2_;have GE365:=n3_;clear n0_ n1_ n2_ n3_;clear hb hbox hg;obtain ⟨hcz22_0,hcz22_1,hcz22_2,hcz22_3,hcz22_4,hfz22_0,hfz22_1,hfz22_2,hfz22_3,hfz22_4⟩:=bx5_ BK365))
       have n0_ : Aside0 ((((((w21.setCell ⟨gb365,0,none⟩ (.int .i64 ((rd_T38 l0 x7_1).f0))).setCell ⟨gb365,1,none⟩ (.int .i64 ((rd_T38 l0 x7_1).f1))).setCell ⟨gb365,2,none⟩ (.int .i64 ((rd_T38 l0 x7_1).f2.f0))).setCell ⟨gb365,3,none⟩ (.int .i64 ((rd_T38 l0 x7_1).f2.f1))).setCell ⟨gb365,4,none⟩ (.int .i64 ((rd_T38 l0 x7_1).f3))).heap[gb365]? = some (.cells #[.int .i64 ((rd_T38 l0 x7_1).f0),.int .i64 ((rd_T38 l0 x7_1).f1),.int .i64 ((rd_T38 l0 x7_1).f2.f0),.int .i64 ((rd_T38 l0 x7_1).f2.f1),.int .i64 ((rd_T38 l0 x7_1).f3)] 38 (0,0))):=⟨Q166⟩
       have n1_ : Aside0 (Below w.heap.size w (((((w21.setCell ⟨gb365,0,none⟩ (.int .i64 ((rd_T38 l0 x7_1).f0))).setCell ⟨gb365,1,none⟩ (.int .i64 ((rd_T38 l0 x7_1).f1))).setCell ⟨gb365,2,none⟩ (.int .i64 ((rd_T38 l0 x7_1).f2.f0))).setCell ⟨gb365,3,none⟩ (.int .i64 ((rd_T38 l0 x7_1).f2.f1))).setCell ⟨gb365,4,none⟩ (.int .i64 ((rd_T38 l0 x7_1).f3)))):=⟨Q96⟩
       (try clear BK365)
       (try clear HB)
       generalize (((((w21.setCell ⟨gb365,0,none⟩ (.int .i64 ((rd_T38 l0 x7_1).f0))).setCell ⟨gb365,1,none⟩ (.int .i64 ((rd_T38 l0 x7_1).f1))).setCell ⟨gb365,2,none⟩ (.int .i64 ((rd_T38 l0 x7_1).f2.f0))).setCell ⟨gb365,3,none⟩ (.int .i64 ((rd_T38 l0 x7_1).f2.f1))).setCell ⟨gb365,4,none⟩ (.int .i64 ((rd_T38 l0 x7_1).f3))) = w23 at n0_ n1_ ⊢
       have BK365:=n0_
       have HB:=n1_
       clear n0_ n1_
       have n0_:=am (blk_drew BK365.out)
       have n1_:=am (below_drew1 HB.out)
       clear BK365
       clear HB
       have BK365:=n0_
       have HB:=n1_
       clear n0_ n1_
       have p366 : 0 ≤ ((ji11) : Int):=of_decide_eq_true Q6
       have q366 : (ji11) < (l0.length : Int):=of_decide_eq_true Q6
       obtain ⟨ad366,e366,hx366_0,hx366_1,hx366_2,hx366_3,hx366_4⟩:=at_T38 HR0.out (ji11) p366 q366
       have hw366_4:=hx366_4
       have hw366_3:=hx366_3
       have hw366_2:=hx366_2
       have hw366_1:=hx366_1
       have hw366_0:=hx366_0
       obtain rfl : ad364 = ad366:=(by injection e366)
       replace hx366_0:=cb_ HB hx366_0
       replace hx366_1:=cb_ HB hx366_1
       replace hx366_2:=cb_ HB hx366_2
       replace hx366_3:=cb_ HB hx366_3
       replace hx366_4:=cb_ HB hx366_4
       replace p366:=eq_true p366
       replace q366:=eq_true q366
       refine start_ (n:=17) (S:=fun w'=>w'.cell? ⟨gb365,0,none⟩ = some (.int .i64 ((rd_T38 l0 x7_1).f0)) ∧ w'.cell? ⟨gb365,1,none⟩ = some (.int .i64 ((rd_T38 l0 x7_1).f1)) ∧ w'.cell? ⟨gb365,2,none⟩ = some (.int .i64 ((rd_T38 l0 x7_1).f2.f0)) ∧ w'.cell? ⟨gb365,3,none⟩ = some (.int .i64 ((rd_T38 l0 x7_1).f2.f1)) ∧ w'.cell? ⟨gb365,4,none⟩ = some (.int .i64 ((rd_T38 l0 x7_1).f3)) ∧ w'.cell? (ad364.add (((ji11)).toNat * 5)) = some (.int .i64 ((rd_T38 l0 (ji11)).f0)) ∧ w'.cell? ⟨(ad364.add (((ji11)).toNat * 5)).block,(ad364.add (((ji11)).toNat * 5)).off + 1,none⟩ = some (.int .i64 ((rd_T38 l0 (ji11)).f1)) ∧ w'.cell? ⟨(ad364.add (((ji11)).toNat * 5)).block,(ad364.add (((ji11)).toNat * 5)).off + 2,none⟩ = some (.int .i64 ((rd_T38 l0 (ji11)).f2.f0)) ∧ w'.cell? ⟨(ad364.add (((ji11)).toNat * 5)).block,(ad364.add (((ji11)).toNat * 5)).off + 3,none⟩ = some (.int .i64 ((rd_T38 l0 (ji11)).f2.f1)) ∧ w'.cell? ⟨(ad364.add (((ji11)).toNat * 5)).block,(ad364.add (((ji11)).toNat * 5)).off + 4,none⟩ = some (.int .i64 ((rd_T38 l0 (ji11)).f3))) (ds:=[]) b17_0 Q1 rfl rfl ⟨(blk_cell BK365.out 0).trans rfl,(blk_cell BK365.out 1).trans rfl,(blk_cell BK365.out 2).trans rfl,(blk_cell BK365.out 3).trans rfl,(blk_cell BK365.out 4).trans rfl,(cb_ HB hw366_0:),(cb_ HB hw366_1:),(cb_ HB hw366_2:),(cb_ HB hw366_3:),(cb_ HB hw366_4:)⟩ (fun hHeld=>?_);refine with_tabW impl_BatchOk.tab4 impl_BatchOk.bits4 (fun HT_ HW_=>?_)
       generalize w23.drew = w24 at BK365 HB hx366_0 hx366_1 hx366_2 hx366_3 hx366_4 hHeld ⊢
       refine pU_ 0 12 b17_1 ?_
       refine tU_ 1 13 b17_2 hHeld ?_
       refine pU_ 2 14 b17_3 ?_
       refine pU_ 3 15 b17_4 ?_
       refine pU_ 4 16 b17_5 ?_
       refine pU_ 5 17 b17_6 ?_
       refine pU_ 6 18 b17_7 ?_
       refine pU_ 7 19 b17_8 ?_
       refine pU_ 8 20 b17_9 ?_
       refine pU_ 9 21 b17_10 ?_
       refine pU_ 10 22 b17_11 ?_
       refine tU_ 11 23 b17_12 hHeld ?_
       refine tU_ 12 24 b17_13 hHeld ?_
       refine one_ (i:=13) (N:=some 25) b17_14 rfl rfl (one_of HT_.out Q1) Q0 (fun K hK=>?_)
       refine goes_ Try.func64 Q1 rfl #[.agg #[.int .i64 ((rd_T38 l0 (ji11)).f0),.int .i64 ((rd_T38 l0 (ji11)).f1),.int .i64 ((rd_T38 l0 (ji11)).f2.f0),.int .i64 ((rd_T38 l0 (ji11)).f2.f1),.int .i64 ((rd_T38 l0 (ji11)).f3)],.agg #[.int .i64 ((rd_T38 l0 x7_1).f0),.int .i64 ((rd_T38 l0 x7_1).f1),.int .i64 ((rd_T38 l0 x7_1).f2.f0),.int .i64 ((rd_T38 l0 x7_1).f2.f1),.int .i64 ((rd_T38 l0 x7_1).f3)]] (by rfl) rfl rfl (by (try simp only [List.map_toArray,List.map_cons,List.map_nil]);first|done|(simp only [hji11];rfl)|rfl|(simp only [List.length_drop,List.length_take];rfl)) ?_
       with_reducible refine (impl_rowAhead.calls ((rd_T38 l0 (ji11)).f0) ((rd_T38 l0 (ji11)).f1) ((rd_T38 l0 (ji11)).f2.f0) ((rd_T38 l0 (ji11)).f2.f1) ((rd_T38 l0 (ji11)).f3) ((rd_T38 l0 x7_1).f0) ((rd_T38 l0 x7_1).f1) ((rd_T38 l0 x7_1).f2.f0) ((rd_T38 l0 x7_1).f2.f1) ((rd_T38 l0 x7_1).f3) false _ A14.out).mono ?_
       rintro e w25 ⟨rfl,hb⟩
       refine ⟨_,rfl,?_⟩
       have n0_:=am (blk_below (g:=gb365) (o:=.cells #[.int .i64 ((rd_T38 l0 x7_1).f0),.int .i64 ((rd_T38 l0 x7_1).f1),.int .i64 ((rd_T38 l0 x7_1).f2.f0),.int .i64 ((rd_T38 l0 x7_1).f2.f1),.int .i64 ((rd_T38 l0 x7_1).f3)] 38 (0,0)) (by (with_reducible repeat (first|refine blk_drewN ?_ _|refine blk_drew ?_|refine blk_alloc ?_ _));exact BK365.out) hb)
       have n1_:=am (below_step Q96 hb)
       clear BK365
       clear HB
       have BK365:=n0_
       have HB:=n1_
       clear n0_ n1_
       (try clear hb)
       (try clear hb2)
       (try clear hk)
       (try clear hi)
       refine hK.out _ _ ⟨(blk_cell BK365.out 0).trans rfl,(blk_cell BK365.out 1).trans rfl,(blk_cell BK365.out 2).trans rfl,(blk_cell BK365.out 3).trans rfl,(blk_cell BK365.out 4).trans rfl,(cb_ HB hw366_0:),(cb_ HB hw366_1:),(cb_ HB hw366_2:),(cb_ HB hw366_3:),(cb_ HB hw366_4:)⟩ (fun hHeld=>?_)
       clear hK K
       refine norm_ (a':=?_) ?_ ?_
       rotate_left
       ·show Act.put _ (some 25) _ = _
        simp only [Act.put,sA_,sZ_,sS_,i64_w,i32_w]
        rfl
       refine pU_ 14 26 b17_15 ?_
       refine pU_ 15 27 b17_16 ?_
       refine pU_ 16 28 b17_17 ?_
       refine done_ (done_of HT_.out Q1) ?_
       try go_wp2
       go_ret
       exact ⟨by first|rfl|(simp [errW_none,errW_some] <;> rfl)|(simp only [← hji11];first|rfl|(simp [errW_none,errW_some] <;> rfl))|(simp [*,errW_none,errW_some] <;> rfl),Q96⟩
     ·rw [if_neg c10] at H
      have c10b0 : decide (0 < x7_1) = false:=decide_eq_false c10
      clear c10
      have H':=Aside0.mk H
      clear H
      have p364 : 0 ≤ (x7_1 : Int):=of_decide_eq_true Q6
      have q364 : x7_1 < (l0.length : Int):=of_decide_eq_true Q6
      obtain ⟨ad364,e364,hx364_0,hx364_1,hx364_2,hx364_3,hx364_4⟩:=at_T38 HR0.out x7_1 p364 q364
      cases e364
      replace hx364_0:=cb_ HB hx364_0
      replace hx364_1:=cb_ HB hx364_1
      replace hx364_2:=cb_ HB hx364_2
      replace hx364_3:=cb_ HB hx364_3
      replace hx364_4:=cb_ HB hx364_4
      replace p364:=eq_true p364
      replace q364:=eq_true q364
      try go_wp2_with (first|((with_reducible refine gate_dst (N:=4) rfl ?_);refine box_event ?hg (N:=4) ?hd (cs:=#[.int .i64 0,.int .i64 0,.int .i64 0,.int .i64 0,.int .i64 0]) (t:=38) ?hr ?_;(case hd=>rfl);(case hg=>rfl);(case hr=>first|(go_simp;done)|(go_simp;rfl));intro gb365 hg w26 hbox hb;have n0_:=am (below_step Q77 hb);have n1_:=am (hbox);have n2_:=am ((Q167 : w.heap.size ≤ gb365));have n3_:=n2_;clear HB;have HB:=n0_;have BK365:=n1_;have GW365:=n2_;have GE365:=n3_;clear n0_ n1_ n2_ n3_;clear hb hbox hg;obtain ⟨hcz27_0,hcz27_1,hcz27_2,hcz27_3,hcz27_4,hfz27_0,hfz27_1,hfz27_2,hfz27_3,hfz27_4⟩:=bx5_ BK365))
      have n0_ : Aside0 ((((((w26.setCell ⟨gb365,0,none⟩ (.int .i64 ((rd_T38 l0 x7_1).f0))).setCell ⟨gb365,1,none⟩ (.int .i64 ((rd_T38 l0 x7_1).f1))).setCell ⟨gb365,2,none⟩ (.int .i64 ((rd_T38 l0 x7_1).f2.f0))).setCell ⟨gb365,3,none⟩ (.int .i64 ((rd_T38 l0 x7_1).f2.f1))).setCell ⟨gb365,4,none⟩ (.int .i64 ((rd_T38 l0 x7_1).f3))).heap[gb365]? = some (.cells #[.int .i64 ((rd_T38 l0 x7_1).f0),.int .i64 ((rd_T38 l0 x7_1).f1),.int .i64 ((rd_T38 l0 x7_1).f2.f0),.int .i64 ((rd_T38 l0 x7_1).f2.f1),.int .i64 ((rd_T38 l0 x7_1).f3)] 38 (0,0))):=⟨Q166⟩
      have n1_ : Aside0 (Below w.heap.size w (((((w26.setCell ⟨gb365,0,none⟩ (.int .i64 ((rd_T38 l0 x7_1).f0))).setCell ⟨gb365,1,none⟩ (.int .i64 ((rd_T38 l0 x7_1).f1))).setCell ⟨gb365,2,none⟩ (.int .i64 ((rd_T38 l0 x7_1).f2.f0))).setCell ⟨gb365,3,none⟩ (.int .i64 ((rd_T38 l0 x7_1).f2.f1))).setCell ⟨gb365,4,none⟩ (.int .i64 ((rd_T38 l0 x7_1).f3)))):=⟨Q96⟩
      (try clear BK365)
      (try clear HB)
      generalize (((((w26.setCell ⟨gb365,0,none⟩ (.int .i64 ((rd_T38 l0 x7_1).f0))).setCell ⟨gb365,1,none⟩ (.int .i64 ((rd_T38 l0 x7_1).f1))).setCell ⟨gb365,2,none⟩ (.int .i64 ((rd_T38 l0 x7_1).f2.f0))).setCell ⟨gb365,3,none⟩ (.int .i64 ((rd_T38 l0 x7_1).f2.f1))).setCell ⟨gb365,4,none⟩ (.int .i64 ((rd_T38 l0 x7_1).f3))) = w28 at n0_ n1_ ⊢
      have BK365:=n0_
      have HB:=n1_
      clear n0_ n1_
      have n0_:=am (blk_drew BK365.out)
      have n1_:=am (below_drew1 HB.out)
      clear BK365
      clear HB
      have BK365:=n0_
      have HB:=n1_
      clear n0_ n1_
      refine start_ (n:=17) (S:=fun w'=>w'.cell? ⟨gb365,0,none⟩ = some (.int .i64 ((rd_T38 l0 x7_1).f0)) ∧ w'.cell? ⟨gb365,1,none⟩ = some (.int .i64 ((rd_T38 l0 x7_1).f1)) ∧ w'.cell? ⟨gb365,2,none⟩ = some (.int .i64 ((rd_T38 l0 x7_1).f2.f0)) ∧ w'.cell? ⟨gb365,3,none⟩ = some (.int .i64 ((rd_T38 l0 x7_1).f2.f1)) ∧ w'.cell? ⟨gb365,4,none⟩ = some (.int .i64 ((rd_T38 l0 x7_1).f3))) (ds:=[]) b17_0 Q1 rfl rfl ⟨(blk_cell BK365.out 0).trans rfl,(blk_cell BK365.out 1).trans rfl,(blk_cell BK365.out 2).trans rfl,(blk_cell BK365.out 3).trans rfl,(blk_cell BK365.out 4).trans rfl⟩ (fun hHeld=>?_);refine with_tabW impl_BatchOk.tab4 impl_BatchOk.bits4 (fun HT_ HW_=>?_)
      generalize w28.drew = w29 at BK365 HB hHeld ⊢
      refine pU_ 0 12 b17_1 ?_
      refine tU_ 1 13 b17_2 hHeld ?_
      refine pU_ 2 14 b17_3 ?_
      refine pU_ 3 15 b17_4 ?_
      refine pU_ 4 16 b17_5 ?_
      refine pU_ 5 17 b17_6 ?_
      refine pU_ 6 18 b17_7 ?_
      refine pV_ 7 19 b17_8 ?_
      refine pV_ 8 20 b17_9 ?_
      refine pV_ 9 21 b17_10 ?_
      refine pV_ 10 22 b17_11 ?_
      refine pV_ 11 23 b17_12 ?_
      refine pV_ 12 24 b17_13 ?_
      refine pV_ 13 25 b17_14 ?_
      refine pV_ 14 26 b17_15 ?_
      refine pU_ 15 27 b17_16 ?_
      refine pU_ 16 28 b17_17 ?_
      refine done_ (done_of HT_.out Q1) ?_
      try go_wp2
      go_roundg k1
      case measure=>have:=HK1.out;omega
      case rel=>exact ⟨(wrap64 (x7_1 + 1)),Q5,H',⟨Q2⟩,⟨Q96⟩⟩
   ·rw [if_neg c2] at H
    have c2b0 : decide (x7_1 < (l0.length : Int)) = false:=decide_eq_false c2
    clear c2
    replace H:=Option.bind_eq_some_iff.mp H
    obtain ⟨t368,A300,H⟩:=H
    replace H : (some t368) = some r:=H
    have A30:=Aside0.mk A300
    clear A300
    obtain rfl:=Option.some.inj H
    go_wp2_with (first|((with_reducible refine gate_callee (f:=39) rfl ?_);refine goesL_ (some 31) rfl rfl Try.func39 Q1 rfl #[.slice A0 l0.length c0] rfl Q79 ?_;(with_reducible refine (impl_RowsOk.calls k1 _ _ l0 t368 _ ?side1 ?side2 A30.out).mono ?_);(case side1=>exact Q109);(case side2=>exact HC0.out);rintro e w31 ⟨rfl,hb⟩;refine ⟨_,rfl,?_⟩;have n0_:=am (below_step Q77 hb);clear HB;have HB:=n0_;clear n0_;(try clear hb);(try clear hb2);(try clear hk);(try clear hi)))
    go_ret
    exact ⟨Q17,Q77⟩
noncomputable def impl_batch.f (k : Nat) (l0 : List (S38)) : Option ((List (S38)) × Bool) := (impl_consolidated.f l0).bind fun t371 => ((impl_BatchOk.f k t371).bind fun t374 => (if t374 = true then (some (t371, true)) else (some (([] : List (S38)), false))))
set_option maxHeartbeats 8000000 in
set_option maxRecDepth 100000 in
theorem impl_batch.calls (k : Nat) (A0 : Option Addr) (c0 : Nat) (l0 : List (S38)) (r1 : List (S38)) (r2 : Bool) (w : World) (hr0 : Kd.C k38 w A0 l0.length l0) (hc0 : l0.length ≤ c0) (h : impl_batch.f k l0 = some (r1,r2)) :
  Calls Try.prog 54 #[.slice A0 l0.length c0] w fun e w'=>∃ v0_ : Value,e = .returned (.tuple #[v0_,.bool r2]) ∧ Kd.R k38 38 w' w.heap.size (fun _=>True) v0_ r1 ∧ Below w.heap.size w w':=by
 have HR0:=Aside0.mk hr0
 have HC0:=Aside0.mk hc0
 clear hr0 hc0
 have HB:=am (Below.refl w.heap.size w)
 have H : ((impl_consolidated.f l0).bind fun t371=>((impl_BatchOk.f k t371).bind fun t374=>(if t374 = true then (some (t371,true)) else (some (([] : List (S38)),false))))) = some (r1,r2):=h
 clear h
 replace H:=Option.bind_eq_some_iff.mp H
 obtain ⟨t371,A20,H⟩:=H
 replace H : ((impl_BatchOk.f k t371).bind fun t374=>(if t374 = true then (some (t371,true)) else (some (([] : List (S38)),false)))) = some (r1,r2):=H
 have A2:=Aside0.mk A20
 clear A20
 replace H:=Option.bind_eq_some_iff.mp H
 obtain ⟨t374,A30,H⟩:=H
 replace H : (if t374 = true then (some (t371,true)) else (some (([] : List (S38)),false))) = some (r1,r2):=H
 have A3:=Aside0.mk A30
 clear A30
 by_cases c4 : t374 = true
 ·subst c4
  have H1 : (some (t371,true)) = some (r1,r2):=by rw [if_pos rfl] at H;exact H
  clear H
  have H:=H1
  clear H1
  simp only [Option.some.injEq,Prod.mk.injEq] at H
  obtain ⟨rfl,rfl⟩:=H
  go_enter Try.func54,Try.ntmps54
  go_wp2_with (first|((with_reducible refine gate_callee (f:=84) rfl ?_);refine goesL_ (some 6) rfl rfl Try.func84 Q1 rfl #[.slice A0 l0.length c0] rfl Q79 ?_;(with_reducible refine (impl_consolidated.calls _ _ l0 t371 _ ?side1 ?side2 A2.out).mono ?_);(case side1=>exact Q87);(case side2=>exact HC0.out);rintro e w5 ⟨v372,rfl,ho0,hb⟩;refine ⟨_,rfl,?_⟩;have n0_:=am (Kd.R_lower ho0 (below_size Q77));have n1_:=am (below_step Q77 hb);clear HB;have HO373:=n0_;have HB:=n1_;clear n0_ n1_;(try clear hb);(try clear hb2);(try clear hk);(try clear hi);(try clear ho0);obtain ⟨Ao6,co6,eo6⟩:=Kd.R_slice HO373.out;subst eo6)|((with_reducible refine gate_callee (f:=24) rfl ?_);refine goesL_ (some 8) rfl rfl Try.func24 Q1 rfl #[.slice Ao6 t371.length co6] rfl Q79 ?_;(with_reducible refine (impl_BatchOk.calls k _ _ t371 true _ ?side1 ?side2 A3.out).mono ?_);(case side1=>exact (by repeat (first|exact (Kd.R_reads' HO373.out).2.2|(with_reducible refine Kd.C_alloc ?_ _)|(with_reducible refine Kd.C_drewN ?_ _)|(with_reducible refine Kd.C_drew ?_))));(case side2=>exact (Kd.R_reads' HO373.out).2.1);rintro e w7 ⟨rfl,hb⟩;refine ⟨_,rfl,?_⟩;have n0_:=am (Kd.R_below Q30 hb);have n1_:=am (below_step Q77 hb);clear HO373 HB;have HO373:=n0_;have HB:=n1_;clear n0_ n1_;(try clear hb);(try clear hb2);(try clear hk);(try clear hi)))
  go_ret2
  exact ⟨_,Q17,Q30,Q77⟩
 ·replace c4:=Bool.eq_false_iff.mpr c4
  subst c4
  have H1 : (some (([] : List (S38)),false)) = some (r1,r2):=by rw [if_neg (show ¬ (false = true) by decide)] at H;exact H
  clear H
  have H:=H1
  clear H1
  simp only [Option.some.injEq,Prod.mk.injEq] at H
  obtain ⟨rfl,rfl⟩:=H
  go_enter Try.func54,Try.ntmps54
  go_wp2_with (first|((with_reducible refine gate_callee (f:=84) rfl ?_);refine goesL_ (some 6) rfl rfl Try.func84 Q1 rfl #[.slice A0 l0.length c0] rfl Q79 ?_;(with_reducible refine (impl_consolidated.calls _ _ l0 t371 _ ?side1 ?side2 A2.out).mono ?_);(case side1=>exact Q87);(case side2=>exact HC0.out);rintro e w8 ⟨v372,rfl,ho0,hb⟩;refine ⟨_,rfl,?_⟩;have n0_:=am (Kd.R_lower ho0 (below_size Q77));have n1_:=am (below_step Q77 hb);clear HB;have HO373:=n0_;have HB:=n1_;clear n0_ n1_;(try clear hb);(try clear hb2);(try clear hk);(try clear hi);(try clear ho0);obtain ⟨Ao9,co9,eo9⟩:=Kd.R_slice HO373.out;subst eo9)|((with_reducible refine gate_callee (f:=24) rfl ?_);refine goesL_ (some 8) rfl rfl Try.func24 Q1 rfl #[.slice Ao9 t371.length co9] rfl Q79 ?_;(with_reducible refine (impl_BatchOk.calls k _ _ t371 false _ ?side1 ?side2 A3.out).mono ?_);(case side1=>exact (by repeat (first|exact (Kd.R_reads' HO373.out).2.2|(with_reducible refine Kd.C_alloc ?_ _)|(with_reducible refine Kd.C_drewN ?_ _)|(with_reducible refine Kd.C_drew ?_))));(case side2=>exact (Kd.R_reads' HO373.out).2.1);rintro e w10 ⟨rfl,hb⟩;refine ⟨_,rfl,?_⟩;have n0_:=am (Kd.R_below Q30 hb);have n1_:=am (below_step Q77 hb);clear HO373 HB;have HO373:=n0_;have HB:=n1_;clear n0_ n1_;(try clear hb);(try clear hb2);(try clear hk);(try clear hi)))
  go_ret2
  exact ⟨_,Q17,Q80,Q77⟩
def impl_TimeJoin.f (a0_0 : Int) (a0_1 : Int) (a1_0 : Int) (a1_1 : Int) : Option (Int × Int) := (impl_TimeOk.f a0_0 a0_1).bind fun t378 => (if t378 = true then ((impl_TimeOk.f a1_0 a1_1).bind fun t379 => (if t379 = true then (some (mx a0_0 a1_0, mx a0_1 a1_1)) else (some (0, 0)))) else (some (0, 0)))
set_option maxHeartbeats 8000000 in
set_option maxRecDepth 100000 in
theorem impl_TimeJoin.calls (a0_0 : Int) (a0_1 : Int) (a1_0 : Int) (a1_1 : Int) (r1 : Int) (r2 : Int) (w : World) (h : impl_TimeJoin.f a0_0 a0_1 a1_0 a1_1 = some (r1,r2)) :
  Calls Try.prog 98 #[.agg #[.int .i64 a0_0,.int .i64 a0_1],.agg #[.int .i64 a1_0,.int .i64 a1_1]] w fun e w'=>e = .returned (.agg #[.int .i64 r1,.int .i64 r2]) ∧ Below w.heap.size w w':=by
 have hu36:=Try.underlying36
 have HB:=am (Below.refl w.heap.size w)
 have H : ((impl_TimeOk.f a0_0 a0_1).bind fun t378=>(if t378 = true then ((impl_TimeOk.f a1_0 a1_1).bind fun t379=>(if t379 = true then (some (mx a0_0 a1_0,mx a0_1 a1_1)) else (some (0,0)))) else (some (0,0)))) = some (r1,r2):=h
 clear h
 replace H:=Option.bind_eq_some_iff.mp H
 obtain ⟨t378,A30,H⟩:=H
 replace H : (if t378 = true then ((impl_TimeOk.f a1_0 a1_1).bind fun t379=>(if t379 = true then (some (mx a0_0 a1_0,mx a0_1 a1_1)) else (some (0,0)))) else (some (0,0))) = some (r1,r2):=H
 have A3:=Aside0.mk A30
 clear A30
 by_cases c4 : t378 = true
 ·subst c4
  have H1 : ((impl_TimeOk.f a1_0 a1_1).bind fun t379=>(if t379 = true then (some (mx a0_0 a1_0,mx a0_1 a1_1)) else (some (0,0)))) = some (r1,r2):=by rw [if_pos rfl] at H;exact H
  clear H
  have H:=H1
  clear H1
  replace H:=Option.bind_eq_some_iff.mp H
  obtain ⟨t379,A50,H⟩:=H
  replace H : (if t379 = true then (some (mx a0_0 a1_0,mx a0_1 a1_1)) else (some (0,0))) = some (r1,r2):=H
  have A5:=Aside0.mk A50
  clear A50
  by_cases c6 : t379 = true
  ·subst c6
   have H1 : (some (mx a0_0 a1_0,mx a0_1 a1_1)) = some (r1,r2):=by rw [if_pos rfl] at H;exact H
   clear H
   have H:=H1
   clear H1
   obtain ⟨ji7,hji7⟩ : ∃ j_ : Int,(mx a0_0 a1_0) = j_:=⟨_,rfl⟩
   replace H : (some (ji7,mx a0_1 a1_1)) = some (r1,r2):=Q11
   (try rw [hji7] at A3)
   (try rw [hji7] at A5)
   have hji7_ : (if a0_0 < a1_0 then a1_0 else a0_0) = ji7:=hji7
   obtain ⟨ji8,hji8⟩ : ∃ j_ : Int,(mx a0_1 a1_1) = j_:=⟨_,rfl⟩
   replace H : (some (ji7,ji8)) = some (r1,r2):=Q10
   (try rw [hji8] at A3)
   (try rw [hji8] at A5)
   have hji8_ : (if a0_1 < a1_1 then a1_1 else a0_1) = ji8:=hji8
   simp only [Option.some.injEq,Prod.mk.injEq] at H
   obtain ⟨rfl,rfl⟩:=H
   go_enter Try.func98,Try.ntmps98
   go_wp2_with (first|((with_reducible refine gate_dst (N:=2) rfl ?_);refine box_event ?hg (N:=2) ?hd (cs:=#[.int .i64 a0_0,.int .i64 a0_1]) (t:=36) ?hr ?_;(case hd=>rfl);(case hg=>rfl);(case hr=>first|(go_simp;done)|(go_simp;rfl));intro gb375 hg w9 hbox hb;have n0_:=am (below_step Q77 hb);have n1_:=am (hbox);have n2_:=am ((Q167 : w.heap.size ≤ gb375));have n3_:=n2_;clear HB;have HB:=n0_;have BK375:=n1_;have GW375:=n2_;have GE375:=n3_;clear n0_ n1_ n2_ n3_;clear hb hbox hg)|((with_reducible refine gate_dst (N:=3) rfl ?_);refine box_event ?hg (N:=3) ?hd (cs:=#[.int .i64 a1_0,.int .i64 a1_1]) (t:=36) ?hr ?_;(case hd=>rfl);(case hg=>rfl);(case hr=>first|(go_simp;done)|(go_simp;rfl));intro gb376 hg w10 hbox hb;have n0_:=am (blk_below (g:=gb375) (o:=.cells #[.int .i64 a0_0,.int .i64 a0_1] 36 (0,0)) Q54 hb);have n1_:=am (below_step Q97 hb);have n2_:=am (hbox);have n3_:=am ((by rw [hg];exact (below_size Q97) : w.heap.size ≤ gb376));have n4_:=n3_;have n5_:=am ((Q179 : gb375 ≠ gb376));have n6_:=am ((Q180 : gb376 ≠ gb375));clear BK375 HB;have BK375:=n0_;have HB:=n1_;have BK376:=n2_;have GW376:=n3_;have GE376:=n4_;have NB375_376:=n5_;have NB376_375:=n6_;clear n0_ n1_ n2_ n3_ n4_ n5_ n6_;clear hb hbox hg)|((with_reducible refine gate_dst (N:=4) rfl ?_);refine box_event ?hg (N:=4) ?hd (cs:=#[.int .i64 0,.int .i64 0]) (t:=36) ?hr ?_;(case hd=>rfl);(case hg=>rfl);(case hr=>first|(go_simp;done)|(go_simp;rfl));intro gb377 hg w11 hbox hb;have n0_:=am (blk_below (g:=gb375) (o:=.cells #[.int .i64 a0_0,.int .i64 a0_1] 36 (0,0)) Q54 hb);have n1_:=am (blk_below (g:=gb376) (o:=.cells #[.int .i64 a1_0,.int .i64 a1_1] 36 (0,0)) Q55 hb);have n2_:=am (below_step Q131 hb);have n3_:=am (hbox);have n4_:=am ((by rw [hg];exact (below_size Q131) : w.heap.size ≤ gb377));have n5_:=n4_;have n6_:=am ((Q179 : gb375 ≠ gb377));have n7_:=am ((Q180 : gb377 ≠ gb375));have n8_:=am ((Q181 : gb376 ≠ gb377));have n9_:=am ((Q182 : gb377 ≠ gb376));clear BK375 BK376 HB;have BK375:=n0_;have BK376:=n1_;have HB:=n2_;have BK377:=n3_;have GW377:=n4_;have GE377:=n5_;have NB375_377:=n6_;have NB377_375:=n7_;have NB376_377:=n8_;have NB377_376:=n9_;clear n0_ n1_ n2_ n3_ n4_ n5_ n6_ n7_ n8_ n9_;clear hb hbox hg;have hnb12:=NB375_376.out;have hnc12:=NB376_375.out;have hnb13:=NB375_377.out;have hnc13:=NB377_375.out;obtain ⟨hcz14_0,hcz14_1,hfz14_0,hfz14_1⟩:=bx2_ BK375)|((with_reducible refine gate_callee (f:=62) rfl ?_);refine goesL_ (some 6) rfl rfl Try.func62 Q1 rfl #[.agg #[.int .i64 a0_0,.int .i64 a0_1]] rfl Q79 ?_;(with_reducible refine (impl_TimeOk.calls a0_0 a0_1 true _ A3.out).mono ?_);rintro e w15 ⟨rfl,hb⟩;refine ⟨_,rfl,?_⟩;have n0_:=am (blk_below (g:=gb375) (o:=.cells #[.int .i64 a0_0,.int .i64 a0_1] 36 (0,0)) Q54 hb);have n1_:=am (blk_below (g:=gb376) (o:=.cells #[.int .i64 a1_0,.int .i64 a1_1] 36 (0,0)) Q55 hb);have n2_:=am (blk_below (g:=gb377) (o:=.cells #[.int .i64 0,.int .i64 0] 36 (0,0)) Q56 hb);have n3_:=am (below_step Q147 hb);clear BK375 BK376 BK377 HB;have BK375:=n0_;have BK376:=n1_;have BK377:=n2_;have HB:=n3_;clear n0_ n1_ n2_ n3_;(try clear hb);(try clear hb2);(try clear hk);(try clear hi);have hnb16:=NB376_377.out;have hnc16:=NB377_376.out;obtain ⟨hcz17_0,hcz17_1,hfz17_0,hfz17_1⟩:=bx2_ BK376)|(go_at_call 62;(with_reducible refine (impl_TimeOk.calls a1_0 a1_1 true _ A5.out).mono ?_);rintro e w18 ⟨rfl,hb⟩;have n0_:=am (blk_below (g:=gb375) (o:=.cells #[.int .i64 a0_0,.int .i64 a0_1] 36 (0,0)) Q54 hb);have n1_:=am (blk_below (g:=gb376) (o:=.cells #[.int .i64 a1_0,.int .i64 a1_1] 36 (0,0)) Q55 hb);have n2_:=am (blk_below (g:=gb377) (o:=.cells #[.int .i64 0,.int .i64 0] 36 (0,0)) Q56 hb);have n3_:=am (below_step Q147 hb);clear BK375 BK376 BK377 HB;have BK375:=n0_;have BK376:=n1_;have BK377:=n2_;have HB:=n3_;clear n0_ n1_ n2_ n3_;(try clear hb);(try clear hb2);(try clear hk);(try clear hi);obtain ⟨hcz19_0,hcz19_1,hfz19_0,hfz19_1⟩:=bx2_ BK375;obtain ⟨hcz20_0,hcz20_1,hfz20_0,hfz20_1⟩:=bx2_ BK376;obtain ⟨hcz21_0,hcz21_1,hfz21_0,hfz21_1⟩:=bx2_ BK377))
   refine bodyPost_ret (results_cell_row rfl _ _ gb377 36 #[.int .i64 ji7,.int .i64 ji8] (0,0) _ rfl (by (with_reducible repeat (first|refine blk_drewN ?_ _|refine blk_drew ?_|refine blk_alloc ?_ _));refine blk_put (cs:=#[.int .i64 ji7,.int .i64 0]) ?_ 1 _ rfl;(with_reducible repeat (first|refine blk_drewN ?_ _|refine blk_drew ?_|refine blk_alloc ?_ _));refine blk_put (cs:=#[.int .i64 0,.int .i64 0]) ?_ 0 _ rfl;(with_reducible repeat (first|refine blk_drewN ?_ _|refine blk_drew ?_|refine blk_alloc ?_ _));exact BK377.out) Try.underlying36 rfl Q1) rfl ?_
   exact ⟨Q117,Q147⟩
  ·replace c6:=Bool.eq_false_iff.mpr c6
   subst c6
   have H1 : (some (0,0)) = some (r1,r2):=by rw [if_neg (show ¬ (false = true) by decide)] at H;exact H
   clear H
   have H:=H1
   clear H1
   simp only [Option.some.injEq,Prod.mk.injEq] at H
   obtain ⟨rfl,rfl⟩:=H
   go_enter Try.func98,Try.ntmps98
   go_wp2_with (first|((with_reducible refine gate_dst (N:=2) rfl ?_);refine box_event ?hg (N:=2) ?hd (cs:=#[.int .i64 a0_0,.int .i64 a0_1]) (t:=36) ?hr ?_;(case hd=>rfl);(case hg=>rfl);(case hr=>first|(go_simp;done)|(go_simp;rfl));intro gb375 hg w22 hbox hb;have n0_:=am (below_step Q77 hb);have n1_:=am (hbox);have n2_:=am ((Q167 : w.heap.size ≤ gb375));have n3_:=n2_;clear HB;have HB:=n0_;have BK375:=n1_;have GW375:=n2_;have GE375:=n3_;clear n0_ n1_ n2_ n3_;clear hb hbox hg)|((with_reducible refine gate_dst (N:=3) rfl ?_);refine box_event ?hg (N:=3) ?hd (cs:=#[.int .i64 a1_0,.int .i64 a1_1]) (t:=36) ?hr ?_;(case hd=>rfl);(case hg=>rfl);(case hr=>first|(go_simp;done)|(go_simp;rfl));intro gb376 hg w23 hbox hb;have n0_:=am (blk_below (g:=gb375) (o:=.cells #[.int .i64 a0_0,.int .i64 a0_1] 36 (0,0)) Q54 hb);have n1_:=am (below_step Q97 hb);have n2_:=am (hbox);have n3_:=am ((by rw [hg];exact (below_size Q97) : w.heap.size ≤ gb376));have n4_:=n3_;have n5_:=am ((Q179 : gb375 ≠ gb376));have n6_:=am ((Q180 : gb376 ≠ gb375));clear BK375 HB;have BK375:=n0_;have HB:=n1_;have BK376:=n2_;have GW376:=n3_;have GE376:=n4_;have NB375_376:=n5_;have NB376_375:=n6_;clear n0_ n1_ n2_ n3_ n4_ n5_ n6_;clear hb hbox hg)|((with_reducible refine gate_dst (N:=4) rfl ?_);refine box_event ?hg (N:=4) ?hd (cs:=#[.int .i64 0,.int .i64 0]) (t:=36) ?hr ?_;(case hd=>rfl);(case hg=>rfl);(case hr=>first|(go_simp;done)|(go_simp;rfl));intro gb377 hg w24 hbox hb;have n0_:=am (blk_below (g:=gb375) (o:=.cells #[.int .i64 a0_0,.int .i64 a0_1] 36 (0,0)) Q54 hb);have n1_:=am (blk_below (g:=gb376) (o:=.cells #[.int .i64 a1_0,.int .i64 a1_1] 36 (0,0)) Q55 hb);have n2_:=am (below_step Q131 hb);have n3_:=am (hbox);have n4_:=am ((by rw [hg];exact (below_size Q131) : w.heap.size ≤ gb377));have n5_:=n4_;have n6_:=am ((Q179 : gb375 ≠ gb377));have n7_:=am ((Q180 : gb377 ≠ gb375));have n8_:=am ((Q181 : gb376 ≠ gb377));have n9_:=am ((Q182 : gb377 ≠ gb376));clear BK375 BK376 HB;have BK375:=n0_;have BK376:=n1_;have HB:=n2_;have BK377:=n3_;have GW377:=n4_;have GE377:=n5_;have NB375_377:=n6_;have NB377_375:=n7_;have NB376_377:=n8_;have NB377_376:=n9_;clear n0_ n1_ n2_ n3_ n4_ n5_ n6_ n7_ n8_ n9_;clear hb hbox hg;have hnb25:=NB375_376.out;have hnc25:=NB376_375.out;have hnb26:=NB375_377.out;have hnc26:=NB377_375.out;obtain ⟨hcz27_0,hcz27_1,hfz27_0,hfz27_1⟩:=bx2_ BK375)|((with_reducible refine gate_callee (f:=62) rfl ?_);refine goesL_ (some 6) rfl rfl Try.func62 Q1 rfl #[.agg #[.int .i64 a0_0,.int .i64 a0_1]] rfl Q79 ?_;(with_reducible refine (impl_TimeOk.calls a0_0 a0_1 true _ A3.out).mono ?_);rintro e w28 ⟨rfl,hb⟩;refine ⟨_,rfl,?_⟩;have n0_:=am (blk_below (g:=gb375) (o:=.cells #[.int .i64 a0_0,.int .i64 a0_1] 36 (0,0)) Q54 hb);have n1_:=am (blk_below (g:=gb376) (o:=.cells #[.int .i64 a1_0,.int .i64 a1_1] 36 (0,0)) Q55 hb);have n2_:=am (blk_below (g:=gb377) (o:=.cells #[.int .i64 0,.int .i64 0] 36 (0,0)) Q56 hb);have n3_:=am (below_step Q147 hb);clear BK375 BK376 BK377 HB;have BK375:=n0_;have BK376:=n1_;have BK377:=n2_;have HB:=n3_;clear n0_ n1_ n2_ n3_;(try clear hb);(try clear hb2);(try clear hk);(try clear hi);have hnb29:=NB376_377.out;have hnc29:=NB377_376.out;obtain ⟨hcz30_0,hcz30_1,hfz30_0,hfz30_1⟩:=bx2_ BK376)|(go_at_call 62;(with_reducible refine (impl_TimeOk.calls a1_0 a1_1 false _ A5.out).mono ?_);rintro e w31 ⟨rfl,hb⟩;have n0_:=am (blk_below (g:=gb375) (o:=.cells #[.int .i64 a0_0,.int .i64 a0_1] 36 (0,0)) Q54 hb);have n1_:=am (blk_below (g:=gb376) (o:=.cells #[.int .i64 a1_0,.int .i64 a1_1] 36 (0,0)) Q55 hb);have n2_:=am (blk_below (g:=gb377) (o:=.cells #[.int .i64 0,.int .i64 0] 36 (0,0)) Q56 hb);have n3_:=am (below_step Q147 hb);clear BK375 BK376 BK377 HB;have BK375:=n0_;have BK376:=n1_;have BK377:=n2_;have HB:=n3_;clear n0_ n1_ n2_ n3_;(try clear hb);(try clear hb2);(try clear hk);(try clear hi);obtain ⟨hcz32_0,hcz32_1,hfz32_0,hfz32_1⟩:=bx2_ BK377))
   refine bodyPost_ret (results_cell_row rfl _ _ gb377 36 #[.int .i64 0,.int .i64 0] (0,0) _ rfl (by (with_reducible repeat (first|refine blk_drewN ?_ _|refine blk_drew ?_|refine blk_alloc ?_ _));refine blk_put (cs:=#[.int .i64 0,.int .i64 0]) ?_ 1 _ rfl;(with_reducible repeat (first|refine blk_drewN ?_ _|refine blk_drew ?_|refine blk_alloc ?_ _));refine blk_put (cs:=#[.int .i64 0,.int .i64 0]) ?_ 0 _ rfl;(with_reducible repeat (first|refine blk_drewN ?_ _|refine blk_drew ?_|refine blk_alloc ?_ _));exact BK377.out) Try.underlying36 rfl Q1) rfl ?_
   exact ⟨Q17,Q147⟩
 ·replace c4:=Bool.eq_false_iff.mpr c4
  subst c4
  have H1 : (some (0,0)) = some (r1,r2):=by rw [if_neg (show ¬ (false = true) by decide)] at H;exact H
  clear H
  have H:=H1
  clear H1
  simp only [Option.some.injEq,Prod.mk.injEq] at H
  obtain ⟨rfl,rfl⟩:=H
  go_enter Try.func98,Try.ntmps98
  go_wp2_with (first|((with_reducible refine gate_dst (N:=2) rfl ?_);refine box_event ?hg (N:=2) ?hd (cs:=#[.int .i64 a0_0,.int .i64 a0_1]) (t:=36) ?hr ?_;(case hd=>rfl);(case hg=>rfl);(case hr=>first|(go_simp;done)|(go_simp;rfl));intro gb375 hg w33 hbox hb;have n0_:=am (below_step Q77 hb);have n1_:=am (hbox);have n2_:=am ((Q167 : w.heap.size ≤ gb375));have n3_:=n2_;clear HB;have HB:=n0_;have BK375:=n1_;have GW375:=n2_;have GE375:=n3_;clear n0_ n1_ n2_ n3_;clear hb hbox hg)|((with_reducible refine gate_dst (N:=3) rfl ?_);refine box_event ?hg (N:=3) ?hd (cs:=#[.int .i64 a1_0,.int .i64 a1_1]) (t:=36) ?hr ?_;(case hd=>rfl);(case hg=>rfl);(case hr=>first|(go_simp;done)|(go_simp;rfl));intro gb376 hg w34 hbox hb;have n0_:=am (blk_below (g:=gb375) (o:=.cells #[.int .i64 a0_0,.int .i64 a0_1] 36 (0,0)) Q54 hb);have n1_:=am (below_step Q97 hb);have n2_:=am (hbox);have n3_:=am ((by rw [hg];exact (below_size Q97) : w.heap.size ≤ gb376));have n4_:=n3_;have n5_:=am ((Q179 : gb375 ≠ gb376));have n6_:=am ((Q180 : gb376 ≠ gb375));clear BK375 HB;have BK375:=n0_;have HB:=n1_;have BK376:=n2_;have GW376:=n3_;have GE376:=n4_;have NB375_376:=n5_;have NB376_375:=n6_;clear n0_ n1_ n2_ n3_ n4_ n5_ n6_;clear hb hbox hg)|((with_reducible refine gate_dst (N:=4) rfl ?_);refine box_event ?hg (N:=4) ?hd (cs:=#[.int .i64 0,.int .i64 0]) (t:=36) ?hr ?_;(case hd=>rfl);(case hg=>rfl);(case hr=>first|(go_simp;done)|(go_simp;rfl));intro gb377 hg w35 hbox hb;have n0_:=am (blk_below (g:=gb375) (o:=.cells #[.int .i64 a0_0,.int .i64 a0_1] 36 (0,0)) Q54 hb);have n1_:=am (blk_below (g:=gb376) (o:=.cells #[.int .i64 a1_0,.int .i64 a1_1] 36 (0,0)) Q55 hb);have n2_:=am (below_step Q131 hb);have n3_:=am (hbox);have n4_:=am ((by rw [hg];exact (below_size Q131) : w.heap.size ≤ gb377));have n5_:=n4_;have n6_:=am ((Q179 : gb375 ≠ gb377));have n7_:=am ((Q180 : gb377 ≠ gb375));have n8_:=am ((Q181 : gb376 ≠ gb377));have n9_:=am ((Q182 : gb377 ≠ gb376));clear BK375 BK376 HB;have BK375:=n0_;have BK376:=n1_;have HB:=n2_;have BK377:=n3_;have GW377:=n4_;have GE377:=n5_;have NB375_377:=n6_;have NB377_375:=n7_;have NB376_377:=n8_;have NB377_376:=n9_;clear n0_ n1_ n2_ n3_ n4_ n5_ n6_ n7_ n8_ n9_;clear hb hbox hg;have hnb36:=NB375_376.out;have hnc36:=NB376_375.out;have hnb37:=NB375_377.out;have hnc37:=NB377_375.out;obtain ⟨hcz38_0,hcz38_1,hfz38_0,hfz38_1⟩:=bx2_ BK375)|((with_reducible refine gate_callee (f:=62) rfl ?_);refine goesL_ (some 6) rfl rfl Try.func62 Q1 rfl #[.agg #[.int .i64 a0_0,.int .i64 a0_1]] rfl Q79 ?_;(with_reducible refine (impl_TimeOk.calls a0_0 a0_1 false _ A3.out).mono ?_);rintro e w39 ⟨rfl,hb⟩;refine ⟨_,rfl,?_⟩;have n0_:=am (blk_below (g:=gb375) (o:=.cells #[.int .i64 a0_0,.int .i64 a0_1] 36 (0,0)) Q54 hb);have n1_:=am (blk_below (g:=gb376) (o:=.cells #[.int .i64 a1_0,.int .i64 a1_1] 36 (0,0)) Q55 hb);have n2_:=am (blk_below (g:=gb377) (o:=.cells #[.int .i64 0,.int .i64 0] 36 (0,0)) Q56 hb);have n3_:=am (below_step Q147 hb);clear BK375 BK376 BK377 HB;have BK375:=n0_;have BK376:=n1_;have BK377:=n2_;have HB:=n3_;clear n0_ n1_ n2_ n3_;(try clear hb);(try clear hb2);(try clear hk);(try clear hi);have hnb40:=NB377_376.out;have hnc40:=NB376_377.out;obtain ⟨hcz41_0,hcz41_1,hfz41_0,hfz41_1⟩:=bx2_ BK377))
  refine bodyPost_ret (results_cell_row rfl _ _ gb377 36 #[.int .i64 0,.int .i64 0] (0,0) _ rfl (by (with_reducible repeat (first|refine blk_drewN ?_ _|refine blk_drew ?_|refine blk_alloc ?_ _));refine blk_put (cs:=#[.int .i64 0,.int .i64 0]) ?_ 1 _ rfl;(with_reducible repeat (first|refine blk_drewN ?_ _|refine blk_drew ?_|refine blk_alloc ?_ _));refine blk_put (cs:=#[.int .i64 0,.int .i64 0]) ?_ 0 _ rfl;(with_reducible repeat (first|refine blk_drewN ?_ _|refine blk_drew ?_|refine blk_alloc ?_ _));exact BK377.out) Try.underlying36 rfl Q1) rfl ?_
  exact ⟨Q17,Q147⟩
def impl_TimeMeet.f (a0_0 : Int) (a0_1 : Int) (a1_0 : Int) (a1_1 : Int) : Option (Int × Int) := (impl_TimeOk.f a0_0 a0_1).bind fun t383 => (if t383 = true then ((impl_TimeOk.f a1_0 a1_1).bind fun t384 => (if t384 = true then (some (mn a0_0 a1_0, mn a0_1 a1_1)) else (some (0, 0)))) else (some (0, 0)))
set_option maxHeartbeats 8000000 in
set_option maxRecDepth 100000 in
theorem impl_TimeMeet.calls (a0_0 : Int) (a0_1 : Int) (a1_0 : Int) (a1_1 : Int) (r1 : Int) (r2 : Int) (w : World) (h : impl_TimeMeet.f a0_0 a0_1 a1_0 a1_1 = some (r1,r2)) :
  Calls Try.prog 99 #[.agg #[.int .i64 a0_0,.int .i64 a0_1],.agg #[.int .i64 a1_0,.int .i64 a1_1]] w fun e w'=>e = .returned (.agg #[.int .i64 r1,.int .i64 r2]) ∧ Below w.heap.size w w':=by
 have hu36:=Try.underlying36
 have HB:=am (Below.refl w.heap.size w)
 have H : ((impl_TimeOk.f a0_0 a0_1).bind fun t383=>(if t383 = true then ((impl_TimeOk.f a1_0 a1_1).bind fun t384=>(if t384 = true then (some (mn a0_0 a1_0,mn a0_1 a1_1)) else (some (0,0)))) else (some (0,0)))) = some (r1,r2):=h
 clear h
 replace H:=Option.bind_eq_some_iff.mp H
 obtain ⟨t383,A30,H⟩:=H
 replace H : (if t383 = true then ((impl_TimeOk.f a1_0 a1_1).bind fun t384=>(if t384 = true then (some (mn a0_0 a1_0,mn a0_1 a1_1)) else (some (0,0)))) else (some (0,0))) = some (r1,r2):=H
 have A3:=Aside0.mk A30
 clear A30
 by_cases c4 : t383 = true
 ·subst c4
  have H1 : ((impl_TimeOk.f a1_0 a1_1).bind fun t384=>(if t384 = true then (some (mn a0_0 a1_0,mn a0_1 a1_1)) else (some (0,0)))) = some (r1,r2):=by rw [if_pos rfl] at H;exact H
  clear H
  have H:=H1
  clear H1
  replace H:=Option.bind_eq_some_iff.mp H
  obtain ⟨t384,A50,H⟩:=H
  replace H : (if t384 = true then (some (mn a0_0 a1_0,mn a0_1 a1_1)) else (some (0,0))) = some (r1,r2):=H
  have A5:=Aside0.mk A50
  clear A50
  by_cases c6 : t384 = true
  ·subst c6
   have H1 : (some (mn a0_0 a1_0,mn a0_1 a1_1)) = some (r1,r2):=by rw [if_pos rfl] at H;exact H
   clear H
   have H:=H1
   clear H1
   obtain ⟨ji7,hji7⟩ : ∃ j_ : Int,(mn a0_0 a1_0) = j_:=⟨_,rfl⟩
   replace H : (some (ji7,mn a0_1 a1_1)) = some (r1,r2):=Q11
   (try rw [hji7] at A3)
   (try rw [hji7] at A5)
   have hji7_ : (if a1_0 < a0_0 then a1_0 else a0_0) = ji7:=hji7
   obtain ⟨ji8,hji8⟩ : ∃ j_ : Int,(mn a0_1 a1_1) = j_:=⟨_,rfl⟩
   replace H : (some (ji7,ji8)) = some (r1,r2):=Q10
   (try rw [hji8] at A3)
   (try rw [hji8] at A5)
   have hji8_ : (if a1_1 < a0_1 then a1_1 else a0_1) = ji8:=hji8
   simp only [Option.some.injEq,Prod.mk.injEq] at H
   obtain ⟨rfl,rfl⟩:=H
   go_enter Try.func99,Try.ntmps99
   go_wp2_with (first|((with_reducible refine gate_dst (N:=2) rfl ?_);refine box_event ?hg (N:=2) ?hd (cs:=#[.int .i64 a0_0,.int .i64 a0_1]) (t:=36) ?hr ?_;(case hd=>rfl);(case hg=>rfl);(case hr=>first|(go_simp;done)|(go_simp;rfl));intro gb380 hg w9 hbox hb;have n0_:=am (below_step Q77 hb);have n1_:=am (hbox);have n2_:=am ((Q167 : w.heap.size ≤ gb380));have n3_:=n2_;clear HB;have HB:=n0_;have BK380:=n1_;have GW380:=n2_;have GE380:=n3_;clear n0_ n1_ n2_ n3_;clear hb hbox hg)|((with_reducible refine gate_dst (N:=3) rfl ?_);refine box_event ?hg (N:=3) ?hd (cs:=#[.int .i64 a1_0,.int .i64 a1_1]) (t:=36) ?hr ?_;(case hd=>rfl);(case hg=>rfl);(case hr=>first|(go_simp;done)|(go_simp;rfl));intro gb381 hg w10 hbox hb;have n0_:=am (blk_below (g:=gb380) (o:=.cells #[.int .i64 a0_0,.int .i64 a0_1] 36 (0,0)) Q57 hb);have n1_:=am (below_step Q98 hb);have n2_:=am (hbox);have n3_:=am ((by rw [hg];exact (below_size Q98) : w.heap.size ≤ gb381));have n4_:=n3_;have n5_:=am ((Q183 : gb380 ≠ gb381));have n6_:=am ((Q184 : gb381 ≠ gb380));clear BK380 HB;have BK380:=n0_;have HB:=n1_;have BK381:=n2_;have GW381:=n3_;have GE381:=n4_;have NB380_381:=n5_;have NB381_380:=n6_;clear n0_ n1_ n2_ n3_ n4_ n5_ n6_;clear hb hbox hg)|((with_reducible refine gate_dst (N:=4) rfl ?_);refine box_event ?hg (N:=4) ?hd (cs:=#[.int .i64 0,.int .i64 0]) (t:=36) ?hr ?_;(case hd=>rfl);(case hg=>rfl);(case hr=>first|(go_simp;done)|(go_simp;rfl));intro gb382 hg w11 hbox hb;have n0_:=am (blk_below (g:=gb380) (o:=.cells #[.int .i64 a0_0,.int .i64 a0_1] 36 (0,0)) Q57 hb);have n1_:=am (blk_below (g:=gb381) (o:=.cells #[.int .i64 a1_0,.int .i64 a1_1] 36 (0,0)) Q58 hb);have n2_:=am (below_step Q132 hb);have n3_:=am (hbox);have n4_:=am ((by rw [hg];exact (below_size Q132) : w.heap.size ≤ gb382));have n5_:=n4_;have n6_:=am ((Q183 : gb380 ≠ gb382));have n7_:=am ((Q184 : gb382 ≠ gb380));have n8_:=am ((Q185 : gb381 ≠ gb382));have n9_:=am ((Q186 : gb382 ≠ gb381));clear BK380 BK381 HB;have BK380:=n0_;have BK381:=n1_;have HB:=n2_;have BK382:=n3_;have GW382:=n4_;have GE382:=n5_;have NB380_382:=n6_;have NB382_380:=n7_;have NB381_382:=n8_;have NB382_381:=n9_;clear n0_ n1_ n2_ n3_ n4_ n5_ n6_ n7_ n8_ n9_;clear hb hbox hg;have hnb12:=NB380_381.out;have hnc12:=NB381_380.out;have hnb13:=NB380_382.out;have hnc13:=NB382_380.out;obtain ⟨hcz14_0,hcz14_1,hfz14_0,hfz14_1⟩:=bx2_ BK380)|((with_reducible refine gate_callee (f:=62) rfl ?_);refine goesL_ (some 6) rfl rfl Try.func62 Q1 rfl #[.agg #[.int .i64 a0_0,.int .i64 a0_1]] rfl Q79 ?_;(with_reducible refine (impl_TimeOk.calls a0_0 a0_1 true _ A3.out).mono ?_);rintro e w15 ⟨rfl,hb⟩;refine ⟨_,rfl,?_⟩;have n0_:=am (blk_below (g:=gb380) (o:=.cells #[.int .i64 a0_0,.int .i64 a0_1] 36 (0,0)) Q57 hb);have n1_:=am (blk_below (g:=gb381) (o:=.cells #[.int .i64 a1_0,.int .i64 a1_1] 36 (0,0)) Q58 hb);have n2_:=am (blk_below (g:=gb382) (o:=.cells #[.int .i64 0,.int .i64 0] 36 (0,0)) Q59 hb);have n3_:=am (below_step Q148 hb);clear BK380 BK381 BK382 HB;have BK380:=n0_;have BK381:=n1_;have BK382:=n2_;have HB:=n3_;clear n0_ n1_ n2_ n3_;(try clear hb);(try clear hb2);(try clear hk);(try clear hi);have hnb16:=NB381_382.out;have hnc16:=NB382_381.out;obtain ⟨hcz17_0,hcz17_1,hfz17_0,hfz17_1⟩:=bx2_ BK381)|(go_at_call 62;(with_reducible refine (impl_TimeOk.calls a1_0 a1_1 true _ A5.out).mono ?_);rintro e w18 ⟨rfl,hb⟩;have n0_:=am (blk_below (g:=gb380) (o:=.cells #[.int .i64 a0_0,.int .i64 a0_1] 36 (0,0)) Q57 hb);have n1_:=am (blk_below (g:=gb381) (o:=.cells #[.int .i64 a1_0,.int .i64 a1_1] 36 (0,0)) Q58 hb);have n2_:=am (blk_below (g:=gb382) (o:=.cells #[.int .i64 0,.int .i64 0] 36 (0,0)) Q59 hb);have n3_:=am (below_step Q148 hb);clear BK380 BK381 BK382 HB;have BK380:=n0_;have BK381:=n1_;have BK382:=n2_;have HB:=n3_;clear n0_ n1_ n2_ n3_;(try clear hb);(try clear hb2);(try clear hk);(try clear hi);obtain ⟨hcz19_0,hcz19_1,hfz19_0,hfz19_1⟩:=bx2_ BK380;obtain ⟨hcz20_0,hcz20_1,hfz20_0,hfz20_1⟩:=bx2_ BK381;obtain ⟨hcz21_0,hcz21_1,hfz21_0,hfz21_1⟩:=bx2_ BK382))
   refine bodyPost_ret (results_cell_row rfl _ _ gb382 36 #[.int .i64 ji7,.int .i64 ji8] (0,0) _ rfl (by (with_reducible repeat (first|refine blk_drewN ?_ _|refine blk_drew ?_|refine blk_alloc ?_ _));refine blk_put (cs:=#[.int .i64 ji7,.int .i64 0]) ?_ 1 _ rfl;(with_reducible repeat (first|refine blk_drewN ?_ _|refine blk_drew ?_|refine blk_alloc ?_ _));refine blk_put (cs:=#[.int .i64 0,.int .i64 0]) ?_ 0 _ rfl;(with_reducible repeat (first|refine blk_drewN ?_ _|refine blk_drew ?_|refine blk_alloc ?_ _));exact BK382.out) Try.underlying36 rfl Q1) rfl ?_
   exact ⟨Q117,Q148⟩
  ·replace c6:=Bool.eq_false_iff.mpr c6
   subst c6
   have H1 : (some (0,0)) = some (r1,r2):=by rw [if_neg (show ¬ (false = true) by decide)] at H;exact H
   clear H
   have H:=H1
   clear H1
   simp only [Option.some.injEq,Prod.mk.injEq] at H
   obtain ⟨rfl,rfl⟩:=H
   go_enter Try.func99,Try.ntmps99
   go_wp2_with (first|((with_reducible refine gate_dst (N:=2) rfl ?_);refine box_event ?hg (N:=2) ?hd (cs:=#[.int .i64 a0_0,.int .i64 a0_1]) (t:=36) ?hr ?_;(case hd=>rfl);(case hg=>rfl);(case hr=>first|(go_simp;done)|(go_simp;rfl));intro gb380 hg w22 hbox hb;have n0_:=am (below_step Q77 hb);have n1_:=am (hbox);have n2_:=am ((Q167 : w.heap.size ≤ gb380));have n3_:=n2_;clear HB;have HB:=n0_;have BK380:=n1_;have GW380:=n2_;have GE380:=n3_;clear n0_ n1_ n2_ n3_;clear hb hbox hg)|((with_reducible refine gate_dst (N:=3) rfl ?_);refine box_event ?hg (N:=3) ?hd (cs:=#[.int .i64 a1_0,.int .i64 a1_1]) (t:=36) ?hr ?_;(case hd=>rfl);(case hg=>rfl);(case hr=>first|(go_simp;done)|(go_simp;rfl));intro gb381 hg w23 hbox hb;have n0_:=am (blk_below (g:=gb380) (o:=.cells #[.int .i64 a0_0,.int .i64 a0_1] 36 (0,0)) Q57 hb);have n1_:=am (below_step Q98 hb);have n2_:=am (hbox);have n3_:=am ((by rw [hg];exact (below_size Q98) : w.heap.size ≤ gb381));have n4_:=n3_;have n5_:=am ((Q183 : gb380 ≠ gb381));have n6_:=am ((Q184 : gb381 ≠ gb380));clear BK380 HB;have BK380:=n0_;have HB:=n1_;have BK381:=n2_;have GW381:=n3_;have GE381:=n4_;have NB380_381:=n5_;have NB381_380:=n6_;clear n0_ n1_ n2_ n3_ n4_ n5_ n6_;clear hb hbox hg)|((with_reducible refine gate_dst (N:=4) rfl ?_);refine box_event ?hg (N:=4) ?hd (cs:=#[.int .i64 0,.int .i64 0]) (t:=36) ?hr ?_;(case hd=>rfl);(case hg=>rfl);(case hr=>first|(go_simp;done)|(go_simp;rfl));intro gb382 hg w24 hbox hb;have n0_:=am (blk_below (g:=gb380) (o:=.cells #[.int .i64 a0_0,.int .i64 a0_1] 36 (0,0)) Q57 hb);have n1_:=am (blk_below (g:=gb381) (o:=.cells #[.int .i64 a1_0,.int .i64 a1_1] 36 (0,0)) Q58 hb);have n2_:=am (below_step Q132 hb);have n3_:=am (hbox);have n4_:=am ((by rw [hg];exact (below_size Q132) : w.heap.size ≤ gb382));have n5_:=n4_;have n6_:=am ((Q183 : gb380 ≠ gb382));have n7_:=am ((Q184 : gb382 ≠ gb380));have n8_:=am ((Q185 : gb381 ≠ gb382));have n9_:=am ((Q186 : gb382 ≠ gb381));clear BK380 BK381 HB;have BK380:=n0_;have BK381:=n1_;have HB:=n2_;have BK382:=n3_;have GW382:=n4_;have GE382:=n5_;have NB380_382:=n6_;have NB382_380:=n7_;have NB381_382:=n8_;have NB382_381:=n9_;clear n0_ n1_ n2_ n3_ n4_ n5_ n6_ n7_ n8_ n9_;clear hb hbox hg;have hnb25:=NB380_381.out;have hnc25:=NB381_380.out;have hnb26:=NB380_382.out;have hnc26:=NB382_380.out;obtain ⟨hcz27_0,hcz27_1,hfz27_0,hfz27_1⟩:=bx2_ BK380)|((with_reducible refine gate_callee (f:=62) rfl ?_);refine goesL_ (some 6) rfl rfl Try.func62 Q1 rfl #[.agg #[.int .i64 a0_0,.int .i64 a0_1]] rfl Q79 ?_;(with_reducible refine (impl_TimeOk.calls a0_0 a0_1 true _ A3.out).mono ?_);rintro e w28 ⟨rfl,hb⟩;refine ⟨_,rfl,?_⟩;have n0_:=am (blk_below (g:=gb380) (o:=.cells #[.int .i64 a0_0,.int .i64 a0_1] 36 (0,0)) Q57 hb);have n1_:=am (blk_below (g:=gb381) (o:=.cells #[.int .i64 a1_0,.int .i64 a1_1] 36 (0,0)) Q58 hb);have n2_:=am (blk_below (g:=gb382) (o:=.cells #[.int .i64 0,.int .i64 0] 36 (0,0)) Q59 hb);have n3_:=am (below_step Q148 hb);clear BK380 BK381 BK382 HB;have BK380:=n0_;have BK381:=n1_;have BK382:=n2_;have HB:=n3_;clear n0_ n1_ n2_ n3_;(try clear hb);(try clear hb2);(try clear hk);(try clear hi);have hnb29:=NB381_382.out;have hnc29:=NB382_381.out;obtain ⟨hcz30_0,hcz30_1,hfz30_0,hfz30_1⟩:=bx2_ BK381)|(go_at_call 62;(with_reducible refine (impl_TimeOk.calls a1_0 a1_1 false _ A5.out).mono ?_);rintro e w31 ⟨rfl,hb⟩;have n0_:=am (blk_below (g:=gb380) (o:=.cells #[.int .i64 a0_0,.int .i64 a0_1] 36 (0,0)) Q57 hb);have n1_:=am (blk_below (g:=gb381) (o:=.cells #[.int .i64 a1_0,.int .i64 a1_1] 36 (0,0)) Q58 hb);have n2_:=am (blk_below (g:=gb382) (o:=.cells #[.int .i64 0,.int .i64 0] 36 (0,0)) Q59 hb);have n3_:=am (below_step Q148 hb);clear BK380 BK381 BK382 HB;have BK380:=n0_;have BK381:=n1_;have BK382:=n2_;have HB:=n3_;clear n0_ n1_ n2_ n3_;(try clear hb);(try clear hb2);(try clear hk);(try clear hi);obtain ⟨hcz32_0,hcz32_1,hfz32_0,hfz32_1⟩:=bx2_ BK382))
   refine bodyPost_ret (results_cell_row rfl _ _ gb382 36 #[.int .i64 0,.int .i64 0] (0,0) _ rfl (by (with_reducible repeat (first|refine blk_drewN ?_ _|refine blk_drew ?_|refine blk_alloc ?_ _));refine blk_put (cs:=#[.int .i64 0,.int .i64 0]) ?_ 1 _ rfl;(with_reducible repeat (first|refine blk_drewN ?_ _|refine blk_drew ?_|refine blk_alloc ?_ _));refine blk_put (cs:=#[.int .i64 0,.int .i64 0]) ?_ 0 _ rfl;(with_reducible repeat (first|refine blk_drewN ?_ _|refine blk_drew ?_|refine blk_alloc ?_ _));exact BK382.out) Try.underlying36 rfl Q1) rfl ?_
   exact ⟨Q17,Q148⟩
 ·replace c4:=Bool.eq_false_iff.mpr c4
  subst c4
  have H1 : (some (0,0)) = some (r1,r2):=by rw [if_neg (show ¬ (false = true) by decide)] at H;exact H
  clear H
  have H:=H1
  clear H1
  simp only [Option.some.injEq,Prod.mk.injEq] at H
  obtain ⟨rfl,rfl⟩:=H
  go_enter Try.func99,Try.ntmps99
  go_wp2_with (first|((with_reducible refine gate_dst (N:=2) rfl ?_);refine box_event ?hg (N:=2) ?hd (cs:=#[.int .i64 a0_0,.int .i64 a0_1]) (t:=36) ?hr ?_;(case hd=>rfl);(case hg=>rfl);(case hr=>first|(go_simp;done)|(go_simp;rfl));intro gb380 hg w33 hbox hb;have n0_:=am (below_step Q77 hb);have n1_:=am (hbox);have n2_:=am ((Q167 : w.heap.size ≤ gb380));have n3_:=n2_;clear HB;have HB:=n0_;have BK380:=n1_;have GW380:=n2_;have GE380:=n3_;clear n0_ n1_ n2_ n3_;clear hb hbox hg)|((with_reducible refine gate_dst (N:=3) rfl ?_);refine box_event ?hg (N:=3) ?hd (cs:=#[.int .i64 a1_0,.int .i64 a1_1]) (t:=36) ?hr ?_;(case hd=>rfl);(case hg=>rfl);(case hr=>first|(go_simp;done)|(go_simp;rfl));intro gb381 hg w34 hbox hb;have n0_:=am (blk_below (g:=gb380) (o:=.cells #[.int .i64 a0_0,.int .i64 a0_1] 36 (0,0)) Q57 hb);have n1_:=am (below_step Q98 hb);have n2_:=am (hbox);have n3_:=am ((by rw [hg];exact (below_size Q98) : w.heap.size ≤ gb381));have n4_:=n3_;have n5_:=am ((Q183 : gb380 ≠ gb381));have n6_:=am ((Q184 : gb381 ≠ gb380));clear BK380 HB;have BK380:=n0_;have HB:=n1_;have BK381:=n2_;have GW381:=n3_;have GE381:=n4_;have NB380_381:=n5_;have NB381_380:=n6_;clear n0_ n1_ n2_ n3_ n4_ n5_ n6_;clear hb hbox hg)|((with_reducible refine gate_dst (N:=4) rfl ?_);refine box_event ?hg (N:=4) ?hd (cs:=#[.int .i64 0,.int .i64 0]) (t:=36) ?hr ?_;(case hd=>rfl);(case hg=>rfl);(case hr=>first|(go_simp;done)|(go_simp;rfl));intro gb382 hg w35 hbox hb;have n0_:=am (blk_below (g:=gb380) (o:=.cells #[.int .i64 a0_0,.int .i64 a0_1] 36 (0,0)) Q57 hb);have n1_:=am (blk_below (g:=gb381) (o:=.cells #[.int .i64 a1_0,.int .i64 a1_1] 36 (0,0)) Q58 hb);have n2_:=am (below_step Q132 hb);have n3_:=am (hbox);have n4_:=am ((by rw [hg];exact (below_size Q132) : w.heap.size ≤ gb382));have n5_:=n4_;have n6_:=am ((Q183 : gb380 ≠ gb382));have n7_:=am ((Q184 : gb382 ≠ gb380));have n8_:=am ((Q185 : gb381 ≠ gb382));have n9_:=am ((Q186 : gb382 ≠ gb381));clear BK380 BK381 HB;have BK380:=n0_;have BK381:=n1_;have HB:=n2_;have BK382:=n3_;have GW382:=n4_;have GE382:=n5_;have NB380_382:=n6_;have NB382_380:=n7_;have NB381_382:=n8_;have NB382_381:=n9_;clear n0_ n1_ n2_ n3_ n4_ n5_ n6_ n7_ n8_ n9_;clear hb hbox hg;have hnb36:=NB380_381.out;have hnc36:=NB381_380.out;have hnb37:=NB380_382.out;have hnc37:=NB382_380.out;obtain ⟨hcz38_0,hcz38_1,hfz38_0,hfz38_1⟩:=bx2_ BK380)|((with_reducible refine gate_callee (f:=62) rfl ?_);refine goesL_ (some 6) rfl rfl Try.func62 Q1 rfl #[.agg #[.int .i64 a0_0,.int .i64 a0_1]] rfl Q79 ?_;(with_reducible refine (impl_TimeOk.calls a0_0 a0_1 false _ A3.out).mono ?_);rintro e w39 ⟨rfl,hb⟩;refine ⟨_,rfl,?_⟩;have n0_:=am (blk_below (g:=gb380) (o:=.cells #[.int .i64 a0_0,.int .i64 a0_1] 36 (0,0)) Q57 hb);have n1_:=am (blk_below (g:=gb381) (o:=.cells #[.int .i64 a1_0,.int .i64 a1_1] 36 (0,0)) Q58 hb);have n2_:=am (blk_below (g:=gb382) (o:=.cells #[.int .i64 0,.int .i64 0] 36 (0,0)) Q59 hb);have n3_:=am (below_step Q148 hb);clear BK380 BK381 BK382 HB;have BK380:=n0_;have BK381:=n1_;have BK382:=n2_;have HB:=n3_;clear n0_ n1_ n2_ n3_;(try clear hb);(try clear hb2);(try clear hk);(try clear hi);have hnb40:=NB382_381.out;have hnc40:=NB381_382.out;obtain ⟨hcz41_0,hcz41_1,hfz41_0,hfz41_1⟩:=bx2_ BK382))
  refine bodyPost_ret (results_cell_row rfl _ _ gb382 36 #[.int .i64 0,.int .i64 0] (0,0) _ rfl (by (with_reducible repeat (first|refine blk_drewN ?_ _|refine blk_drew ?_|refine blk_alloc ?_ _));refine blk_put (cs:=#[.int .i64 0,.int .i64 0]) ?_ 1 _ rfl;(with_reducible repeat (first|refine blk_drewN ?_ _|refine blk_drew ?_|refine blk_alloc ?_ _));refine blk_put (cs:=#[.int .i64 0,.int .i64 0]) ?_ 0 _ rfl;(with_reducible repeat (first|refine blk_drewN ?_ _|refine blk_drew ?_|refine blk_alloc ?_ _));exact BK382.out) Try.underlying36 rfl Q1) rfl ?_
  exact ⟨Q17,Q148⟩
def impl_moved.l0 : Nat → List (S36) → Int → Int → Int → Int → Int → Int → Option (Int × Int)
 | 0, _, _, _, _, _, _, _ => none
 | k + 1, x17, x18, x19, x386000, x386001, x391000, x391001 => if x19 < x18 then (if 0 ≤ x19 then (if x19 < (x17.length : Int) then ((impl_TimeJoin.f ((rd_T36 x17 x19).f0) ((rd_T36 x17 x19).f1) x386000 x386001).bind fun bt393 => ((impl_TimeMeet.f x391000 x391001 bt393.1 bt393.2).bind fun bt395 => (impl_moved.l0 k x17 x18 (wrap64 (x19 + 1)) x386000 x386001 bt395.1 bt395.2))) else (none)) else (none)) else (some (x391000, x391001))
def impl_moved.f (k : Nat) (l0 : List (S36)) (a1_0 : Int) (a1_1 : Int) : Option (Int × Int) := if (l0.length : Int) = 0 then (some (a1_0, a1_1)) else (if 0 < (l0.length : Int) then ((impl_TimeJoin.f ((rd_T36 l0 0).f0) ((rd_T36 l0 0).f1) a1_0 a1_1).bind fun bt388 => (impl_moved.l0 k l0 (l0.length : Int) 0 a1_0 a1_1 bt388.1 bt388.2)) else (none))
set_option maxHeartbeats 8000000 in
set_option maxRecDepth 100000 in
theorem impl_moved.calls (k : Nat) (A0 : Option Addr) (c0 : Nat) (l0 : List (S36)) (a1_0 : Int) (a1_1 : Int) (r1 : Int) (r2 : Int) (w : World) (hr0 : Kd.C k36 w A0 l0.length l0) (hc0 : l0.length ≤ c0) (h : impl_moved.f k l0 a1_0 a1_1 = some (r1,r2)) :
  Calls Try.prog 85 #[.slice A0 l0.length c0,.agg #[.int .i64 a1_0,.int .i64 a1_1]] w fun e w'=>e = .returned (.agg #[.int .i64 r1,.int .i64 r2]) ∧ Below w.heap.size w w':=by
 have hu36:=Try.underlying36
 have HR0:=Aside0.mk hr0
 have HC0:=Aside0.mk hc0
 clear hr0 hc0
 have HB:=am (Below.refl w.heap.size w)
 have H : (if (l0.length : Int) = 0 then (some (a1_0,a1_1)) else (if 0 < (l0.length : Int) then ((impl_TimeJoin.f ((rd_T36 l0 0).f0) ((rd_T36 l0 0).f1) a1_0 a1_1).bind fun bt388=>(impl_moved.l0 k l0 (l0.length : Int) 0 a1_0 a1_1 bt388.1 bt388.2)) else (none))) = some (r1,r2):=h
 clear h
 by_cases c3 : (l0.length : Int) = 0
 ·rw [if_pos c3] at H
  have c3b0 : ((l0.length : Int) == 0) = true:=beq_iff_eq.mpr c3
  have c3b1 : ((l0.length : Int) != 0) = false:=bne_eq_false_iff_eq.mpr c3
  clear c3
  simp only [Option.some.injEq,Prod.mk.injEq] at H
  obtain ⟨rfl,rfl⟩:=H
  go_enter Try.func85,Try.ntmps85
  go_wp2_with (first|((with_reducible refine gate_dst (N:=3) rfl ?_);refine box_event ?hg (N:=3) ?hd (cs:=#[.int .i64 a1_0,.int .i64 a1_1]) (t:=36) ?hr ?_;(case hd=>rfl);(case hg=>rfl);(case hr=>first|(go_simp;done)|(go_simp;rfl));intro gb385 hg w4 hbox hb;have n0_:=am (below_step Q77 hb);have n1_:=am (hbox);have n2_:=am ((Q167 : w.heap.size ≤ gb385));have n3_:=n2_;clear HB;have HB:=n0_;have BK385:=n1_;have GW385:=n2_;have GE385:=n3_;clear n0_ n1_ n2_ n3_;clear hb hbox hg)|((with_reducible refine gate_dst (N:=4) rfl ?_);refine box_event ?hg (N:=4) ?hd (cs:=#[.int .i64 0,.int .i64 0]) (t:=36) ?hr ?_;(case hd=>rfl);(case hg=>rfl);(case hr=>first|(go_simp;done)|(go_simp;rfl));intro gb386 hg w5 hbox hb;have n0_:=am (blk_below (g:=gb385) (o:=.cells #[.int .i64 a1_0,.int .i64 a1_1] 36 (0,0)) Q60 hb);have n1_:=am (below_step Q99 hb);have n2_:=am (hbox);have n3_:=am ((by rw [hg];exact (below_size Q99) : w.heap.size ≤ gb386));have n4_:=n3_;have n5_:=am ((Q187 : gb385 ≠ gb386));have n6_:=am ((Q188 : gb386 ≠ gb385));clear BK385 HB;have BK385:=n0_;have HB:=n1_;have BK386:=n2_;have GW386:=n3_;have GE386:=n4_;have NB385_386:=n5_;have NB386_385:=n6_;clear n0_ n1_ n2_ n3_ n4_ n5_ n6_;clear hb hbox hg;have hnb6:=NB385_386.out;have hnc6:=NB386_385.out;obtain ⟨hcz7_0,hcz7_1,hfz7_0,hfz7_1⟩:=bx2_ BK385;obtain ⟨hcz8_0,hcz8_1,hfz8_0,hfz8_1⟩:=bx2_ BK386))
  refine bodyPost_ret (results_cell_row rfl _ _ gb386 36 #[.int .i64 a1_0,.int .i64 a1_1] (0,0) _ rfl (by (with_reducible repeat (first|refine blk_drewN ?_ _|refine blk_drew ?_|refine blk_alloc ?_ _));refine blk_put (cs:=#[.int .i64 a1_0,.int .i64 0]) ?_ 1 _ rfl;(with_reducible repeat (first|refine blk_drewN ?_ _|refine blk_drew ?_|refine blk_alloc ?_ _));refine blk_put (cs:=#[.int .i64 0,.int .i64 0]) ?_ 0 _ rfl;(with_reducible repeat (first|refine blk_drewN ?_ _|refine blk_drew ?_|refine blk_alloc ?_ _));exact BK386.out) Try.underlying36 rfl Q1) rfl ?_
  exact ⟨Q17,Q133⟩
 ·rw [if_neg c3] at H
  have c3b0 : ((l0.length : Int) == 0) = false:=beq_eq_false_iff_ne.mpr c3
  have c3b1 : ((l0.length : Int) != 0) = true:=bne_iff_ne.mpr c3
  have c3b2 : ¬ (l0 = []):=fun h_=>c3 (by rw [h_];rfl)
  have c9 : 0 < (l0.length : Int):=nn_ H
  rw [if_pos c9] at H
  have c9b0 : decide (0 < (l0.length : Int)) = true:=decide_eq_true c9
  have c9b1 : decide (0 < l0.length) = true:=decide_eq_true (by omega)
  clear c9
  replace H:=Option.bind_eq_some_iff.mp H
  obtain ⟨⟨t388,t389⟩,A100,H⟩:=H
  replace H : (impl_moved.l0 k l0 (l0.length : Int) 0 a1_0 a1_1 t388 t389) = some (r1,r2):=H
  have A10:=Aside0.mk A100
  clear A100
  have H':=Aside0.mk H
  clear H
  go_enter Try.func85,Try.ntmps85
  try go_wp2_with (first|((with_reducible refine gate_dst (N:=3) rfl ?_);refine box_event ?hg (N:=3) ?hd (cs:=#[.int .i64 a1_0,.int .i64 a1_1]) (t:=36) ?hr ?_;(case hd=>rfl);(case hg=>rfl);(case hr=>first|(go_simp;done)|(go_simp;rfl));intro gb385 hg w11 hbox hb;have n0_:=am (below_step Q77 hb);have n1_:=am (hbox);have n2_:=am ((Q167 : w.heap.size ≤ gb385));have n3_:=n2_;clear HB;have HB:=n0_;have BK385:=n1_;have GW385:=n2_;have GE385:=n3_;clear n0_ n1_ n2_ n3_;clear hb hbox hg)|((with_reducible refine gate_dst (N:=4) rfl ?_);refine box_event ?hg (N:=4) ?hd (cs:=#[.int .i64 0,.int .i64 0]) (t:=36) ?hr ?_;(case hd=>rfl);(case hg=>rfl);(case hr=>first|(go_simp;done)|(go_simp;rfl));intro gb386 hg w12 hbox hb;have n0_:=am (blk_below (g:=gb385) (o:=.cells #[.int .i64 a1_0,.int .i64 a1_1] 36 (0,0)) Q60 hb);have n1_:=am (below_step Q99 hb);have n2_:=am (hbox);have n3_:=am ((by rw [hg];exact (below_size Q99) : w.heap.size ≤ gb386));have n4_:=n3_;have n5_:=am ((Q187 : gb385 ≠ gb386));have n6_:=am ((Q188 : gb386 ≠ gb385));clear BK385 HB;have BK385:=n0_;have HB:=n1_;have BK386:=n2_;have GW386:=n3_;have GE386:=n4_;have NB385_386:=n5_;have NB386_385:=n6_;clear n0_ n1_ n2_ n3_ n4_ n5_ n6_;clear hb hbox hg))
  have n0_:=am (blk_drew BK385.out)
  have n1_:=am (blk_drew BK386.out)
  have n2_:=am (below_drew1 HB.out)
  clear BK385
  clear BK386
  clear HB
  have BK385:=n0_
  have BK386:=n1_
  have HB:=n2_
  clear n0_ n1_ n2_
  have p387 : 0 ≤ (0 : Int):=(by omega)
  have q387 : 0 < (l0.length : Int):=of_decide_eq_true Q6
  obtain ⟨ad387,e387,hx387_0,hx387_1⟩:=at_T36 HR0.out 0 p387 q387
  have hw387_1:=hx387_1
  (try rw [show ((0 : Int)).toNat = 0 from rfl] at hw387_1)
  (try rw [show 0 * 2 = 0 from rfl] at hw387_1)
  (try rw [Addr.add_zero'] at hw387_1)
  have hw387_0:=hx387_0
  (try rw [show ((0 : Int)).toNat = 0 from rfl] at hw387_0)
  (try rw [show 0 * 2 = 0 from rfl] at hw387_0)
  (try rw [Addr.add_zero'] at hw387_0)
  cases e387
  have qi387 : (0 < l0.length) = True:=eq_true (by omega)
  (try rw [show ((0 : Int)).toNat = 0 from rfl] at hx387_0)
  (try rw [show 0 * 2 = 0 from rfl] at hx387_0)
  (try rw [Addr.add_zero'] at hx387_0)
  (try rw [show ((0 : Int)).toNat = 0 from rfl] at hx387_1)
  (try rw [show 0 * 2 = 0 from rfl] at hx387_1)
  (try rw [Addr.add_zero'] at hx387_1)
  replace hx387_0:=cb_ HB hx387_0
  replace hx387_1:=cb_ HB hx387_1
  replace p387:=eq_true p387
  replace q387:=eq_true q387
  refine start_ (n:=7) (S:=fun w'=>w'.cell? ⟨gb385,0,none⟩ = some (.int .i64 a1_0) ∧ w'.cell? ⟨gb385,1,none⟩ = some (.int .i64 a1_1) ∧ w'.cell? ad387 = some (.int .i64 ((rd_T36 l0 0).f0)) ∧ w'.cell? ⟨ad387.block,ad387.off + 1,none⟩ = some (.int .i64 ((rd_T36 l0 0).f1))) (ds:=[]) b7_0 Q1 rfl rfl ⟨(blk_cell BK385.out 0).trans rfl,(blk_cell BK385.out 1).trans rfl,(cb_ HB hw387_0:),(cb_ HB hw387_1:)⟩ (fun hHeld=>?_)
  generalize w12.drew = w13 at BK385 BK386 HB hx387_0 hx387_1 hHeld ⊢
  refine pU_ 0 12 b7_1 ?_
  refine pU_ 1 13 b7_2 ?_
  refine tU_ 2 14 b7_3 hHeld ?_
  refine tU_ 3 15 b7_4 hHeld ?_
  refine join_ (σ:=Nat) 1 b7_6 (fun s_=>[(16,.agg #[.int .i64 t388,.int .i64 t389]),(5,.pointer (some ⟨s_,0,none⟩))]) (fun s_ w'=>(w'.cell? ⟨gb385,0,none⟩ = some (.int .i64 a1_0) ∧ w'.cell? ⟨gb385,1,none⟩ = some (.int .i64 a1_1) ∧ w'.cell? ad387 = some (.int .i64 ((rd_T36 l0 0).f0)) ∧ w'.cell? ⟨ad387.block,ad387.off + 1,none⟩ = some (.int .i64 ((rd_T36 l0 0).f1))) ∧ (w'.heap[gb385]? = some (.cells #[.int .i64 a1_0,.int .i64 a1_1] 36 (0,0))) ∧ (w'.heap[gb386]? = some (.cells #[.int .i64 0,.int .i64 0] 36 (0,0))) ∧ (w'.heap[s_]? = some (.cells #[.int .i64 0,.int .i64 0] 36 (0,0))) ∧ (w.heap.size ≤ s_) ∧ (w.heap.size ≤ s_) ∧ (gb385 ≠ s_) ∧ (s_ ≠ gb385) ∧ (gb386 ≠ s_) ∧ (s_ ≠ gb386) ∧ (Below w.heap.size w w')) ?_ ?_
  rotate_left
  ·intro hCont
   refine two_ (i:=4) (j:=5) (Ni:=some 16) (Nj:=some 5) b7_5 c90 rfl rfl rfl rfl Q1 Q0 Q0 (fun K hK=>?_) (fun K hK=>?_)
   ·skip
    refine goes_ Try.func98 Q1 rfl #[.agg #[.int .i64 ((rd_T36 l0 0).f0),.int .i64 ((rd_T36 l0 0).f1)],.agg #[.int .i64 a1_0,.int .i64 a1_1]] (by rfl) rfl rfl Q79 ?_
    with_reducible refine (impl_TimeJoin.calls ((rd_T36 l0 0).f0) ((rd_T36 l0 0).f1) a1_0 a1_1 t388 t389 _ A10.out).mono ?_
    rintro e w14 ⟨rfl,hb⟩
    refine ⟨_,rfl,?_⟩
    have n0_:=am (blk_below (g:=gb385) (o:=.cells #[.int .i64 a1_0,.int .i64 a1_1] 36 (0,0)) Q60 hb)
    have n1_:=am (blk_below (g:=gb386) (o:=.cells #[.int .i64 0,.int .i64 0] 36 (0,0)) Q61 hb)
    have n2_:=am (below_step Q133 hb)
    clear BK385
    clear BK386
    clear HB
    have BK385:=n0_
    have BK386:=n1_
    have HB:=n2_
    clear n0_ n1_ n2_
    (try clear hb)
    (try clear hb2)
    (try clear hk)
    (try clear hi)
    refine hK.out _ _ ⟨(blk_cell BK385.out 0).trans rfl,(blk_cell BK385.out 1).trans rfl,(cb_ HB hw387_0:),(cb_ HB hw387_1:)⟩ (fun hHeld=>?_)
    clear hK K
    refine norm_ (a':=?_) ?_ ?_
    rotate_left
    ·show Act.put _ (some 16) _ = _
     simp only [Act.put,sA_,sZ_,sS_,i64_w,i32_w]
     rfl
    refine one_ (i:=5) (N:=some 5) b7_6 rfl rfl Q1 Q0 (fun K hK=>?_)
    refine box_step ?hg (N:=5) ?hd (cs:=#[.int .i64 0,.int .i64 0]) (t:=36) ?hr ?_;(case hd=>rfl);(case hg=>rfl);(case hr=>first|(go_simp;done)|(go_simp;rfl))
    intro gb390 hg w15 hbox hb
    have n0_:=am (blk_below (g:=gb385) (o:=.cells #[.int .i64 a1_0,.int .i64 a1_1] 36 (0,0)) Q60 hb)
    have n1_:=am (blk_below (g:=gb386) (o:=.cells #[.int .i64 0,.int .i64 0] 36 (0,0)) Q61 hb)
    have n2_:=am (below_step Q133 hb)
    have n3_:=am (hbox)
    have n4_:=am ((by rw [hg];exact (below_size Q133) : w.heap.size ≤ gb390))
    have n5_:=am ((by rw [hg];exact (below_size Q133) : w.heap.size ≤ gb390))
    have n6_:=am ((Q187 : gb385 ≠ gb390))
    have n7_:=am ((Q188 : gb390 ≠ gb385))
    have n8_:=am ((Q173 : gb386 ≠ gb390))
    have n9_:=am ((Q174 : gb390 ≠ gb386))
    clear BK385
    clear BK386
    clear HB
    have BK385:=n0_
    have BK386:=n1_
    have HB:=n2_
    have BK390:=n3_
    have GW390:=n4_
    have GE390:=n5_
    have NB385_390:=n6_
    have NB390_385:=n7_
    have NB386_390:=n8_
    have NB390_386:=n9_
    clear n0_ n1_ n2_ n3_ n4_ n5_ n6_ n7_ n8_ n9_
    clear hb hbox hg
    refine hK.out _ _ ⟨(blk_cell BK385.out 0).trans rfl,(blk_cell BK385.out 1).trans rfl,(cb_ HB hw387_0:),(cb_ HB hw387_1:)⟩ (fun hHeld=>?_)
    clear hK K
    refine norm_ (a':=?_) ?_ ?_
    rotate_left
    ·show Act.put _ (some 5) _ = _
     simp only [Act.put,sA_,sZ_,sS_,i64_w,i32_w]
     rfl
    exact norm_ Q18 (hCont (gb390) _ ⟨hHeld,Q60,Q61,Q62,GW390.out,GE390.out,NB385_390.out,NB390_385.out,NB386_390.out,NB390_386.out,Q149⟩)
   ·skip
    refine box_step ?hg (N:=5) ?hd (cs:=#[.int .i64 0,.int .i64 0]) (t:=36) ?hr ?_;(case hd=>rfl);(case hg=>rfl);(case hr=>first|(go_simp;done)|(go_simp;rfl))
    intro gb390 hg w14 hbox hb
    have n0_:=am (blk_below (g:=gb385) (o:=.cells #[.int .i64 a1_0,.int .i64 a1_1] 36 (0,0)) Q60 hb)
    have n1_:=am (blk_below (g:=gb386) (o:=.cells #[.int .i64 0,.int .i64 0] 36 (0,0)) Q61 hb)
    have n2_:=am (below_step Q133 hb)
    have n3_:=am (hbox)
    have n4_:=am ((by rw [hg];exact (below_size Q133) : w.heap.size ≤ gb390))
    have n5_:=am ((by rw [hg];exact (below_size Q133) : w.heap.size ≤ gb390))
    have n6_:=am ((Q187 : gb385 ≠ gb390))
    have n7_:=am ((Q188 : gb390 ≠ gb385))
    have n8_:=am ((Q173 : gb386 ≠ gb390))
    have n9_:=am ((Q174 : gb390 ≠ gb386))
    clear BK385
    clear BK386
    clear HB
    have BK385:=n0_
    have BK386:=n1_
    have HB:=n2_
    have BK390:=n3_
    have GW390:=n4_
    have GE390:=n5_
    have NB385_390:=n6_
    have NB390_385:=n7_
    have NB386_390:=n8_
    have NB390_386:=n9_
    clear n0_ n1_ n2_ n3_ n4_ n5_ n6_ n7_ n8_ n9_
    clear hb hbox hg
    refine hK.out _ _ ⟨(blk_cell BK385.out 0).trans rfl,(blk_cell BK385.out 1).trans rfl,(cb_ HB hw387_0:),(cb_ HB hw387_1:)⟩ (fun hHeld=>?_)
    clear hK K
    refine norm_ (a':=?_) ?_ ?_
    rotate_left
    ·show Act.put _ (some 5) _ = _
     simp only [Act.put,sA_,sZ_,sS_,i64_w,i32_w]
     rfl
    refine one_ (i:=4) (N:=some 16) b7_6 rfl rfl Q1 Q0 (fun K hK=>?_)
    refine goes_ Try.func98 Q1 rfl #[.agg #[.int .i64 ((rd_T36 l0 0).f0),.int .i64 ((rd_T36 l0 0).f1)],.agg #[.int .i64 a1_0,.int .i64 a1_1]] (by rfl) rfl rfl Q79 ?_
    with_reducible refine (impl_TimeJoin.calls ((rd_T36 l0 0).f0) ((rd_T36 l0 0).f1) a1_0 a1_1 t388 t389 _ A10.out).mono ?_
    rintro e w15 ⟨rfl,hb⟩
    refine ⟨_,rfl,?_⟩
    have n0_:=am (blk_below (g:=gb385) (o:=.cells #[.int .i64 a1_0,.int .i64 a1_1] 36 (0,0)) Q60 hb)
    have n1_:=am (blk_below (g:=gb386) (o:=.cells #[.int .i64 0,.int .i64 0] 36 (0,0)) Q61 hb)
    have n2_:=am (blk_below (g:=gb390) (o:=.cells #[.int .i64 0,.int .i64 0] 36 (0,0)) Q62 hb)
    have n3_:=am (below_step Q149 hb)
    clear BK385
    clear BK386
    clear BK390
    clear HB
    have BK385:=n0_
    have BK386:=n1_
    have BK390:=n2_
    have HB:=n3_
    clear n0_ n1_ n2_ n3_
    (try clear hb)
    (try clear hb2)
    (try clear hk)
    (try clear hi)
    refine hK.out _ _ ⟨(blk_cell BK385.out 0).trans rfl,(blk_cell BK385.out 1).trans rfl,(cb_ HB hw387_0:),(cb_ HB hw387_1:)⟩ (fun hHeld=>?_)
    clear hK K
    refine norm_ (a':=?_) ?_ ?_
    rotate_left
    ·show Act.put _ (some 16) _ = _
     simp only [Act.put,sA_,sZ_,sS_,i64_w,i32_w]
     rfl
    exact norm_ Q18 (hCont (gb390) _ ⟨hHeld,Q60,Q61,Q62,GW390.out,GE390.out,NB385_390.out,NB390_385.out,NB386_390.out,NB390_386.out,Q149⟩)
  rintro gb390 w16 ⟨hS_,h0_,h1_,h2_,h3_,h4_,h5_,h6_,h7_,h8_,h9_⟩
  have n0_ : Aside0 (w16.heap[gb385]? = some (.cells #[.int .i64 a1_0,.int .i64 a1_1] 36 (0,0))):=⟨h0_⟩
  have n1_ : Aside0 (w16.heap[gb386]? = some (.cells #[.int .i64 0,.int .i64 0] 36 (0,0))):=⟨h1_⟩
  have n2_ : Aside0 (w16.heap[gb390]? = some (.cells #[.int .i64 0,.int .i64 0] 36 (0,0))):=⟨h2_⟩
  have n3_ : Aside0 (w.heap.size ≤ gb390):=⟨h3_⟩
  have n4_ : Aside0 (w.heap.size ≤ gb390):=⟨h4_⟩
  have n5_ : Aside0 (gb385 ≠ gb390):=⟨h5_⟩
  have n6_ : Aside0 (gb390 ≠ gb385):=⟨h6_⟩
  have n7_ : Aside0 (gb386 ≠ gb390):=⟨h7_⟩
  have n8_ : Aside0 (gb390 ≠ gb386):=⟨h8_⟩
  have n9_ : Aside0 (Below w.heap.size w w16):=⟨h9_⟩
  clear BK385
  clear BK386
  clear HB
  clear h0_ h1_ h2_ h3_ h4_ h5_ h6_ h7_ h8_ h9_
  have BK385:=n0_
  have BK386:=n1_
  have BK390:=n2_
  have GW390:=n3_
  have GE390:=n4_
  have NB385_390:=n5_
  have NB390_385:=n6_
  have NB386_390:=n7_
  have NB390_386:=n8_
  have HB:=n9_
  clear n0_ n1_ n2_ n3_ n4_ n5_ n6_ n7_ n8_ n9_
  have hHeld : w16.cell? ⟨gb385,0,none⟩ = some (.int .i64 a1_0) ∧ w16.cell? ⟨gb385,1,none⟩ = some (.int .i64 a1_1) ∧ w16.cell? ad387 = some (.int .i64 ((rd_T36 l0 0).f0)) ∧ w16.cell? ⟨ad387.block,ad387.off + 1,none⟩ = some (.int .i64 ((rd_T36 l0 0).f1)):=hS_
  refine norm_ (a':=?_) ?_ ?_
  rotate_left
  ·simp only [putAll,Act.put,sA_,sZ_,sS_]
   rfl
  refine one_ (i:=6) (N:=none) b7_7 rfl rfl Q1 Q0 (fun K hK=>?_)
  have hs17 : w16.cell? ⟨gb390,0,none⟩ = some (.int .i64 0):=(blk_cell BK390.out 0).trans rfl
  have hfs17:=blk_frozen BK390.out 0
  have hns17_0:=NB385_390.out
  have hns17_1:=NB386_390.out
  have hms17_0:=NB390_385.out
  have hms17_1:=NB390_386.out
  have hs18 : w16.cell? ⟨gb390,1,none⟩ = some (.int .i64 0):=(blk_cell BK390.out 1).trans rfl
  have hfs18:=blk_frozen BK390.out 1
  have hns18_0:=NB385_390.out
  have hns18_1:=NB386_390.out
  have hms18_0:=NB390_385.out
  have hms18_1:=NB390_386.out
  refine skip_ (w1:=?_) (by rfl) rfl ?_ ?_
  rotate_left
  ·go_simp
   rfl
  refine hK.out _ _ ⟨((cell_far (p:=⟨gb390,_,none⟩) NB385_390.out _).trans (((cell_far (p:=⟨gb390,_,none⟩) NB385_390.out _).trans (hHeld.1)))),((cell_far (p:=⟨gb390,_,none⟩) NB385_390.out _).trans (((cell_far (p:=⟨gb390,_,none⟩) NB385_390.out _).trans (hHeld.2.1)))),((cell_far (p:=⟨gb390,_,none⟩) (by first|exact Nat.ne_of_lt (Nat.lt_of_lt_of_le Q13 GW390.out)|(rw [add_block];exact Nat.ne_of_lt (Nat.lt_of_lt_of_le Q13 GW390.out))|(show (Addr.add _ _).block ≠ _;rw [add_block];exact Nat.ne_of_lt (Nat.lt_of_lt_of_le Q13 GW390.out))|(dsimp only;exact Nat.ne_of_lt (Nat.lt_of_lt_of_le Q13 GW390.out))) _).trans (((cell_far (p:=⟨gb390,_,none⟩) (by first|exact Nat.ne_of_lt (Nat.lt_of_lt_of_le Q13 GW390.out)|(rw [add_block];exact Nat.ne_of_lt (Nat.lt_of_lt_of_le Q13 GW390.out))|(show (Addr.add _ _).block ≠ _;rw [add_block];exact Nat.ne_of_lt (Nat.lt_of_lt_of_le Q13 GW390.out))|(dsimp only;exact Nat.ne_of_lt (Nat.lt_of_lt_of_le Q13 GW390.out))) _).trans (hHeld.2.2.1)))),((cell_far (p:=⟨gb390,_,none⟩) (by first|exact Nat.ne_of_lt (Nat.lt_of_lt_of_le Q14 GW390.out)|(rw [add_block];exact Nat.ne_of_lt (Nat.lt_of_lt_of_le Q14 GW390.out))|(show (Addr.add _ _).block ≠ _;rw [add_block];exact Nat.ne_of_lt (Nat.lt_of_lt_of_le Q14 GW390.out))|(dsimp only;exact Nat.ne_of_lt (Nat.lt_of_lt_of_le Q14 GW390.out))) _).trans (((cell_far (p:=⟨gb390,_,none⟩) (by first|exact Nat.ne_of_lt (Nat.lt_of_lt_of_le Q14 GW390.out)|(rw [add_block];exact Nat.ne_of_lt (Nat.lt_of_lt_of_le Q14 GW390.out))|(show (Addr.add _ _).block ≠ _;rw [add_block];exact Nat.ne_of_lt (Nat.lt_of_lt_of_le Q14 GW390.out))|(dsimp only;exact Nat.ne_of_lt (Nat.lt_of_lt_of_le Q14 GW390.out))) _).trans (hHeld.2.2.2))))⟩ (fun hHeld=>?_)
  clear hK K
  refine done_ Q1 ?_
  try go_wp2
  go_loopg [19] k (fun kq v19 w'=>∃ (x19_1 : Int) (x391000_1 : Int) (x391001_1 : Int),v19 = .int .i64 x19_1 ∧ Aside0 (impl_moved.l0 kq l0 (l0.length : Int) x19_1 a1_0 a1_1 x391000_1 x391001_1 = some (r1,r2)) ∧ Aside0 (kq ≤ k) ∧ Aside0 (w'.heap[gb385]? = some (.cells #[.int .i64 a1_0,.int .i64 a1_1] 36 (0,0))) ∧ Aside0 (w'.heap[gb386]? = some (.cells #[.int .i64 0,.int .i64 0] 36 (0,0))) ∧ Aside0 (w'.heap[gb390]? = some (.cells #[.int .i64 x391000_1,.int .i64 x391001_1] 36 (0,0))) ∧ Aside0 (Below w.heap.size w w'))
  case atStart=>exact ⟨(0),(t388),(t389),Q5,H',⟨Nat.le_refl _⟩,⟨by (with_reducible repeat (first|refine blk_drewN ?_ _|refine blk_drew ?_|refine blk_alloc ?_ _));refine blk_far ?_ NB385_390.out _;(with_reducible repeat (first|refine blk_drewN ?_ _|refine blk_drew ?_|refine blk_alloc ?_ _));refine blk_far ?_ NB385_390.out _;(with_reducible repeat (first|refine blk_drewN ?_ _|refine blk_drew ?_|refine blk_alloc ?_ _));exact BK385.out⟩,⟨by (with_reducible repeat (first|refine blk_drewN ?_ _|refine blk_drew ?_|refine blk_alloc ?_ _));refine blk_far ?_ NB386_390.out _;(with_reducible repeat (first|refine blk_drewN ?_ _|refine blk_drew ?_|refine blk_alloc ?_ _));refine blk_far ?_ NB386_390.out _;(with_reducible repeat (first|refine blk_drewN ?_ _|refine blk_drew ?_|refine blk_alloc ?_ _));exact BK386.out⟩,⟨by (with_reducible repeat (first|refine blk_drewN ?_ _|refine blk_drew ?_|refine blk_alloc ?_ _));refine blk_put (cs:=#[.int .i64 t388,.int .i64 0]) ?_ 1 _ rfl;(with_reducible repeat (first|refine blk_drewN ?_ _|refine blk_drew ?_|refine blk_alloc ?_ _));refine blk_put (cs:=#[.int .i64 0,.int .i64 0]) ?_ 0 _ rfl;(with_reducible repeat (first|refine blk_drewN ?_ _|refine blk_drew ?_|refine blk_alloc ?_ _));exact BK390.out⟩,⟨Q149⟩⟩
  case round =>
   clear H'
   try clear p2
   try clear c3
   try clear c3b0
   try clear c3b1
   try clear c3b2
   try clear p3
   try clear q3
   try clear hx3
   try clear qi3
   try clear c6
   try clear c8
   try clear c9
   try clear c9b0
   try clear c9b1
   try clear hcz7_0
   try clear hcz7_1
   try clear hcz8_0
   try clear hcz8_1
   try clear hfz7_0
   try clear hfz7_1
   try clear hfz8_0
   try clear hfz8_1
   try clear hx387_0
   try clear hx387_1
   try clear p387
   try clear q387
   obtain ⟨x19_1,x391000_1,x391001_1,rfl,HA,HK1,BK385,BK386,BK390,HB⟩:=hrel
   cases gk with
   | zero=>exact absurd HA.out (by simp [impl_moved.l0])
   | succ k1 =>
    have H:=HA.out
    clear HA
    simp only [impl_moved.l0] at H
    by_cases c19 : x19_1 < (l0.length : Int)
    ·rw [if_pos c19] at H
     have c19b0 : decide (x19_1 < (l0.length : Int)) = true:=decide_eq_true c19
     clear c19
     have c20 : 0 ≤ x19_1:=nn_ H
     rw [if_pos c20] at H
     have c20b0 : decide (0 ≤ x19_1) = true:=decide_eq_true c20
     clear c20
     have c21 : x19_1 < (l0.length : Int):=nn_ H
     rw [if_pos c21] at H
     have c21b0 : decide (x19_1 < (l0.length : Int)) = true:=decide_eq_true c21
     clear c21
     replace H:=Option.bind_eq_some_iff.mp H
     obtain ⟨⟨t393,t394⟩,A220,H⟩:=H
     replace H : ((impl_TimeMeet.f x391000_1 x391001_1 t393 t394).bind fun bt395=>(impl_moved.l0 k1 l0 (l0.length : Int) (wrap64 (x19_1 + 1)) a1_0 a1_1 bt395.1 bt395.2)) = some (r1,r2):=H
     have A22:=Aside0.mk A220
     clear A220
     replace H:=Option.bind_eq_some_iff.mp H
     obtain ⟨⟨t395,t396⟩,A230,H⟩:=H
     replace H : (impl_moved.l0 k1 l0 (l0.length : Int) (wrap64 (x19_1 + 1)) a1_0 a1_1 t395 t396) = some (r1,r2):=H
     have A23:=Aside0.mk A230
     clear A230
     have H':=Aside0.mk H
     clear H
     have p391 : 0 ≤ (x19_1 : Int):=of_decide_eq_true Q6
     have q391 : x19_1 < (l0.length : Int):=of_decide_eq_true Q6
     obtain ⟨ad391,e391,hx391_0,hx391_1⟩:=at_T36 HR0.out x19_1 p391 q391
     obtain rfl : ad387 = ad391:=(by injection e391)
     replace hx391_0:=cb_ HB hx391_0
     replace hx391_1:=cb_ HB hx391_1
     replace p391:=eq_true p391
     replace q391:=eq_true q391
     try go_wp2_with (first|((with_reducible refine gate_dst (N:=7) rfl ?_);refine box_event ?hg (N:=7) ?hd (cs:=#[.int .i64 0,.int .i64 0]) (t:=36) ?hr ?_;(case hd=>rfl);(case hg=>rfl);(case hr=>first|(go_simp;done)|(go_simp;rfl));intro gb392 hg w24 hbox hb;have n0_:=am (blk_below (g:=gb385) (o:=.cells #[.int .i64 a1_0,.int .i64 a1_1] 36 (0,0)) Q60 hb);have n1_:=am (blk_below (g:=gb386) (o:=.cells #[.int .i64 0,.int .i64 0] 36 (0,0)) Q61 hb);have n2_:=am (blk_below (g:=gb390) (o:=.cells #[.int .i64 x391000_1,.int .i64 x391001_1] 36 (0,0)) Q62 hb);have n3_:=am (below_step Q149 hb);have n4_:=am (hbox);have n5_:=am ((by rw [hg];exact (below_size Q149) : w.heap.size ≤ gb392));have n6_:=n5_;have n7_:=am ((Q187 : gb385 ≠ gb392));have n8_:=am ((Q188 : gb392 ≠ gb385));have n9_:=am ((Q173 : gb386 ≠ gb392));have n10_:=am ((Q174 : gb392 ≠ gb386));have n11_:=am ((by rw [hg];exact Nat.ne_of_lt (blk_lt (g:=gb390) (o:=.cells #[.int .i64 x391000_1,.int .i64 x391001_1] 36 (0,0)) Q62) : gb390 ≠ gb392));have n12_:=am ((by rw [hg];exact Nat.ne_of_gt (blk_lt (g:=gb390) (o:=.cells #[.int .i64 x391000_1,.int .i64 x391001_1] 36 (0,0)) Q62) : gb392 ≠ gb390));clear BK385 BK386 BK390 HB;have BK385:=n0_;have BK386:=n1_;have BK390:=n2_;have HB:=n3_;have BK392:=n4_;have GW392:=n5_;have GE392:=n6_;have NB385_392:=n7_;have NB392_385:=n8_;have NB386_392:=n9_;have NB392_386:=n10_;have NB390_392:=n11_;have NB392_390:=n12_;clear n0_ n1_ n2_ n3_ n4_ n5_ n6_ n7_ n8_ n9_ n10_ n11_ n12_;clear hb hbox hg;have hnb25:=NB392_385.out;have hnc25:=NB385_392.out;have hnb26:=NB392_386.out;have hnc26:=NB386_392.out;have hnb27:=NB392_390.out;have hnc27:=NB390_392.out;obtain ⟨hcz28_0,hcz28_1,hfz28_0,hfz28_1⟩:=bx2_ BK392))
     have n0_ : Aside0 (((w24.setCell ⟨gb392,0,none⟩ (.int .i64 ((rd_T36 l0 x19_1).f0))).setCell ⟨gb392,1,none⟩ (.int .i64 ((rd_T36 l0 x19_1).f1))).heap[gb385]? = some (.cells #[.int .i64 a1_0,.int .i64 a1_1] 36 (0,0))):=⟨by (with_reducible repeat (first|refine blk_drewN ?_ _|refine blk_drew ?_|refine blk_alloc ?_ _));refine blk_far ?_ NB385_392.out _;(with_reducible repeat (first|refine blk_drewN ?_ _|refine blk_drew ?_|refine blk_alloc ?_ _));refine blk_far ?_ NB385_392.out _;(with_reducible repeat (first|refine blk_drewN ?_ _|refine blk_drew ?_|refine blk_alloc ?_ _));exact BK385.out⟩
     have n1_ : Aside0 (((w24.setCell ⟨gb392,0,none⟩ (.int .i64 ((rd_T36 l0 x19_1).f0))).setCell ⟨gb392,1,none⟩ (.int .i64 ((rd_T36 l0 x19_1).f1))).heap[gb386]? = some (.cells #[.int .i64 0,.int .i64 0] 36 (0,0))):=⟨by (with_reducible repeat (first|refine blk_drewN ?_ _|refine blk_drew ?_|refine blk_alloc ?_ _));refine blk_far ?_ NB386_392.out _;(with_reducible repeat (first|refine blk_drewN ?_ _|refine blk_drew ?_|refine blk_alloc ?_ _));refine blk_far ?_ NB386_392.out _;(with_reducible repeat (first|refine blk_drewN ?_ _|refine blk_drew ?_|refine blk_alloc ?_ _));exact BK386.out⟩
     have n2_ : Aside0 (((w24.setCell ⟨gb392,0,none⟩ (.int .i64 ((rd_T36 l0 x19_1).f0))).setCell ⟨gb392,1,none⟩ (.int .i64 ((rd_T36 l0 x19_1).f1))).heap[gb390]? = some (.cells #[.int .i64 x391000_1,.int .i64 x391001_1] 36 (0,0))):=⟨by (with_reducible repeat (first|refine blk_drewN ?_ _|refine blk_drew ?_|refine blk_alloc ?_ _));refine blk_far ?_ NB390_392.out _;(with_reducible repeat (first|refine blk_drewN ?_ _|refine blk_drew ?_|refine blk_alloc ?_ _));refine blk_far ?_ NB390_392.out _;(with_reducible repeat (first|refine blk_drewN ?_ _|refine blk_drew ?_|refine blk_alloc ?_ _));exact BK390.out⟩
     have n3_ : Aside0 (((w24.setCell ⟨gb392,0,none⟩ (.int .i64 ((rd_T36 l0 x19_1).f0))).setCell ⟨gb392,1,none⟩ (.int .i64 ((rd_T36 l0 x19_1).f1))).heap[gb392]? = some (.cells #[.int .i64 ((rd_T36 l0 x19_1).f0),.int .i64 ((rd_T36 l0 x19_1).f1)] 36 (0,0))):=⟨by (with_reducible repeat (first|refine blk_drewN ?_ _|refine blk_drew ?_|refine blk_alloc ?_ _));refine blk_put (cs:=#[.int .i64 ((rd_T36 l0 x19_1).f0),.int .i64 0]) ?_ 1 _ rfl;(with_reducible repeat (first|refine blk_drewN ?_ _|refine blk_drew ?_|refine blk_alloc ?_ _));refine blk_put (cs:=#[.int .i64 0,.int .i64 0]) ?_ 0 _ rfl;(with_reducible repeat (first|refine blk_drewN ?_ _|refine blk_drew ?_|refine blk_alloc ?_ _));exact BK392.out⟩
     have n4_ : Aside0 (Below w.heap.size w ((w24.setCell ⟨gb392,0,none⟩ (.int .i64 ((rd_T36 l0 x19_1).f0))).setCell ⟨gb392,1,none⟩ (.int .i64 ((rd_T36 l0 x19_1).f1)))):=⟨Q155⟩
     (try clear BK385)
     (try clear BK386)
     (try clear BK390)
     (try clear BK392)
     (try clear HB)
     generalize ((w24.setCell ⟨gb392,0,none⟩ (.int .i64 ((rd_T36 l0 x19_1).f0))).setCell ⟨gb392,1,none⟩ (.int .i64 ((rd_T36 l0 x19_1).f1))) = w29 at n0_ n1_ n2_ n3_ n4_ ⊢
     have BK385:=n0_
     have BK386:=n1_
     have BK390:=n2_
     have BK392:=n3_
     have HB:=n4_
     clear n0_ n1_ n2_ n3_ n4_
     have n0_:=am (blk_drew BK385.out)
     have n1_:=am (blk_drew BK386.out)
     have n2_:=am (blk_drew BK390.out)
     have n3_:=am (blk_drew BK392.out)
     have n4_:=am (below_drew1 HB.out)
     clear BK385
     clear BK386
     clear BK390
     clear BK392
     clear HB
     have BK385:=n0_
     have BK386:=n1_
     have BK390:=n2_
     have BK392:=n3_
     have HB:=n4_
     clear n0_ n1_ n2_ n3_ n4_
     refine start_ (n:=6) (S:=fun w'=>w'.cell? ⟨gb390,0,none⟩ = some (.int .i64 x391000_1) ∧ w'.cell? ⟨gb390,1,none⟩ = some (.int .i64 x391001_1) ∧ w'.cell? ⟨gb392,0,none⟩ = some (.int .i64 ((rd_T36 l0 x19_1).f0)) ∧ w'.cell? ⟨gb392,1,none⟩ = some (.int .i64 ((rd_T36 l0 x19_1).f1)) ∧ w'.cell? ⟨gb385,0,none⟩ = some (.int .i64 a1_0) ∧ w'.cell? ⟨gb385,1,none⟩ = some (.int .i64 a1_1)) (ds:=[5]) b6_0 Q1 rfl rfl ⟨(blk_cell BK390.out 0).trans rfl,(blk_cell BK390.out 1).trans rfl,(blk_cell BK392.out 0).trans rfl,(blk_cell BK392.out 1).trans rfl,(blk_cell BK385.out 0).trans rfl,(blk_cell BK385.out 1).trans rfl⟩ (fun hHeld=>?_)
     generalize w29.drew = w30 at BK385 BK386 BK390 BK392 HB hHeld ⊢
     refine tU_ 0 23 b6_1 hHeld ?_
     refine tU_ 1 24 b6_2 hHeld ?_
     refine tU_ 2 25 b6_3 hHeld ?_
     refine one_ (i:=3) (N:=some 26) b6_4 rfl rfl Q1 Q0 (fun K hK=>?_)
     refine goes_ Try.func98 Q1 rfl #[.agg #[.int .i64 ((rd_T36 l0 x19_1).f0),.int .i64 ((rd_T36 l0 x19_1).f1)],.agg #[.int .i64 a1_0,.int .i64 a1_1]] (by rfl) rfl rfl Q79 ?_
     with_reducible refine (impl_TimeJoin.calls ((rd_T36 l0 x19_1).f0) ((rd_T36 l0 x19_1).f1) a1_0 a1_1 t393 t394 _ A22.out).mono ?_
     rintro e w31 ⟨rfl,hb⟩
     refine ⟨_,rfl,?_⟩
     have n0_:=am (blk_below (g:=gb385) (o:=.cells #[.int .i64 a1_0,.int .i64 a1_1] 36 (0,0)) Q60 hb)
     have n1_:=am (blk_below (g:=gb386) (o:=.cells #[.int .i64 0,.int .i64 0] 36 (0,0)) Q61 hb)
     have n2_:=am (blk_below (g:=gb390) (o:=.cells #[.int .i64 x391000_1,.int .i64 x391001_1] 36 (0,0)) Q62 hb)
     have n3_:=am (blk_below (g:=gb392) (o:=.cells #[.int .i64 ((rd_T36 l0 x19_1).f0),.int .i64 ((rd_T36 l0 x19_1).f1)] 36 (0,0)) (by (with_reducible repeat (first|refine blk_drewN ?_ _|refine blk_drew ?_|refine blk_alloc ?_ _));exact BK392.out) hb)
     have n4_:=am (below_step Q155 hb)
     clear BK385
     clear BK386
     clear BK390
     clear BK392
     clear HB
     have BK385:=n0_
     have BK386:=n1_
     have BK390:=n2_
     have BK392:=n3_
     have HB:=n4_
     clear n0_ n1_ n2_ n3_ n4_
     (try clear hb)
     (try clear hb2)
     (try clear hk)
     (try clear hi)
     refine hK.out _ _ ⟨(blk_cell BK390.out 0).trans rfl,(blk_cell BK390.out 1).trans rfl,(blk_cell BK392.out 0).trans rfl,(blk_cell BK392.out 1).trans rfl,(blk_cell BK385.out 0).trans rfl,(blk_cell BK385.out 1).trans rfl⟩ (fun hHeld=>?_)
     clear hK K
     refine norm_ (a':=?_) ?_ ?_
     rotate_left
     ·show Act.put _ (some 26) _ = _
      simp only [Act.put,sA_,sZ_,sS_,i64_w,i32_w]
      rfl
     refine one_ (i:=4) (N:=some 27) b6_5 rfl rfl Q1 Q0 (fun K hK=>?_)
     refine goes_ Try.func99 Q1 rfl #[.agg #[.int .i64 x391000_1,.int .i64 x391001_1],.agg #[.int .i64 t393,.int .i64 t394]] (by rfl) rfl rfl Q79 ?_
     with_reducible refine (impl_TimeMeet.calls x391000_1 x391001_1 t393 t394 t395 t396 _ A23.out).mono ?_
     rintro e w32 ⟨rfl,hb⟩
     refine ⟨_,rfl,?_⟩
     have n0_:=am (blk_below (g:=gb385) (o:=.cells #[.int .i64 a1_0,.int .i64 a1_1] 36 (0,0)) Q60 hb)
     have n1_:=am (blk_below (g:=gb386) (o:=.cells #[.int .i64 0,.int .i64 0] 36 (0,0)) Q61 hb)
     have n2_:=am (blk_below (g:=gb390) (o:=.cells #[.int .i64 x391000_1,.int .i64 x391001_1] 36 (0,0)) Q62 hb)
     have n3_:=am (blk_below (g:=gb392) (o:=.cells #[.int .i64 ((rd_T36 l0 x19_1).f0),.int .i64 ((rd_T36 l0 x19_1).f1)] 36 (0,0)) (by (with_reducible repeat (first|refine blk_drewN ?_ _|refine blk_drew ?_|refine blk_alloc ?_ _));exact BK392.out) hb)
     have n4_:=am (below_step Q155 hb)
     clear BK385
     clear BK386
     clear BK390
     clear BK392
     clear HB
     have BK385:=n0_
     have BK386:=n1_
     have BK390:=n2_
     have BK392:=n3_
     have HB:=n4_
     clear n0_ n1_ n2_ n3_ n4_
     (try clear hb)
     (try clear hb2)
     (try clear hk)
     (try clear hi)
     refine hK.out _ _ ⟨(blk_cell BK390.out 0).trans rfl,(blk_cell BK390.out 1).trans rfl,(blk_cell BK392.out 0).trans rfl,(blk_cell BK392.out 1).trans rfl,(blk_cell BK385.out 0).trans rfl,(blk_cell BK385.out 1).trans rfl⟩ (fun hHeld=>?_)
     clear hK K
     refine norm_ (a':=?_) ?_ ?_
     rotate_left
     ·show Act.put _ (some 27) _ = _
      simp only [Act.put,sA_,sZ_,sS_,i64_w,i32_w]
      rfl
     refine last_ (i:=5) (N:=none) b6_6 rfl rfl Q1 Q0 (fun K hK=>?_)
     have hs33 : w32.cell? ⟨gb390,0,none⟩ = some (.int .i64 x391000_1):=(blk_cell BK390.out 0).trans rfl
     have hfs33:=blk_frozen BK390.out 0
     have hns33_0:=NB385_390.out
     have hns33_1:=NB386_390.out
     have hns33_3:=NB392_390.out
     have hms33_0:=NB390_385.out
     have hms33_1:=NB390_386.out
     have hms33_3:=NB390_392.out
     have hs34 : w32.cell? ⟨gb390,1,none⟩ = some (.int .i64 x391001_1):=(blk_cell BK390.out 1).trans rfl
     have hfs34:=blk_frozen BK390.out 1
     have hns34_0:=NB385_390.out
     have hns34_1:=NB386_390.out
     have hns34_3:=NB392_390.out
     have hms34_0:=NB390_385.out
     have hms34_1:=NB390_386.out
     have hms34_3:=NB390_392.out
     refine skip_ (w1:=?_) (by rfl) rfl ?_ ?_
     rotate_left
     ·go_simp
      rfl
     refine hK.out _ _ ?_
     clear hK K
     refine done_ Q1 ?_
     try go_wp2
     go_roundg k1
     case measure=>have:=HK1.out;omega
     case rel=>exact ⟨(wrap64 (x19_1 + 1)),(t395),(t396),Q5,H',⟨Q2⟩,⟨by (with_reducible repeat (first|refine blk_drewN ?_ _|refine blk_drew ?_|refine blk_alloc ?_ _));refine blk_far ?_ NB385_390.out _;(with_reducible repeat (first|refine blk_drewN ?_ _|refine blk_drew ?_|refine blk_alloc ?_ _));refine blk_far ?_ NB385_390.out _;(with_reducible repeat (first|refine blk_drewN ?_ _|refine blk_drew ?_|refine blk_alloc ?_ _));exact BK385.out⟩,⟨by (with_reducible repeat (first|refine blk_drewN ?_ _|refine blk_drew ?_|refine blk_alloc ?_ _));refine blk_far ?_ NB386_390.out _;(with_reducible repeat (first|refine blk_drewN ?_ _|refine blk_drew ?_|refine blk_alloc ?_ _));refine blk_far ?_ NB386_390.out _;(with_reducible repeat (first|refine blk_drewN ?_ _|refine blk_drew ?_|refine blk_alloc ?_ _));exact BK386.out⟩,⟨by (with_reducible repeat (first|refine blk_drewN ?_ _|refine blk_drew ?_|refine blk_alloc ?_ _));refine blk_put (cs:=#[.int .i64 t395,.int .i64 x391001_1]) ?_ 1 _ rfl;(with_reducible repeat (first|refine blk_drewN ?_ _|refine blk_drew ?_|refine blk_alloc ?_ _));refine blk_put (cs:=#[.int .i64 x391000_1,.int .i64 x391001_1]) ?_ 0 _ rfl;(with_reducible repeat (first|refine blk_drewN ?_ _|refine blk_drew ?_|refine blk_alloc ?_ _));exact BK390.out⟩,⟨Q155⟩⟩
    ·rw [if_neg c19] at H
     have c19b0 : decide (x19_1 < (l0.length : Int)) = false:=decide_eq_false c19
     clear c19
     simp only [Option.some.injEq,Prod.mk.injEq] at H
     obtain ⟨rfl,rfl⟩:=H
     have hnb35:=NB390_385.out
     have hnc35:=NB385_390.out
     have hnb36:=NB390_386.out
     have hnc36:=NB386_390.out
     have hcz37_0 : wr.cell? ⟨gb390,0,none⟩ = some (.int .i64 x391000_1):=(blk_cell BK390.out 0).trans rfl
     have hcz37_1 : wr.cell? ⟨gb390,1,none⟩ = some (.int .i64 x391001_1):=(blk_cell BK390.out 1).trans rfl
     have hfz37_0:=blk_frozen BK390.out 0
     have hfz37_1:=blk_frozen BK390.out 1
     have hnb38:=NB386_385.out
     have hnc38:=NB385_386.out
     have hcz39_0 : wr.cell? ⟨gb386,0,none⟩ = some (.int .i64 0):=(blk_cell BK386.out 0).trans rfl
     have hcz39_1 : wr.cell? ⟨gb386,1,none⟩ = some (.int .i64 0):=(blk_cell BK386.out 1).trans rfl
     have hfz39_0:=blk_frozen BK386.out 0
     have hfz39_1:=blk_frozen BK386.out 1
     go_wp2
     refine bodyPost_ret (results_cell_row rfl _ _ gb386 36 #[.int .i64 x391000_1,.int .i64 x391001_1] (0,0) _ rfl (by (with_reducible repeat (first|refine blk_drewN ?_ _|refine blk_drew ?_|refine blk_alloc ?_ _));refine blk_put (cs:=#[.int .i64 x391000_1,.int .i64 0]) ?_ 1 _ rfl;(with_reducible repeat (first|refine blk_drewN ?_ _|refine blk_drew ?_|refine blk_alloc ?_ _));refine blk_put (cs:=#[.int .i64 0,.int .i64 0]) ?_ 0 _ rfl;(with_reducible repeat (first|refine blk_drewN ?_ _|refine blk_drew ?_|refine blk_alloc ?_ _));exact BK386.out) Try.underlying36 rfl Q1) rfl ?_
     exact ⟨Q17,Q149⟩
def impl_advanced.l0 : Nat → List (S36) → List (S38) → Int → Int → Option ((List (S38)))
 | 0, _, _, _, _ => none
 | k + 1, x1, x5, x11, x12 => if x12 < x11 then (if 0 ≤ x12 then (if x12 < (x5.length : Int) then ((impl_moved.f k x1 ((rd_T38 x5 x12).f2.f0) ((rd_T38 x5 x12).f2.f1)).bind fun bt404 => (impl_advanced.l0 k x1 (x5.set (x12 : Int).toNat (⟨(rd_T38 x5 x12).f0, (rd_T38 x5 x12).f1, (⟨bt404.1, bt404.2⟩ : S36), (rd_T38 x5 x12).f3⟩ : S38)) x11 (wrap64 (x12 + 1)))) else (none)) else (none)) else (some x5)
def impl_advanced.f (k : Nat) (l0 : List (S38)) (l1 : List (S36)) : Option ((List (S38))) := (some (([] : List (S38)) : List (S38))).bind fun y397 => (if y397.length + l0.length < 3518437208883 then ((some (y397 ++ l0 : List (S38))).bind fun y400 => (impl_advanced.l0 k l1 y400 (y400.length : Int) 0)) else (none))
set_option maxHeartbeats 8000000 in
set_option maxRecDepth 100000 in
theorem impl_advanced.calls (k : Nat) (A0 : Option Addr) (c0 : Nat) (l0 : List (S38)) (A1 : Option Addr) (c1 : Nat) (l1 : List (S36)) (r : List (S38)) (w : World) (hr0 : Kd.C k38 w A0 l0.length l0) (hc0 : l0.length ≤ c0) (hr1 : Kd.C k36 w A1 l1.length l1) (hc1 : l1.length ≤ c1) (h : impl_advanced.f k l0 l1 = some r) :
  Calls Try.prog 55 #[.slice A0 l0.length c0,.slice A1 l1.length c1] w fun e w'=>∃ v0_ : Value,e = .returned (v0_) ∧ Kd.R k38 38 w' w.heap.size (fun _=>True) v0_ r ∧ Below w.heap.size w w':=by
 have hu36:=Try.underlying36
 have HR0:=Aside0.mk hr0
 have HC0:=Aside0.mk hc0
 clear hr0 hc0
 have HR1:=Aside0.mk hr1
 have HC1:=Aside0.mk hc1
 clear hr1 hc1
 have HB:=am (Below.refl w.heap.size w)
 have H : ((some (([] : List (S38)) : List (S38))).bind fun y397=>(if y397.length + l0.length < 3518437208883 then ((some (y397 ++ l0 : List (S38))).bind fun y400=>(impl_advanced.l0 k l1 y400 (y400.length : Int) 0)) else (none))) = some r:=h
 clear h
 obtain ⟨y397,hy_⟩ : ∃ y_ : List (S38),y_ = (([] : List (S38))):=⟨_,rfl⟩
 replace H : (if y397.length + l0.length < 3518437208883 then ((some (y397 ++ l0 : List (S38))).bind fun y400=>(impl_advanced.l0 k l1 y400 (y400.length : Int) 0)) else (none)) = some r:=Q156
 have Ny397:=Aside0.mk hy_
 clear hy_
 have c3 : y397.length + l0.length < 3518437208883:=nn_ H
 rw [if_pos c3] at H
 have LMc3:=Aside0.mk c3
 clear c3
 obtain ⟨y400,hy_⟩ : ∃ y_ : List (S38),y_ = (y397 ++ l0):=⟨_,rfl⟩
 replace H : (impl_advanced.l0 k l1 y400 (y400.length : Int) 0) = some r:=Q156
 have Ny400:=Aside0.mk hy_
 clear hy_
 have H':=Aside0.mk H
 clear H
 go_enter Try.func55,Try.ntmps55
 go_wp2_with (first|((with_reducible refine gate_dst (N:=7) rfl ?_);refine Kd.R_lit k38 _ 38 ?hg (N:=7) ?hd (xs:=([] : List (S38))) (inner:=[]) (ok:=fun _=>True) (okp:=fun _=>True) ?hr ?hp (fun _ hk=>hk) trivial (Below.refl _ _) (Nat.le_refl _) (by simp) ?_;(case hd=>rfl);(case hg=>rfl);(case hr=>first|(go_simp;done)|(go_simp;rfl));(case hp=>exact (Reps.none _ _));intro v398 w4 ho5 hb hg_ hnew_;clear hg_ hnew_;(first|rw [← Ny397.out] at ho5|(simp only [Int.reduceToNat] at ho5;rw [← Ny397.out] at ho5));have n0_:=am (Kd.R_lower ho5 (below_size Q77));have n1_:=am (below_step Q77 hb);clear HB;have HO399:=n0_;have HB:=n1_;clear n0_ n1_;clear hb ho5)|((with_reducible refine gate_builtin (b:=.append) (xs:=#[.tmp 7,.tmp 8]) rfl ?_);at_builtin;refine Kd.R_append_rows k38 (w0:=w) w.heap.size rfl (.tmp 7) (.tmp 8) 23 38 (.agg #[(.int .i64 0),(.int .i64 0),(.int .i64 0),(.int .i64 0),(.int .i64 0)]) 40 rfl Try.underlying23 info38 rfl Q0 (by omega) v398 y397 l0 _ _ _ (fun _=>True) (fun _=>False) rfl rfl ?aO ?aR (fun _ _ h=>h) (fun _ h=>h.elim) ?aF ?aB ?aS ?aL ?_;(case aR=>exact Q109);(case aB=>exact Q77);(case aF=>exact (fun _ _=>trivial));(case aO=>exact (by (with_reducible repeat (first|apply Kd.R_alloc|apply Kd.R_drewN|apply Kd.R_drew));exact HO399.out));(case aS=>exact (below_size Q77));(case aL=>have:=LMc3.out;omega);intro v401 w6 ho hb hg hat;rw [← Ny400.out] at ho;have n0_:=am (hb);have n1_:=am (ho);clear HB HO399;have HB:=n0_;have HO402:=n1_;clear n0_ n1_;clear ho hb hg hat;obtain ⟨Ao7,co7,eo7⟩:=Kd.R_slice HO402.out;subst eo7))
 go_loopg [12] k (fun kq v12 w'=>∃ (x5_1 : List (S38)) (x12_1 : Int),v12 = .int .i64 x12_1 ∧ Aside0 (impl_advanced.l0 kq l1 x5_1 (y400.length : Int) x12_1 = some r) ∧ Aside0 (kq ≤ k) ∧ Aside0 (Kd.R k38 38 w' w.heap.size (fun _=>True) (.slice Ao7 y400.length co7) x5_1) ∧ Aside0 (Below w.heap.size w w'))
 case atStart=>exact ⟨(y400),(0),Q5,H',⟨Nat.le_refl _⟩,⟨by (with_reducible repeat (first|apply Kd.R_alloc|apply Kd.R_drewN|apply Kd.R_drew));exact HO402.out⟩,⟨Q77⟩⟩
 case round =>
  clear H'
  try clear c1
  try clear p2
  try clear c3
  try clear c5
  obtain ⟨x5_1,x12_1,rfl,HA,HK1,HO_5,HB⟩:=hrel
  have hl5_1:=(Kd.R_reads' HO_5.out).1
  rw [hl5_1] at HO_5
  (try simp only [hl5_1])
  cases gk with
  | zero=>exact absurd HA.out (by simp [impl_advanced.l0])
  | succ k1 =>
   have H:=HA.out
   clear HA
   simp only [impl_advanced.l0] at H
   by_cases c8 : x12_1 < (y400.length : Int)
   ·rw [if_pos c8] at H
    have c8b0 : decide (x12_1 < (y400.length : Int)) = true:=decide_eq_true c8
    clear c8
    have c9 : 0 ≤ x12_1:=nn_ H
    rw [if_pos c9] at H
    have c9b0 : decide (0 ≤ x12_1) = true:=decide_eq_true c9
    clear c9
    have c10 : x12_1 < (x5_1.length : Int):=nn_ H
    rw [if_pos c10] at H
    have c10b0 : decide (x12_1 < (x5_1.length : Int)) = true:=decide_eq_true c10
    clear c10
    replace H:=Option.bind_eq_some_iff.mp H
    obtain ⟨⟨t404,t405⟩,A110,H⟩:=H
    replace H : (impl_advanced.l0 k1 l1 (x5_1.set (x12_1 : Int).toNat (⟨(rd_T38 x5_1 x12_1).f0,(rd_T38 x5_1 x12_1).f1,(⟨t404,t405⟩ : S36),(rd_T38 x5_1 x12_1).f3⟩ : S38)) (y400.length : Int) (wrap64 (x12_1 + 1))) = some r:=H
    have A11:=Aside0.mk A110
    clear A110
    obtain ⟨y406,hy_⟩ : ∃ y_ : List (S38),y_ = (x5_1.set (x12_1 : Int).toNat (⟨(rd_T38 x5_1 x12_1).f0,(rd_T38 x5_1 x12_1).f1,(⟨t404,t405⟩ : S36),(rd_T38 x5_1 x12_1).f3⟩ : S38)):=⟨_,rfl⟩
    replace H : (impl_advanced.l0 k1 l1 y406 (y400.length : Int) (wrap64 (x12_1 + 1))) = some r:=Q156
    have Ny406:=Aside0.mk hy_
    clear hy_
    have H':=Aside0.mk H
    clear H
    have p403 : 0 ≤ (x12_1 : Int):=of_decide_eq_true Q6
    have q403 : x12_1 < (x5_1.length : Int):=of_decide_eq_true Q6
    obtain ⟨ad403,e403,hx403_0,hx403_1,hx403_2,hx403_3,hx403_4⟩:=at_T38 (Kd.R_reads' HO_5.out).2.2 x12_1 p403 q403
    cases e403
    replace p403:=eq_true p403
    replace q403:=eq_true q403
    go_wp2_with (first|((with_reducible refine gate_callee (f:=85) rfl ?_);refine goesL_ (some 23) rfl rfl Try.func85 Q1 rfl #[.slice A1 l1.length c1,.agg #[.int .i64 ((rd_T38 x5_1 x12_1).f2.f0),.int .i64 ((rd_T38 x5_1 x12_1).f2.f1)]] rfl Q79 ?_;(with_reducible refine (impl_moved.calls k1 _ _ l1 ((rd_T38 x5_1 x12_1).f2.f0) ((rd_T38 x5_1 x12_1).f2.f1) t404 t405 _ ?side1 ?side2 A11.out).mono ?_);(case side1=>exact Q110);(case side2=>exact HC1.out);rintro e w13 ⟨rfl,hb⟩;refine ⟨_,rfl,?_⟩;have n0_:=am (Kd.R_below Q20 hb);have n1_:=am (below_step Q77 hb);clear HO_5 HB;have HO_5:=n0_;have HB:=n1_;clear n0_ n1_;(try clear hb);(try clear hb2);(try clear hk);(try clear hi);have p12 : 0 ≤ (x12_1 : Int):=of_decide_eq_true Q6;have q12 : (x12_1 : Int) < ((x5_1.length : Int) : Int):=of_decide_eq_true Q6;obtain ⟨go12,co12,eo12,gb12,gl12,cl12,HG12⟩:=Kd.R_form HO_5.out (by omega);(first|cases eo12|(injection eo12 with ea_ en_ ec_;(first|subst ea_|(injection ea_ with ea_;subst ea_));subst ec_;clear en_));have GB12:=Aside0.mk gb12;have GG12:=Aside0.mk HG12;clear gb12 gl12 HG12;(first|simp only [add_plain] at hx403_0|skip);(first|simp only [add_plain] at hx403_1|skip);(first|simp only [add_plain] at hx403_2|skip);(first|simp only [add_plain] at hx403_3|skip);(first|simp only [add_plain] at hx403_4|skip);obtain ⟨ce12,hcl12,hM12,hcc12,hfr12⟩:=Kd.R_elem HO_5.out z38 (x12_1 : Int) p12 q12;obtain rfl:=k38_openM hM12;have hx12_0 : w13.cell? ⟨go12,(x12_1 : Int).toNat * 5,none⟩ = some (.int .i64 ((rd_T38 x5_1 x12_1).f0)):=hcc12 0 _ rfl;have hx12_1 : w13.cell? ⟨go12,(x12_1 : Int).toNat * 5 + 1,none⟩ = some (.int .i64 ((rd_T38 x5_1 x12_1).f1)):=hcc12 1 _ rfl;have hx12_2 : w13.cell? ⟨go12,(x12_1 : Int).toNat * 5 + 2,none⟩ = some (.int .i64 ((rd_T38 x5_1 x12_1).f2.f0)):=hcc12 2 _ rfl;have hx12_3 : w13.cell? ⟨go12,(x12_1 : Int).toNat * 5 + 3,none⟩ = some (.int .i64 ((rd_T38 x5_1 x12_1).f2.f1)):=hcc12 3 _ rfl;have hx12_4 : w13.cell? ⟨go12,(x12_1 : Int).toNat * 5 + 4,none⟩ = some (.int .i64 ((rd_T38 x5_1 x12_1).f3)):=hcc12 4 _ rfl;have hf12_0 : w13.frozen? ⟨go12,(x12_1 : Int).toNat * 5,none⟩ = false:=hfr12 0;have hf12_1 : w13.frozen? ⟨go12,(x12_1 : Int).toNat * 5 + 1,none⟩ = false:=hfr12 1;have hf12_2 : w13.frozen? ⟨go12,(x12_1 : Int).toNat * 5 + 2,none⟩ = false:=hfr12 2;have hf12_3 : w13.frozen? ⟨go12,(x12_1 : Int).toNat * 5 + 3,none⟩ = false:=hfr12 3;have hf12_4 : w13.frozen? ⟨go12,(x12_1 : Int).toNat * 5 + 4,none⟩ = false:=hfr12 4;clear hcl12 hcc12 hfr12 hM12;replace p12:=eq_true p12;replace q12:=eq_true q12;have HX14:=am (show Kd.R k38 38 w13 w.heap.size (fun _=>True) (.slice (some ⟨go12,0,none⟩) x5_1.length co7) x5_1 from Q20);obtain ⟨ce14,hcl14,hM14,hcc14,hfr14⟩:=Kd.R_elem HX14.out z38 (x12_1 : Int) (of_decide_eq_true Q6) (by have h_ : (x12_1 : Int) < ((x5_1.length : Int) : Int):=of_decide_eq_true Q6;first|exact h_|(have e_:=(Kd.R_reads' HO_5.out).1;omega)|simpa using h_);obtain rfl:=k38_openM hM14;have HP14:=Kd.R_seg HX14.out (x12_1 : Int) (of_decide_eq_true Q6) (by have h_ : (x12_1 : Int) < ((x5_1.length : Int) : Int):=of_decide_eq_true Q6;first|exact h_|(have e_:=(Kd.R_reads' HO_5.out).1;omega)|simpa using h_) (seg:=[.int .i64 t404,.int .i64 t405]) (j:=2) hcl14 hcc14 (show 4 ≤ 5 from by decide) (x':=(⟨(rd_T38 x5_1 x12_1).f0,(rd_T38 x5_1 x12_1).f1,(⟨t404,t405⟩ : S36),(rd_T38 x5_1 x12_1).f3⟩ : S38)) (k38_mkM _ _ _ (⟨(rd_T38 x5_1 x12_1).f0,(rd_T38 x5_1 x12_1).f1,(⟨t404,t405⟩ : S36),(rd_T38 x5_1 x12_1).f3⟩ : S38) ) (fun _ hk=>hk);have hx14_2:=hcc14 2 _ rfl;(try simp only [show (k38).sz = 5 from rfl,Nat.mul_one,Nat.add_zero] at hx14_2);have hf14_2:=hfr14 2;(try simp only [show (k38).sz = 5 from rfl,Nat.mul_one,Nat.add_zero] at hf14_2);have hx14_3:=hcc14 3 _ rfl;(try simp only [show (k38).sz = 5 from rfl,Nat.mul_one,Nat.add_zero] at hx14_3);have hf14_3:=hfr14 3;(try simp only [show (k38).sz = 5 from rfl,Nat.mul_one,Nat.add_zero] at hf14_3);clear hcl14 hcc14 hfr14 hM14)|((with_reducible refine gate_store (t:=36) (p:=25) rfl ?_);refine store_event (t:=36) (p:=25) (v:=?vo_w15) (w1:=((w13.setCell ⟨go12,(x12_1 : Int).toNat * 5 + 2,none⟩ (.int .i64 t404)).setCell ⟨go12,(x12_1 : Int).toNat * 5 + 3,none⟩ (.int .i64 t405))) ?hg ?ho ?hn ?hr ?_;(case ho=>rfl);(case hg=>rfl);(case hn=>rfl);(case hr=>first|(go_simp;done)|(go_simp;rfl));intro w15 hw;have hg : w13.grownBy w15 (some go12):=(by rw [hw];exact HP14.2);have hp_ : Kd.R k38 38 w15 w.heap.size (fun _=>True) (.slice (some ⟨go12,0,none⟩) x5_1.length co7) y406:=(by rw [hw,Ny406.out];exact HP14.1);clear HP14;have n0_:=am (hp_);have n1_:=am ((by rw [hw];exact below_set (below_set (HB.out) GB12.out) GB12.out : Below w.heap.size w w15));clear HO_5 HB;have HO_5:=n0_;have HB:=n1_;clear n0_ n1_;clear hg hw hp_))
    (try simp only [← hl5_1])
    go_roundg k1
    case measure=>have:=HK1.out;omega
    case rel=>exact ⟨(y406),(wrap64 (x12_1 + 1)),Q5,H',⟨Q2⟩,⟨by (try simp only [hl5_1]);(with_reducible repeat (first|apply Kd.R_alloc|apply Kd.R_drewN|apply Kd.R_drew));exact HO_5.out⟩,⟨Q77⟩⟩
   ·rw [if_neg c8] at H
    have c8b0 : decide (x12_1 < (y400.length : Int)) = false:=decide_eq_false c8
    (try (have c8h0:=c8b0;simp only [hl5_1] at c8h0))
    clear c8
    obtain rfl:=Option.some.inj H
    go_wp2
    go_ret
    exact ⟨_,Q17,Q20,Q77⟩
noncomputable def impl_BatchMove.j0 : Nat → List (S38) → List (S36) → Bool → Option ((List (S38)))
 | 0, _, _, _ => none
 | k + 1, x0, x1, x14 => if x14 = true then (some ([] : List (S38))) else ((impl_advanced.f k x0 x1).bind fun t409 => ((impl_batch.f k t409).bind fun bt412 => (some bt412.1)))
noncomputable def impl_BatchMove.f (k : Nat) (l0 : List (S38)) (l1 : List (S36)) : Option ((List (S38))) := (impl_RowsOk.f k l0).bind fun t407 => (if t407 = true then ((impl_FrontOk.f k l1).bind fun t408 => (impl_BatchMove.j0 k l0 l1 (!t408))) else (impl_BatchMove.j0 k l0 l1 true))
set_option maxHeartbeats 8000000 in
set_option maxRecDepth 100000 in
theorem impl_BatchMove.calls (k : Nat) (A0 : Option Addr) (c0 : Nat) (l0 : List (S38)) (A1 : Option Addr) (c1 : Nat) (l1 : List (S36)) (r : List (S38)) (w : World) (hr0 : Kd.C k38 w A0 l0.length l0) (hc0 : l0.length ≤ c0) (hr1 : Kd.C k36 w A1 l1.length l1) (hc1 : l1.length ≤ c1) (h : impl_BatchMove.f k l0 l1 = some r) :
  Calls Try.prog 17 #[.slice A0 l0.length c0,.slice A1 l1.length c1] w fun e w'=>∃ v0_ : Value,e = .returned (v0_) ∧ Kd.R k38 38 w' w.heap.size (fun _=>True) v0_ r ∧ Below w.heap.size w w':=by
 have HR0:=Aside0.mk hr0
 have HC0:=Aside0.mk hc0
 clear hr0 hc0
 have HR1:=Aside0.mk hr1
 have HC1:=Aside0.mk hc1
 clear hr1 hc1
 have HB:=am (Below.refl w.heap.size w)
 have H : ((impl_RowsOk.f k l0).bind fun t407=>(if t407 = true then ((impl_FrontOk.f k l1).bind fun t408=>(impl_BatchMove.j0 k l0 l1 (!t408))) else (impl_BatchMove.j0 k l0 l1 true))) = some r:=h
 clear h
 have HC3:=Aside0.mk H
 clear H
 go_enter Try.func17,Try.ntmps17
 go_upto_region 1 with (fail)
 go_cut [14] (fun v14 wc=>∃ (kq : Nat) (x14_2 : Bool),v14 = .bool x14_2 ∧ Aside0 (impl_BatchMove.j0 kq l0 l1 x14_2 = some r) ∧ Aside0 (kq ≤ k) ∧ Aside0 (Below w.heap.size w wc))
 case first =>
  have H:=HC3.out
  clear HC3
  replace H:=Option.bind_eq_some_iff.mp H
  obtain ⟨t407,A40,H⟩:=H
  replace H : (if t407 = true then ((impl_FrontOk.f k l1).bind fun t408=>(impl_BatchMove.j0 k l0 l1 (!t408))) else (impl_BatchMove.j0 k l0 l1 true)) = some r:=H
  have A4:=Aside0.mk A40
  clear A40
  by_cases c5 : t407 = true
  ·subst c5
   have H1 : ((impl_FrontOk.f k l1).bind fun t408=>(impl_BatchMove.j0 k l0 l1 (!t408))) = some r:=by rw [if_pos rfl] at H;exact H
   clear H
   have H:=H1
   clear H1
   replace H:=Option.bind_eq_some_iff.mp H
   obtain ⟨t408,A60,H⟩:=H
   replace H : (impl_BatchMove.j0 k l0 l1 (!t408)) = some r:=H
   have A6:=Aside0.mk A60
   clear A60
   have H':=Aside0.mk H
   clear H
   go_wp2_with (first|((with_reducible refine gate_callee (f:=39) rfl ?_);refine goesL_ (some 8) rfl rfl Try.func39 Q1 rfl #[.slice A0 l0.length c0] rfl Q79 ?_;(with_reducible refine (impl_RowsOk.calls k _ _ l0 true _ ?side1 ?side2 A4.out).mono ?_);(case side1=>exact Q109);(case side2=>exact HC0.out);rintro e w7 ⟨rfl,hb⟩;refine ⟨_,rfl,?_⟩;have n0_:=am (below_step Q77 hb);clear HB;have HB:=n0_;clear n0_;(try clear hb);(try clear hb2);(try clear hk);(try clear hi))|(go_at_call 53;(with_reducible refine (impl_FrontOk.calls k _ _ l1 t408 _ ?side1 ?side2 A6.out).mono ?_);(case side1=>exact Q110);(case side2=>exact HC1.out);rintro e w8 ⟨rfl,hb⟩;have n0_:=am (below_step Q77 hb);clear HB;have HB:=n0_;clear n0_;(try clear hb);(try clear hb2);(try clear hk);(try clear hi)))
   go_meet
   case rel=>exact ⟨_,(!t408),Q5,H',⟨Q3⟩,⟨Q77⟩⟩
  ·replace c5:=Bool.eq_false_iff.mpr c5
   subst c5
   have H1 : (impl_BatchMove.j0 k l0 l1 true) = some r:=by rw [if_neg (show ¬ (false = true) by decide)] at H;exact H
   clear H
   have H:=H1
   clear H1
   have H':=Aside0.mk H
   clear H
   go_wp2_with (first|((with_reducible refine gate_callee (f:=39) rfl ?_);refine goesL_ (some 8) rfl rfl Try.func39 Q1 rfl #[.slice A0 l0.length c0] rfl Q79 ?_;(with_reducible refine (impl_RowsOk.calls k _ _ l0 false _ ?side1 ?side2 A4.out).mono ?_);(case side1=>exact Q109);(case side2=>exact HC0.out);rintro e w9 ⟨rfl,hb⟩;refine ⟨_,rfl,?_⟩;have n0_:=am (below_step Q77 hb);clear HB;have HB:=n0_;clear n0_;(try clear hb);(try clear hb2);(try clear hk);(try clear hi)))
   go_meet
   case rel=>exact ⟨_,(true),Q5,H',⟨Q3⟩,⟨Q77⟩⟩
 case rest =>
  clear HC3
  try clear c1
  try clear p2
  try clear c3
  try clear c5
  obtain ⟨kq,x14_2,rfl,HA,HJ2,HB⟩:=hcut
  cases kq with
  | zero=>exact absurd HA.out (by simp [impl_BatchMove.j0])
  | succ kj2 =>
   have H:=HA.out
   clear HA
   simp only [impl_BatchMove.j0] at H
   by_cases c10 : x14_2 = true
   ·subst c10
    have H1 : (some ([] : List (S38))) = some r:=by rw [if_pos rfl] at H;exact H
    clear H
    have H:=H1
    clear H1
    obtain rfl:=Option.some.inj H
    go_wp2
    go_ret
    exact ⟨_,Q17,Q80,Q77⟩
   ·replace c10:=Bool.eq_false_iff.mpr c10
    subst c10
    have H1 : ((impl_advanced.f kj2 l0 l1).bind fun t409=>((impl_batch.f kj2 t409).bind fun bt412=>(some bt412.1))) = some r:=by rw [if_neg (show ¬ (false = true) by decide)] at H;exact H
    clear H
    have H:=H1
    clear H1
    replace H:=Option.bind_eq_some_iff.mp H
    obtain ⟨t409,A110,H⟩:=H
    replace H : ((impl_batch.f kj2 t409).bind fun bt412=>(some bt412.1)) = some r:=H
    have A11:=Aside0.mk A110
    clear A110
    replace H:=Option.bind_eq_some_iff.mp H
    obtain ⟨⟨t412,t413⟩,A120,H⟩:=H
    replace H : (some t412) = some r:=H
    have A12:=Aside0.mk A120
    clear A120
    obtain rfl:=Option.some.inj H
    go_wp2_with (first|((with_reducible refine gate_callee (f:=55) rfl ?_);refine goesL_ (some 18) rfl rfl Try.func55 Q1 rfl #[.slice A0 l0.length c0,.slice A1 l1.length c1] rfl Q79 ?_;(with_reducible refine (impl_advanced.calls kj2 _ _ l0 _ _ l1 t409 _ ?side1 ?side2 ?side3 ?side4 A11.out).mono ?_);(case side1=>exact Q109);(case side2=>exact HC0.out);(case side3=>exact Q110);(case side4=>exact HC1.out);rintro e w13 ⟨v410,rfl,ho0,hb⟩;refine ⟨_,rfl,?_⟩;have n0_:=am (Kd.R_lower ho0 (below_size Q77));have n1_:=am (below_step Q77 hb);clear HB;have HO411:=n0_;have HB:=n1_;clear n0_ n1_;(try clear hb);(try clear hb2);(try clear hk);(try clear hi);(try clear ho0);obtain ⟨Ao14,co14,eo14⟩:=Kd.R_slice HO411.out;subst eo14)|((with_reducible refine gate_callee (f:=54) rfl ?_);refine goesL_ (some 19) rfl rfl Try.func54 Q1 rfl #[.slice Ao14 t409.length co14] rfl Q79 ?_;(with_reducible refine (impl_batch.calls kj2 _ _ t409 t412 t413 _ ?side1 ?side2 A12.out).mono ?_);(case side1=>exact (by repeat (first|exact (Kd.R_reads' HO411.out).2.2|(with_reducible refine Kd.C_alloc ?_ _)|(with_reducible refine Kd.C_drewN ?_ _)|(with_reducible refine Kd.C_drew ?_))));(case side2=>exact (Kd.R_reads' HO411.out).2.1);rintro e w15 ⟨v414,rfl,ho0,hb⟩;refine ⟨_,rfl,?_⟩;have n0_:=am (Kd.R_elder' (by (with_reducible repeat (first|apply Kd.R_alloc|apply Kd.R_drewN|apply Kd.R_drew));exact HO411.out) (Kd.R_base ho0) hb);have n1_:=am (Kd.R_lower (Kd.R_new' ho0 (Kd.R_lt (by (with_reducible repeat (first|apply Kd.R_alloc|apply Kd.R_drewN|apply Kd.R_drew));exact HO411.out))) (below_size Q77));have n2_:=am (below_step Q77 hb);clear HO411 HB;have HO411:=n0_;have HO415:=n1_;have HB:=n2_;clear n0_ n1_ n2_;(try clear hb);(try clear hb2);(try clear hk);(try clear hi);(try clear ho0)))
    go_ret
    exact ⟨_,Q17,by (with_reducible repeat (first|apply Kd.R_alloc|apply Kd.R_drewN|apply Kd.R_drew));exact Kd.R_mono HO415.out (fun _ hk=>trivial),Q77⟩
def laws_lwRows.l0 : Nat → List (S38) → List (S38) → Int → Option (Bool)
 | 0, _, _, _ => none
 | k + 1, x0, x1, x5 => if x5 < (x0.length : Int) then (if 0 ≤ x5 then (if x5 < (x1.length : Int) then (if (!(((rd_T38 x0 x5).f0) == ((rd_T38 x1 x5).f0)) || (!(((rd_T38 x0 x5).f1) == ((rd_T38 x1 x5).f1)) || ((!(((rd_T38 x0 x5).f2.f0) == ((rd_T38 x1 x5).f2.f0)) || (!(((rd_T38 x0 x5).f2.f1) == ((rd_T38 x1 x5).f2.f1)))) || (!(((rd_T38 x0 x5).f3) == ((rd_T38 x1 x5).f3)))))) = true then (some false) else (laws_lwRows.l0 k x0 x1 (wrap64 (x5 + 1)))) else (none)) else (none)) else (some true)
def laws_lwRows.f (k : Nat) (l0 : List (S38)) (l1 : List (S38)) : Option (Bool) := if (l0.length : Int) = (l1.length : Int) then (laws_lwRows.l0 k l0 l1 0) else (some false)
end Go.Proofs.Ytjlkffmdmifahaa.PFnBatchMoveBoth
