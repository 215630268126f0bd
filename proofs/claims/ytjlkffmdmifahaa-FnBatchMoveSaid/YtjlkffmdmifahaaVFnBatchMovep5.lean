/- Functions that the law comes to: each as a plain Lean function, with the contract of the Go function. -/
import Derived.Test.YtjlkffmdmifahaaVFnBatchMovew
import Derived.Test.YtjlkffmdmifahaaVFnBatchMovep0
import Derived.Test.YtjlkffmdmifahaaVFnBatchMovep2
import Derived.Test.YtjlkffmdmifahaaVFnBatchMovep3
import Derived.Test.YtjlkffmdmifahaaVFnBatchMovep4
import Derived.Test.YtjlkffmdmifahaaVFnBatchMoveg1
namespace Go.Proofs.Ytjlkffmdmifahaa.PFnBatchMove
open Go.RowKit Go.Proofs.YtjlkffmdmifahaaW.PrintWords Go.Proofs.YtjlkffmdmifahaaW.PrintLast Go.Proofs.YtjlkffmdmifahaaW.PrintMore
attribute [local go_sem] max2_int min2_int max_two min_two max_three min_three max_four min_four
set_option linter.unusedVariables false
set_option linter.unusedSimpArgs false
attribute [local go_sem high] eqA36 eqA38 eqA83
set_option maxHeartbeats 8000000 in
set_option maxRecDepth 100000 in
theorem spec_BatchMove.calls (k : Nat) (A0 : Option Addr) (c0 : Nat) (l0 : List (S38)) (A1 : Option Addr) (c1 : Nat) (l1 : List (S36)) (r : List (S38)) (w : World) (hr0 : Kd.C k38 w A0 l0.length l0) (hc0 : l0.length ≤ c0) (hr1 : Kd.C k36 w A1 l1.length l1) (hc1 : l1.length ≤ c1) (h : spec_BatchMove.f k l0 l1 = some r) :
  Calls Try.prog 19 #[.slice A0 l0.length c0,.slice A1 l1.length c1] w fun e w'=>∃ v0_ : Value,e = .returned (v0_) ∧ Kd.R k38 38 w' w.heap.size (fun _=>True) v0_ r ∧ Below w.heap.size w w':=by
 have hu38:=Try.underlying38
 have hu36:=Try.underlying36
 have HR0:=Aside0.mk hr0
 have HC0:=Aside0.mk hc0
 clear hr0 hc0
 have HR1:=Aside0.mk hr1
 have HC1:=Aside0.mk hc1
 clear hr1 hc1
 have HB:=am (Below.refl w.heap.size w)
 have H : ((some (([] : List (S38)) : List (S38))).bind fun y511=>((spec_RowsOk.f k l0).bind fun t514=>(if t514 = true then ((spec_FrontOk.f k l1).bind fun t515=>(spec_BatchMove.j0 k l0 l1 y511 (!t515))) else (spec_BatchMove.j0 k l0 l1 y511 true)))) = some r:=h
 clear h
 obtain ⟨y511,hy_⟩ : ∃ y_ : List (S38),y_ = (([] : List (S38))):=⟨_,rfl⟩
 replace H : ((spec_RowsOk.f k l0).bind fun t514=>(if t514 = true then ((spec_FrontOk.f k l1).bind fun t515=>(spec_BatchMove.j0 k l0 l1 y511 (!t515))) else (spec_BatchMove.j0 k l0 l1 y511 true))) = some r:=Q162
 have Ny511:=Aside0.mk hy_
 clear hy_
 have HC3:=Aside0.mk H
 clear H
 go_enter Try.func19,Try.ntmps19
 go_upto_region 2 with (first|((with_reducible refine gate_dst (N:=8) rfl ?_);refine Kd.R_lit k38 _ 38 ?hg (N:=8) ?hd (xs:=([] : List (S38))) (inner:=[]) (ok:=fun _=>True) (okp:=fun _=>True) ?hr ?hp (fun _ hk=>hk) trivial (Below.refl _ _) (Nat.le_refl _) (by simp) ?_;(case hd=>rfl);(case hg=>rfl);(case hr=>first|(go_simp;done)|(go_simp;rfl));(case hp=>exact (Reps.none _ _));intro v512 w4 ho5 hb hg_ hnew_;clear hg_ hnew_;(first|rw [← Ny511.out] at ho5|(simp only [Int.reduceToNat] at ho5;rw [← Ny511.out] at ho5));have HO513:=am (Kd.R_lower ho5 (below_size Q80));replace HB:=am (below_step Q80 hb);clear hb ho5))
 (try simp only [Act.put,sA_,sZ_,sS_])
 go_cut [16] (fun v16 wc=>∃ (kq : Nat) (x16_2 : Bool),v16 = .bool x16_2 ∧ Aside0 (spec_BatchMove.j0 kq l0 l1 y511 x16_2 = some r) ∧ Aside0 (kq ≤ k) ∧ Aside0 (Kd.R k38 38 wc w.heap.size (fun _=>True) v512 y511) ∧ Aside0 (Below w.heap.size w wc))
 case first =>
  have H:=HC3.out
  clear HC3
  replace H:=Option.bind_eq_some_iff.mp H
  obtain ⟨t514,A60,H⟩:=H
  replace H : (if t514 = true then ((spec_FrontOk.f k l1).bind fun t515=>(spec_BatchMove.j0 k l0 l1 y511 (!t515))) else (spec_BatchMove.j0 k l0 l1 y511 true)) = some r:=H
  have A6:=Aside0.mk A60
  clear A60
  by_cases c7 : t514 = true
  ·subst c7
   have H1 : ((spec_FrontOk.f k l1).bind fun t515=>(spec_BatchMove.j0 k l0 l1 y511 (!t515))) = some r:=by rw [if_pos rfl] at H;exact H
   clear H
   have H:=H1
   clear H1
   replace H:=Option.bind_eq_some_iff.mp H
   obtain ⟨t515,A80,H⟩:=H
   replace H : (spec_BatchMove.j0 k l0 l1 y511 (!t515)) = some r:=H
   have A8:=Aside0.mk A80
   clear A80
   have H':=Aside0.mk H
   clear H
   go_wp2_with (first|((with_reducible refine gate_callee (f:=20) rfl ?_);refine goesL_ (some 10) rfl rfl Try.func20 Q1 rfl #[.slice A0 l0.length c0] rfl Q84 ?_;(with_reducible refine (spec_RowsOk.calls k _ _ l0 true _ ?side1 ?side2 A6.out).mono ?_);(case side1=>exact Q115);(case side2=>exact HC0.out);rintro e w9 ⟨rfl,hb⟩;refine ⟨_,rfl,?_⟩;replace HO513:=am (Kd.R_below Q33 hb);replace HB:=am (below_step Q80 hb);(try clear hb))|(go_at_call 21;(with_reducible refine (spec_FrontOk.calls k _ _ l1 t515 _ ?side1 ?side2 A8.out).mono ?_);(case side1=>exact Q116);(case side2=>exact HC1.out);rintro e w10 ⟨rfl,hb⟩;replace HO513:=am (Kd.R_below Q33 hb);replace HB:=am (below_step Q80 hb);(try clear hb)))
   go_meet
   case rel=>exact ⟨_,(!t515),Q7,H',⟨Q4⟩,⟨Q33⟩,⟨Q80⟩⟩
  ·replace c7:=Bool.eq_false_iff.mpr c7
   subst c7
   have H1 : (spec_BatchMove.j0 k l0 l1 y511 true) = some r:=by rw [if_neg (show ¬ (false = true) by decide)] at H;exact H
   clear H
   have H:=H1
   clear H1
   have H':=Aside0.mk H
   clear H
   go_wp2_with (first|((with_reducible refine gate_callee (f:=20) rfl ?_);refine goesL_ (some 10) rfl rfl Try.func20 Q1 rfl #[.slice A0 l0.length c0] rfl Q84 ?_;(with_reducible refine (spec_RowsOk.calls k _ _ l0 false _ ?side1 ?side2 A6.out).mono ?_);(case side1=>exact Q115);(case side2=>exact HC0.out);rintro e w11 ⟨rfl,hb⟩;refine ⟨_,rfl,?_⟩;replace HO513:=am (Kd.R_below Q33 hb);replace HB:=am (below_step Q80 hb);(try clear hb)))
   go_meet
   case rel=>exact ⟨_,(true),Q7,H',⟨Q4⟩,⟨Q33⟩,⟨Q80⟩⟩
 case rest =>
  clear HC3
  try clear c1
  try clear c2
  try clear p2
  try clear c7
  obtain ⟨kq,x16_2,rfl,HA,HJ2,HO_5,HB⟩:=hcut
  cases kq with
  | zero=>exact absurd HA.out (by simp [spec_BatchMove.j0])
  | succ kj2 =>
   have H:=HA.out
   clear HA
   simp only [spec_BatchMove.j0] at H
   by_cases c12 : x16_2 = true
   ·subst c12
    have H1 : (some y511) = some r:=by rw [if_pos rfl] at H;exact H
    clear H
    have H:=H1
    clear H1
    obtain rfl:=Option.some.inj H
    go_wp2
    go_ret
    exact ⟨_,Q18,Q21,Q80⟩
   ·replace c12:=Bool.eq_false_iff.mpr c12
    subst c12
    have H1 : (spec_BatchMove.l0 kj2 l0 l1 y511 0) = some r:=by rw [if_neg (show ¬ (false = true) by decide)] at H;exact H
    clear H
    have H:=H1
    clear H1
    have H':=Aside0.mk H
    clear H
    go_wp2
    go_loopg [5,6] kj2 (fun kq v5 v6 w'=>∃ (x5_2 : List (S38)) (x6_2 : Int),v6 = .int .i64 x6_2 ∧ Aside0 (spec_BatchMove.l0 kq l0 l1 x5_2 x6_2 = some r) ∧ Aside0 (kq ≤ kj2) ∧ Aside0 (Kd.R k38 38 w' w.heap.size (fun _=>True) v5 x5_2) ∧ Aside0 (Below w.heap.size w w'))
    case atStart=>exact ⟨(y511),(0),Q7,H',⟨Nat.le_refl _⟩,⟨Q21⟩,⟨Q80⟩⟩
    case round =>
     clear H'
     try clear c1
     try clear c2
     try clear p2
     try clear c7
     try clear c12
     try clear p2
     obtain ⟨x5_2,x6_2,rfl,HA,HK2,HO_5,HB⟩:=hrel
     cases gk with
     | zero=>exact absurd HA.out (by simp [spec_BatchMove.l0])
     | succ k2 =>
      have H:=HA.out
      clear HA
      simp only [spec_BatchMove.l0] at H
      by_cases c13 : x6_2 < (l0.length : Int)
      ·rw [if_pos c13] at H
       have c13b0 : decide (x6_2 < (l0.length : Int)) = true:=decide_eq_true c13
       clear c13
       have c14 : 0 ≤ x6_2:=nn_ H
       rw [if_pos c14] at H
       have c14b0 : decide (0 ≤ x6_2) = true:=decide_eq_true c14
       clear c14
       replace H:=Option.bind_eq_some_iff.mp H
       obtain ⟨⟨t518,t519⟩,A150,H⟩:=H
       replace H : (if x5_2.length < 3518437208883 then (spec_BatchMove.l0 k2 l0 l1 (x5_2 ++ [(⟨(rd_T38 l0 x6_2).f0,(rd_T38 l0 x6_2).f1,(⟨t518,t519⟩ : S36),(rd_T38 l0 x6_2).f3⟩ : S38)]) (wrap64 (x6_2 + 1))) else (none)) = some r:=H
       have A15:=Aside0.mk A150
       clear A150
       have c16 : x5_2.length < 3518437208883:=nn_ H
       rw [if_pos c16] at H
       have LMc16:=Aside0.mk c16
       clear c16
       obtain ⟨y520,hy_⟩ : ∃ y_ : List (S38),y_ = (x5_2 ++ [(⟨(rd_T38 l0 x6_2).f0,(rd_T38 l0 x6_2).f1,(⟨t518,t519⟩ : S36),(rd_T38 l0 x6_2).f3⟩ : S38)]):=⟨_,rfl⟩
       replace H : (spec_BatchMove.l0 k2 l0 l1 y520 (wrap64 (x6_2 + 1))) = some r:=Q162
       have Ny520:=Aside0.mk hy_
       clear hy_
       have H':=Aside0.mk H
       clear H
       have p516 : 0 ≤ (x6_2 : Int):=of_decide_eq_true Q8
       have q516 : x6_2 < (l0.length : Int):=of_decide_eq_true Q8
       obtain ⟨ad516,e516,hx516_0,hx516_1,hx516_2,hx516_3,hx516_4⟩:=at_T38 HR0.out x6_2 p516 q516
       cases e516
       replace hx516_0:=cb_ HB hx516_0
       replace hx516_1:=cb_ HB hx516_1
       replace hx516_2:=cb_ HB hx516_2
       replace hx516_3:=cb_ HB hx516_3
       replace hx516_4:=cb_ HB hx516_4
       replace p516:=eq_true p516
       replace q516:=eq_true q516
       go_wp2_with (first|((with_reducible refine gate_dst (N:=7) rfl ?_);refine bE_ 7 #[.int .i64 0,.int .i64 0,.int .i64 0,.int .i64 0,.int .i64 0] 38 ?_;intro gb517 hg w17 hbox hb;replace HO_5:=am (Kd.R_below (Kd.R_elderB Q21 gb517 (Nat.le_of_eq hg.symm)) hb);have BK517:=am (hbox);have GW517:=am ((Q173 : w.heap.size ≤ gb517));replace HB:=am (below_step Q80 hb);have GE517:=GW517;clear hb hbox hg;obtain ⟨hcz18_0,hcz18_1,hcz18_2,hcz18_3,hcz18_4,hfz18_0,hfz18_1,hfz18_2,hfz18_3,hfz18_4⟩:=bx5_ BK517)|((with_reducible refine gate_callee (f:=56) rfl ?_);refine goesL_ (some 31) rfl rfl Try.func56 Q1 rfl #[.slice A1 l1.length c1,.agg #[.int .i64 ((rd_T38 l0 x6_2).f2.f0),.int .i64 ((rd_T38 l0 x6_2).f2.f1)]] rfl Q84 ?_;(with_reducible refine (spec_FrontMove.calls k2 _ _ l1 ((rd_T38 l0 x6_2).f2.f0) ((rd_T38 l0 x6_2).f2.f1) t518 t519 _ ?side1 ?side2 A15.out).mono ?_);(case side1=>exact Kd.C_below HR1.out Q107);(case side2=>exact HC1.out);rintro e w19 ⟨rfl,hb⟩;refine ⟨_,rfl,?_⟩;replace HO_5:=am (Kd.R_below (by (with_reducible repeat (first|apply Kd.R_alloc|apply Kd.R_drewN|apply Kd.R_drew));exact (Kd.R_mono (Kd.R_far (p:=⟨gb517,4,none⟩) (Kd.R_far (p:=⟨gb517,3,none⟩) (Kd.R_far (p:=⟨gb517,2,none⟩) (Kd.R_far (p:=⟨gb517,1,none⟩) (Kd.R_far (p:=⟨gb517,0,none⟩) (Kd.R_mono HO_5.out (fun k_ hk=>(⟨hk,hk.2⟩ : _ ∧ k_ ≠ gb517))) (fun _ hk=>hk.2) (.int .i64 ((rd_T38 l0 x6_2).f0))) (fun _ hk=>hk.2) (.int .i64 ((rd_T38 l0 x6_2).f1))) (fun _ hk=>hk.2) (.int .i64 ((rd_T38 l0 x6_2).f2.f0))) (fun _ hk=>hk.2) (.int .i64 ((rd_T38 l0 x6_2).f2.f1))) (fun _ hk=>hk.2) (.int .i64 ((rd_T38 l0 x6_2).f3))) (fun _ h_=>h_.1))) hb);replace BK517:=am (blk_below (g:=gb517) (o:=.cells #[.int .i64 ((rd_T38 l0 x6_2).f0),.int .i64 ((rd_T38 l0 x6_2).f1),.int .i64 ((rd_T38 l0 x6_2).f2.f0),.int .i64 ((rd_T38 l0 x6_2).f2.f1),.int .i64 ((rd_T38 l0 x6_2).f3)] 38 (0,0)) (by (with_reducible repeat (first|refine blk_drewN ?_ _|refine blk_drew ?_|refine blk_alloc ?_ _));refine blk_put (cs:=#[.int .i64 ((rd_T38 l0 x6_2).f0),.int .i64 ((rd_T38 l0 x6_2).f1),.int .i64 ((rd_T38 l0 x6_2).f2.f0),.int .i64 ((rd_T38 l0 x6_2).f2.f1),.int .i64 0]) ?_ 4 _ rfl;(with_reducible repeat (first|refine blk_drewN ?_ _|refine blk_drew ?_|refine blk_alloc ?_ _));refine blk_put (cs:=#[.int .i64 ((rd_T38 l0 x6_2).f0),.int .i64 ((rd_T38 l0 x6_2).f1),.int .i64 ((rd_T38 l0 x6_2).f2.f0),.int .i64 0,.int .i64 0]) ?_ 3 _ rfl;(with_reducible repeat (first|refine blk_drewN ?_ _|refine blk_drew ?_|refine blk_alloc ?_ _));refine blk_put (cs:=#[.int .i64 ((rd_T38 l0 x6_2).f0),.int .i64 ((rd_T38 l0 x6_2).f1),.int .i64 0,.int .i64 0,.int .i64 0]) ?_ 2 _ rfl;(with_reducible repeat (first|refine blk_drewN ?_ _|refine blk_drew ?_|refine blk_alloc ?_ _));refine blk_put (cs:=#[.int .i64 ((rd_T38 l0 x6_2).f0),.int .i64 0,.int .i64 0,.int .i64 0,.int .i64 0]) ?_ 1 _ rfl;(with_reducible repeat (first|refine blk_drewN ?_ _|refine blk_drew ?_|refine blk_alloc ?_ _));refine blk_put (cs:=#[.int .i64 0,.int .i64 0,.int .i64 0,.int .i64 0,.int .i64 0]) ?_ 0 _ rfl;(with_reducible repeat (first|refine blk_drewN ?_ _|refine blk_drew ?_|refine blk_alloc ?_ _));exact BK517.out) hb);replace HB:=am (below_step Q107 hb);(try clear hb);obtain ⟨hcz20_0,hcz20_1,hcz20_2,hcz20_3,hcz20_4,hfz20_0,hfz20_1,hfz20_2,hfz20_3,hfz20_4⟩:=bx5_ BK517)|((with_reducible refine gate_builtin (b:=.append) (xs:=#[.tmp 33,.tmp 35]) rfl ?_);at_builtin;refine Kd.R_append k38 (w0:=w) w.heap.size rfl (.tmp 33) (.tmp 35) 23 38 (.agg #[(.int .i64 0),(.int .i64 0),(.int .i64 0),(.int .i64 0),(.int .i64 0)]) 40 rfl Try.underlying23 info38 rfl Q0 (by omega) u5 x5_2 (⟨(rd_T38 l0 x6_2).f0,(rd_T38 l0 x6_2).f1,(⟨t518,t519⟩ : S36),(rd_T38 l0 x6_2).f3⟩ : S38) [.int .i64 ((rd_T38 l0 x6_2).f0),.int .i64 ((rd_T38 l0 x6_2).f1),.int .i64 t518,.int .i64 t519,.int .i64 ((rd_T38 l0 x6_2).f3)] (fun k_=>k_ ≠ gb517) (fun _=>False) rfl (by first|(go_simp;done)|(go_simp;rfl)) ?aP (fun _ hk=>hk.elim) ?aF ?aO ?aB ?aS ?aL ?_;(case aP=>exact k38_mkM _ _ _ (⟨(rd_T38 l0 x6_2).f0,(rd_T38 l0 x6_2).f1,(⟨t518,t519⟩ : S36),(rd_T38 l0 x6_2).f3⟩ : S38));(case aB=>exact Q107);(case aF=>exact (fun k_ hk=>Kd.freshB (g:=gb517) (o:=.cells #[.int .i64 ((rd_T38 l0 x6_2).f0),.int .i64 ((rd_T38 l0 x6_2).f1),.int .i64 t518,.int .i64 t519,.int .i64 ((rd_T38 l0 x6_2).f3)] 38 (0,0)) (by (with_reducible repeat (first|refine blk_drewN ?_ _|refine blk_drew ?_|refine blk_alloc ?_ _));refine blk_put (cs:=#[.int .i64 ((rd_T38 l0 x6_2).f0),.int .i64 ((rd_T38 l0 x6_2).f1),.int .i64 t518,.int .i64 ((rd_T38 l0 x6_2).f2.f1),.int .i64 ((rd_T38 l0 x6_2).f3)]) ?_ 3 _ rfl;(with_reducible repeat (first|refine blk_drewN ?_ _|refine blk_drew ?_|refine blk_alloc ?_ _));refine blk_put (cs:=#[.int .i64 ((rd_T38 l0 x6_2).f0),.int .i64 ((rd_T38 l0 x6_2).f1),.int .i64 ((rd_T38 l0 x6_2).f2.f0),.int .i64 ((rd_T38 l0 x6_2).f2.f1),.int .i64 ((rd_T38 l0 x6_2).f3)]) ?_ 2 _ rfl;(with_reducible repeat (first|refine blk_drewN ?_ _|refine blk_drew ?_|refine blk_alloc ?_ _));exact BK517.out) k_ hk));(case aO=>exact (by (with_reducible repeat (first|apply Kd.R_alloc|apply Kd.R_drewN|apply Kd.R_drew));exact Kd.R_mono (Kd.R_far (p:=⟨gb517,3,none⟩) (Kd.R_far (p:=⟨gb517,2,none⟩) (Kd.R_mono HO_5.out (fun k_ hk=>(⟨hk,hk.2⟩ : _ ∧ k_ ≠ gb517))) (fun _ hk=>hk.2) (.int .i64 t518)) (fun _ hk=>hk.2) (.int .i64 t519)) (fun _ hk=>hk.1.2)));(case aS=>exact (below_size Q107));(case aL=>have:=LMc16.out;omega);intro v521 w21 ho hb hg hat;rw [← Ny520.out] at ho;replace BK517:=am (blk_grown (g:=gb517) (o:=.cells #[.int .i64 ((rd_T38 l0 x6_2).f0),.int .i64 ((rd_T38 l0 x6_2).f1),.int .i64 t518,.int .i64 t519,.int .i64 ((rd_T38 l0 x6_2).f3)] 38 (0,0)) (by (with_reducible repeat (first|refine blk_drewN ?_ _|refine blk_drew ?_|refine blk_alloc ?_ _));refine blk_put (cs:=#[.int .i64 ((rd_T38 l0 x6_2).f0),.int .i64 ((rd_T38 l0 x6_2).f1),.int .i64 t518,.int .i64 ((rd_T38 l0 x6_2).f2.f1),.int .i64 ((rd_T38 l0 x6_2).f3)]) ?_ 3 _ rfl;(with_reducible repeat (first|refine blk_drewN ?_ _|refine blk_drew ?_|refine blk_alloc ?_ _));refine blk_put (cs:=#[.int .i64 ((rd_T38 l0 x6_2).f0),.int .i64 ((rd_T38 l0 x6_2).f1),.int .i64 ((rd_T38 l0 x6_2).f2.f0),.int .i64 ((rd_T38 l0 x6_2).f2.f1),.int .i64 ((rd_T38 l0 x6_2).f3)]) ?_ 2 _ rfl;(with_reducible repeat (first|refine blk_drewN ?_ _|refine blk_drew ?_|refine blk_alloc ?_ _));exact BK517.out) hg (Kd.R_away HO_5.out (fun _ hk=>hk.2)));replace HB:=am (hb);have HO522:=am (ho);clear HO_5;clear ho hb hg hat))
       go_roundg k2
       case measure=>have:=HJ2.out;have:=HK2.out;omega
       case rel=>exact ⟨(y520),(wrap64 (x6_2 + 1)),Q7,H',⟨by have:=HJ2.out;have:=HK2.out;omega⟩,⟨by (with_reducible repeat (first|apply Kd.R_alloc|apply Kd.R_drewN|apply Kd.R_drew));exact Kd.R_mono HO522.out (fun _ hk=>trivial)⟩,⟨Q107⟩⟩
      ·rw [if_neg c13] at H
       have c13b0 : decide (x6_2 < (l0.length : Int)) = false:=decide_eq_false c13
       clear c13
       replace H:=Option.bind_eq_some_iff.mp H
       obtain ⟨t523,A220,H⟩:=H
       replace H : ((spec_l2Fit.f k2 t523).bind fun t526=>(some t526)) = some r:=H
       have A22:=Aside0.mk A220
       clear A220
       replace H:=Option.bind_eq_some_iff.mp H
       obtain ⟨t526,A230,H⟩:=H
       replace H : (some t526) = some r:=H
       have A23:=Aside0.mk A230
       clear A230
       obtain rfl:=Option.some.inj H
       obtain ⟨Ao24,co24,eo24⟩:=Kd.R_slice HO_5.out
       subst eo24
       go_wp2_with (first|((with_reducible refine gate_callee (f:=58) rfl ?_);refine goesL_ (some 38) rfl rfl Try.func58 Q1 rfl #[.slice Ao24 x5_2.length co24] rfl Q84 ?_;(with_reducible refine (spec_l2Sum.calls k2 _ _ x5_2 t523 _ ?side1 ?side2 A22.out).mono ?_);(case side1=>exact Q113);(case side2=>exact (Kd.R_reads' HO_5.out).2.1);rintro e w25 ⟨v524,rfl,ho0,hb⟩;refine ⟨_,rfl,?_⟩;have HO525:=am (Kd.R_lower (Kd.R_new' ho0 (Kd.R_lt Q21)) (below_size Q80));replace HO_5:=am (Kd.R_elder' Q21 (Kd.R_base ho0) hb);replace HB:=am (below_step Q80 hb);(try clear hb ho0);obtain ⟨Ao26,co26,eo26⟩:=Kd.R_slice HO525.out;subst eo26)|((with_reducible refine gate_callee (f:=57) rfl ?_);refine goesL_ (some 39) rfl rfl Try.func57 Q1 rfl #[.slice Ao26 t523.length co26] rfl Q84 ?_;(with_reducible refine (spec_l2Fit.calls k2 (fun k_=>some k_ = (.slice Ao26 t523.length co26 : Value).ownBlock) (.slice Ao26 t523.length co26) t523 t526 w _ ?side1 ?side2 A23.out).mono ?_);(case side1=>exact Q80);(case side2=>exact Kd.R_tight rfl HO525.out);rintro e w27 ⟨v527,rfl,ho0,hb,hkp⟩;refine ⟨_,rfl,?_⟩;have HO528:=am (Kd.R_mono (ok':=fun k_=>some k_ ≠ (.slice Ao24 x5_2.length co24 : Value).ownBlock) ho0 (fun k_ hk_=>Or.elim hk_ (fun hs_=>fun e_=>(((HO_5.out).1 k_ e_.symm).2) hs_) (fun hn_=>(Kd.fresh' (Kd.R_lt Q21) k_ hn_))));replace HO_5:=am (Kd.R_mono (ok':=fun k_=>some k_ ≠ (v527 : Value).ownBlock) (Kd.R_keptB (HO_5.out) hkp (fun k_ hk_ hs_=>(hk_.2) hs_)) (fun k_ hk_=>fun e_=>Or.elim (ho0.1 k_ e_.symm) (fun hs_=>hk_.2.1 hs_) (fun hn_=>Nat.not_le.2 hk_.2.2 hn_)));replace HB:=am (hb);clear HO525;(try clear hb hkp ho0)))
       go_ret
       exact ⟨_,Q18,by (with_reducible repeat (first|apply Kd.R_alloc|apply Kd.R_drewN|apply Kd.R_drew));exact Kd.R_mono HO528.out (fun _ hk=>trivial),Q80⟩
def impl_below.f (a0_0 : Int) (a0_1 : Int) (a1_0 : Int) (a1_1 : Int) : Option (Bool) := if a0_0 ≤ a1_0 then (some (decide (a0_1 ≤ a1_1))) else (some false)
set_option maxHeartbeats 8000000 in
set_option maxRecDepth 100000 in
theorem impl_below.calls (a0_0 : Int) (a0_1 : Int) (a1_0 : Int) (a1_1 : Int) (r : Bool) (w : World) (h : impl_below.f a0_0 a0_1 a1_0 a1_1 = some r) :
  Calls Try.prog 90 #[.agg #[.int .i64 a0_0,.int .i64 a0_1],.agg #[.int .i64 a1_0,.int .i64 a1_1]] w fun e w'=>e = .returned (.bool r) ∧ Below w.heap.size w w':=by
 have hu36:=Try.underlying36
 have HB:=am (Below.refl w.heap.size w)
 have H : (if a0_0 ≤ a1_0 then (some (decide (a0_1 ≤ a1_1))) else (some false)) = some r:=h
 clear h
 by_cases c3 : a0_0 ≤ a1_0
 ·rw [if_pos c3] at H
  have c3b0 : decide (a0_0 ≤ a1_0) = true:=decide_eq_true c3
  clear c3
  obtain rfl:=Option.some.inj H
  go_enter Try.func90,Try.ntmps90
  go_wp2_with (first|((with_reducible refine gate_dst (N:=2) rfl ?_);refine bE_ 2 #[.int .i64 a0_0,.int .i64 a0_1] 36 ?_;intro gb529 hg w4 hbox hb;have BK529:=am (hbox);have GW529:=am ((Q173 : w.heap.size ≤ gb529));replace HB:=am (below_step Q80 hb);have GE529:=GW529;clear hb hbox hg)|((with_reducible refine gate_dst (N:=3) rfl ?_);refine bE_ 3 #[.int .i64 a1_0,.int .i64 a1_1] 36 ?_;intro gb530 hg w5 hbox hb;have BK530:=am (hbox);have GW530:=am ((by rw [hg];exact (below_size Q108) : w.heap.size ≤ gb530));replace HB:=am (below_step Q108 hb);have NB529_530:=am ((by rw [hg];exact Nat.ne_of_lt (blk_lt (g:=gb529) (o:=.cells #[.int .i64 a0_0,.int .i64 a0_1] 36 (0,0)) Q74) : gb529 ≠ gb530));have NB530_529:=am ((by rw [hg];exact Nat.ne_of_gt (blk_lt (g:=gb529) (o:=.cells #[.int .i64 a0_0,.int .i64 a0_1] 36 (0,0)) Q74) : gb530 ≠ gb529));replace BK529:=am (blk_below (g:=gb529) (o:=.cells #[.int .i64 a0_0,.int .i64 a0_1] 36 (0,0)) Q74 hb);have GE530:=GW530;clear hb hbox hg;have hnb6:=NB529_530.out;have hnc6:=NB530_529.out;obtain ⟨hcz7_0,hcz7_1,hfz7_0,hfz7_1⟩:=bx2_ BK529;obtain ⟨hcz8_0,hcz8_1,hfz8_0,hfz8_1⟩:=bx2_ BK530))
  go_ret
  exact ⟨Q18,by repeat (first|(with_reducible first|exact HB.out|apply below_alloc|apply pw_below_drewN|apply below_drew1|refine below_set ?_ GE529.out|refine below_set ?_ GE530.out)|exact HB.out)⟩
 ·rw [if_neg c3] at H
  have c3b0 : decide (a0_0 ≤ a1_0) = false:=decide_eq_false c3
  clear c3
  obtain rfl:=Option.some.inj H
  go_enter Try.func90,Try.ntmps90
  go_wp2_with (first|((with_reducible refine gate_dst (N:=2) rfl ?_);refine bE_ 2 #[.int .i64 a0_0,.int .i64 a0_1] 36 ?_;intro gb529 hg w9 hbox hb;have BK529:=am (hbox);have GW529:=am ((Q173 : w.heap.size ≤ gb529));replace HB:=am (below_step Q80 hb);have GE529:=GW529;clear hb hbox hg)|((with_reducible refine gate_dst (N:=3) rfl ?_);refine bE_ 3 #[.int .i64 a1_0,.int .i64 a1_1] 36 ?_;intro gb530 hg w10 hbox hb;have BK530:=am (hbox);have GW530:=am ((by rw [hg];exact (below_size Q108) : w.heap.size ≤ gb530));replace HB:=am (below_step Q108 hb);have NB529_530:=am ((by rw [hg];exact Nat.ne_of_lt (blk_lt (g:=gb529) (o:=.cells #[.int .i64 a0_0,.int .i64 a0_1] 36 (0,0)) Q74) : gb529 ≠ gb530));have NB530_529:=am ((by rw [hg];exact Nat.ne_of_gt (blk_lt (g:=gb529) (o:=.cells #[.int .i64 a0_0,.int .i64 a0_1] 36 (0,0)) Q74) : gb530 ≠ gb529));replace BK529:=am (blk_below (g:=gb529) (o:=.cells #[.int .i64 a0_0,.int .i64 a0_1] 36 (0,0)) Q74 hb);have GE530:=GW530;clear hb hbox hg;have hnb11:=NB529_530.out;have hnc11:=NB530_529.out;obtain ⟨hcz12_0,hcz12_1,hfz12_0,hfz12_1⟩:=bx2_ BK529;obtain ⟨hcz13_0,hcz13_1,hfz13_0,hfz13_1⟩:=bx2_ BK530))
  go_ret
  exact ⟨Q18,by repeat (first|(with_reducible first|exact HB.out|apply below_alloc|apply pw_below_drewN|apply below_drew1|refine below_set ?_ GE529.out|refine below_set ?_ GE530.out)|exact HB.out)⟩
def impl_present.l0 : Nat → List (S83) → List (S38) → Int → Int → Int → Int → Option ((List (S83)))
 | 0, _, _, _, _, _, _ => none
 | k + 1, x5, x9, x10, x11, x532000, x532001 => if x11 < x10 then (if 0 ≤ x11 then (if x11 < (x9.length : Int) then ((impl_below.f ((rd_T38 x9 x11).f2.f0) ((rd_T38 x9 x11).f2.f1) x532000 x532001).bind fun t537 => (if t537 = true then (if x5.length < 5864062014805 then (impl_present.l0 k (x5 ++ [(⟨(rd_T38 x9 x11).f0, (rd_T38 x9 x11).f1, (rd_T38 x9 x11).f3⟩ : S83)]) x9 x10 (wrap64 (x11 + 1)) x532000 x532001) else (none)) else (impl_present.l0 k x5 x9 x10 (wrap64 (x11 + 1)) x532000 x532001))) else (none)) else (none)) else ((impl_gathered.f x5).bind fun t541 => (some t541))
def impl_present.f (k : Nat) (l0 : List (S38)) (a1_0 : Int) (a1_1 : Int) : Option ((List (S83))) := impl_present.l0 k (([] : List (S83))) l0 (l0.length : Int) 0 a1_0 a1_1
set_option maxHeartbeats 8000000 in
set_option maxRecDepth 100000 in
theorem impl_present.calls (k : Nat) (A0 : Option Addr) (c0 : Nat) (l0 : List (S38)) (a1_0 : Int) (a1_1 : Int) (r : List (S83)) (w : World) (hr0 : Kd.C k38 w A0 l0.length l0) (hc0 : l0.length ≤ c0) (h : impl_present.f k l0 a1_0 a1_1 = some r) :
  Calls Try.prog 78 #[.slice A0 l0.length c0,.agg #[.int .i64 a1_0,.int .i64 a1_1]] w fun e w'=>∃ v0_ : Value,e = .returned (v0_) ∧ Kd.R k83 83 w' w.heap.size (fun _=>True) v0_ r ∧ Below w.heap.size w w':=by
 have hu36:=Try.underlying36
 have hu38:=Try.underlying38
 have hu83:=Try.underlying83
 have HR0:=Aside0.mk hr0
 have HC0:=Aside0.mk hc0
 clear hr0 hc0
 have HB:=am (Below.refl w.heap.size w)
 have H : (impl_present.l0 k (([] : List (S83))) l0 (l0.length : Int) 0 a1_0 a1_1) = some r:=h
 clear h
 obtain ⟨y532,hy_⟩ : ∃ y_ : List (S83),y_ = (([] : List (S83))):=⟨_,rfl⟩
 replace H : (impl_present.l0 k y532 l0 (l0.length : Int) 0 a1_0 a1_1) = some r:=Q162
 have Ny532:=Aside0.mk hy_
 clear hy_
 have H':=Aside0.mk H
 clear H
 go_enter Try.func78,Try.ntmps78
 go_wp2_with (first|((with_reducible refine gate_dst (N:=3) rfl ?_);refine bE_ 3 #[.int .i64 a1_0,.int .i64 a1_1] 36 ?_;intro gb531 hg w3 hbox hb;have BK531:=am (hbox);have GW531:=am ((Q173 : w.heap.size ≤ gb531));replace HB:=am (below_step Q80 hb);have GE531:=GW531;clear hb hbox hg)|((with_reducible refine gate_dst (N:=8) rfl ?_);refine Kd.R_lit k83 _ 83 ?hg (N:=8) ?hd (xs:=([] : List (S83))) (inner:=[]) (ok:=fun _=>True) (okp:=fun _=>True) ?hr ?hp (fun _ hk=>hk) trivial (Below.refl _ _) (Nat.le_refl _) (by simp) ?_;(case hd=>rfl);(case hg=>rfl);(case hr=>first|(go_simp;done)|(go_simp;rfl));(case hp=>exact (Reps.none _ _));intro v533 w4 ho5 hb hg_ hnew_;clear hg_ hnew_;(first|rw [← Ny532.out] at ho5|(simp only [Int.reduceToNat] at ho5;rw [← Ny532.out] at ho5));have HO534:=am (Kd.R_lower ho5 (below_size Q109));replace BK531:=am (blk_below (g:=gb531) (o:=.cells #[.int .i64 a1_0,.int .i64 a1_1] 36 (0,0)) Q75 hb);replace HB:=am (below_step Q109 hb);clear hb ho5))
 go_loopg [5,11] k (fun kq v5 v11 w'=>∃ (x5_1 : List (S83)) (x11_1 : Int),v11 = .int .i64 x11_1 ∧ Aside0 (impl_present.l0 kq x5_1 l0 (l0.length : Int) x11_1 a1_0 a1_1 = some r) ∧ Aside0 (kq ≤ k) ∧ Aside0 (Kd.R k83 83 w' w.heap.size (fun _=>True) v5 x5_1) ∧ Aside0 (w'.heap[gb531]? = some (.cells #[.int .i64 a1_0,.int .i64 a1_1] 36 (0,0))) ∧ Aside0 (Below w.heap.size w w'))
 case atStart=>exact ⟨(y532),(0),Q7,H',⟨Nat.le_refl _⟩,⟨by (with_reducible repeat (first|apply Kd.R_alloc|apply Kd.R_drewN|apply Kd.R_drew));exact HO534.out⟩,⟨Q75⟩,⟨Q109⟩⟩
 case round =>
  clear H'
  try clear p2
  obtain ⟨x5_1,x11_1,rfl,HA,HK1,HO_5,BK531,HB⟩:=hrel
  cases gk with
  | zero=>exact absurd HA.out (by simp [impl_present.l0])
  | succ k1 =>
   have H:=HA.out
   clear HA
   simp only [impl_present.l0] at H
   by_cases c6 : x11_1 < (l0.length : Int)
   ·rw [if_pos c6] at H
    have c6b0 : decide (x11_1 < (l0.length : Int)) = true:=decide_eq_true c6
    clear c6
    have c7 : 0 ≤ x11_1:=nn_ H
    rw [if_pos c7] at H
    have c7b0 : decide (0 ≤ x11_1) = true:=decide_eq_true c7
    clear c7
    have c8 : x11_1 < (l0.length : Int):=nn_ H
    rw [if_pos c8] at H
    have c8b0 : decide (x11_1 < (l0.length : Int)) = true:=decide_eq_true c8
    clear c8
    replace H:=Option.bind_eq_some_iff.mp H
    obtain ⟨t537,A90,H⟩:=H
    replace H : (if t537 = true then (if x5_1.length < 5864062014805 then (impl_present.l0 k1 (x5_1 ++ [(⟨(rd_T38 l0 x11_1).f0,(rd_T38 l0 x11_1).f1,(rd_T38 l0 x11_1).f3⟩ : S83)]) l0 (l0.length : Int) (wrap64 (x11_1 + 1)) a1_0 a1_1) else (none)) else (impl_present.l0 k1 x5_1 l0 (l0.length : Int) (wrap64 (x11_1 + 1)) a1_0 a1_1)) = some r:=H
    have A9:=Aside0.mk A90
    clear A90
    by_cases c10 : t537 = true
    ·subst c10
     have H1 : (if x5_1.length < 5864062014805 then (impl_present.l0 k1 (x5_1 ++ [(⟨(rd_T38 l0 x11_1).f0,(rd_T38 l0 x11_1).f1,(rd_T38 l0 x11_1).f3⟩ : S83)]) l0 (l0.length : Int) (wrap64 (x11_1 + 1)) a1_0 a1_1) else (none)) = some r:=by rw [if_pos rfl] at H;exact H
     clear H
     have H:=H1
     clear H1
     have c11 : x5_1.length < 5864062014805:=nn_ H
     rw [if_pos c11] at H
     have LMc11:=Aside0.mk c11
     clear c11
     obtain ⟨y538,hy_⟩ : ∃ y_ : List (S83),y_ = (x5_1 ++ [(⟨(rd_T38 l0 x11_1).f0,(rd_T38 l0 x11_1).f1,(rd_T38 l0 x11_1).f3⟩ : S83)]):=⟨_,rfl⟩
     replace H : (impl_present.l0 k1 y538 l0 (l0.length : Int) (wrap64 (x11_1 + 1)) a1_0 a1_1) = some r:=Q162
     have Ny538:=Aside0.mk hy_
     clear hy_
     have H':=Aside0.mk H
     clear H
     have p535 : 0 ≤ (x11_1 : Int):=of_decide_eq_true Q8
     have q535 : x11_1 < (l0.length : Int):=of_decide_eq_true Q8
     obtain ⟨ad535,e535,hx535_0,hx535_1,hx535_2,hx535_3,hx535_4⟩:=at_T38 HR0.out x11_1 p535 q535
     cases e535
     replace hx535_0:=cb_ HB hx535_0
     replace hx535_1:=cb_ HB hx535_1
     replace hx535_2:=cb_ HB hx535_2
     replace hx535_3:=cb_ HB hx535_3
     replace hx535_4:=cb_ HB hx535_4
     replace p535:=eq_true p535
     replace q535:=eq_true q535
     go_wp2_with (first|((with_reducible refine gate_dst (N:=7) rfl ?_);refine bE_ 7 #[.int .i64 0,.int .i64 0,.int .i64 0,.int .i64 0,.int .i64 0] 38 ?_;intro gb536 hg w12 hbox hb;replace HO_5:=am (Kd.R_below Q21 hb);have BK536:=am (hbox);have GW536:=am ((by rw [hg];exact (below_size Q109) : w.heap.size ≤ gb536));replace HB:=am (below_step Q109 hb);have NB531_536:=am ((by rw [hg];exact Nat.ne_of_lt (blk_lt (g:=gb531) (o:=.cells #[.int .i64 a1_0,.int .i64 a1_1] 36 (0,0)) Q75) : gb531 ≠ gb536));have NB536_531:=am ((by rw [hg];exact Nat.ne_of_gt (blk_lt (g:=gb531) (o:=.cells #[.int .i64 a1_0,.int .i64 a1_1] 36 (0,0)) Q75) : gb536 ≠ gb531));replace BK531:=am (blk_below (g:=gb531) (o:=.cells #[.int .i64 a1_0,.int .i64 a1_1] 36 (0,0)) Q75 hb);have GE536:=GW536;clear hb hbox hg;have hnb13:=NB536_531.out;have hnc13:=NB531_536.out;obtain ⟨hcz14_0,hcz14_1,hcz14_2,hcz14_3,hcz14_4,hfz14_0,hfz14_1,hfz14_2,hfz14_3,hfz14_4⟩:=bx5_ BK536;obtain ⟨hcz15_0,hcz15_1,hfz15_0,hfz15_1⟩:=bx2_ BK531)|((with_reducible refine gate_callee (f:=90) rfl ?_);refine goesL_ (some 18) rfl rfl Try.func90 Q1 rfl #[.agg #[.int .i64 ((rd_T38 l0 x11_1).f2.f0),.int .i64 ((rd_T38 l0 x11_1).f2.f1)],.agg #[.int .i64 a1_0,.int .i64 a1_1]] rfl Q84 ?_;(with_reducible refine (impl_below.calls ((rd_T38 l0 x11_1).f2.f0) ((rd_T38 l0 x11_1).f2.f1) a1_0 a1_1 true _ A9.out).mono ?_);rintro e w16 ⟨rfl,hb⟩;refine ⟨_,rfl,?_⟩;replace HO_5:=am (Kd.R_below (by (with_reducible repeat (first|apply Kd.R_alloc|apply Kd.R_drewN|apply Kd.R_drew));exact (Kd.R_mono (Kd.R_far (p:=⟨gb536,4,none⟩) (Kd.R_far (p:=⟨gb536,3,none⟩) (Kd.R_far (p:=⟨gb536,2,none⟩) (Kd.R_far (p:=⟨gb536,1,none⟩) (Kd.R_far (p:=⟨gb536,0,none⟩) (Kd.R_types HO_5.out BK536.out Q0) (fun _ hk=>hk.2) (.int .i64 ((rd_T38 l0 x11_1).f0))) (fun _ hk=>hk.2) (.int .i64 ((rd_T38 l0 x11_1).f1))) (fun _ hk=>hk.2) (.int .i64 ((rd_T38 l0 x11_1).f2.f0))) (fun _ hk=>hk.2) (.int .i64 ((rd_T38 l0 x11_1).f2.f1))) (fun _ hk=>hk.2) (.int .i64 ((rd_T38 l0 x11_1).f3))) (fun _ h_=>h_.1))) hb);replace BK531:=am (blk_below (g:=gb531) (o:=.cells #[.int .i64 a1_0,.int .i64 a1_1] 36 (0,0)) (by (with_reducible repeat (first|refine blk_drewN ?_ _|refine blk_drew ?_|refine blk_alloc ?_ _));refine blk_far ?_ NB531_536.out _;(with_reducible repeat (first|refine blk_drewN ?_ _|refine blk_drew ?_|refine blk_alloc ?_ _));refine blk_far ?_ NB531_536.out _;(with_reducible repeat (first|refine blk_drewN ?_ _|refine blk_drew ?_|refine blk_alloc ?_ _));refine blk_far ?_ NB531_536.out _;(with_reducible repeat (first|refine blk_drewN ?_ _|refine blk_drew ?_|refine blk_alloc ?_ _));refine blk_far ?_ NB531_536.out _;(with_reducible repeat (first|refine blk_drewN ?_ _|refine blk_drew ?_|refine blk_alloc ?_ _));refine blk_far ?_ NB531_536.out _;(with_reducible repeat (first|refine blk_drewN ?_ _|refine blk_drew ?_|refine blk_alloc ?_ _));exact BK531.out) hb);replace BK536:=am (blk_below (g:=gb536) (o:=.cells #[.int .i64 ((rd_T38 l0 x11_1).f0),.int .i64 ((rd_T38 l0 x11_1).f1),.int .i64 ((rd_T38 l0 x11_1).f2.f0),.int .i64 ((rd_T38 l0 x11_1).f2.f1),.int .i64 ((rd_T38 l0 x11_1).f3)] 38 (0,0)) (by (with_reducible repeat (first|refine blk_drewN ?_ _|refine blk_drew ?_|refine blk_alloc ?_ _));refine blk_put (cs:=#[.int .i64 ((rd_T38 l0 x11_1).f0),.int .i64 ((rd_T38 l0 x11_1).f1),.int .i64 ((rd_T38 l0 x11_1).f2.f0),.int .i64 ((rd_T38 l0 x11_1).f2.f1),.int .i64 0]) ?_ 4 _ rfl;(with_reducible repeat (first|refine blk_drewN ?_ _|refine blk_drew ?_|refine blk_alloc ?_ _));refine blk_put (cs:=#[.int .i64 ((rd_T38 l0 x11_1).f0),.int .i64 ((rd_T38 l0 x11_1).f1),.int .i64 ((rd_T38 l0 x11_1).f2.f0),.int .i64 0,.int .i64 0]) ?_ 3 _ rfl;(with_reducible repeat (first|refine blk_drewN ?_ _|refine blk_drew ?_|refine blk_alloc ?_ _));refine blk_put (cs:=#[.int .i64 ((rd_T38 l0 x11_1).f0),.int .i64 ((rd_T38 l0 x11_1).f1),.int .i64 0,.int .i64 0,.int .i64 0]) ?_ 2 _ rfl;(with_reducible repeat (first|refine blk_drewN ?_ _|refine blk_drew ?_|refine blk_alloc ?_ _));refine blk_put (cs:=#[.int .i64 ((rd_T38 l0 x11_1).f0),.int .i64 0,.int .i64 0,.int .i64 0,.int .i64 0]) ?_ 1 _ rfl;(with_reducible repeat (first|refine blk_drewN ?_ _|refine blk_drew ?_|refine blk_alloc ?_ _));refine blk_put (cs:=#[.int .i64 0,.int .i64 0,.int .i64 0,.int .i64 0,.int .i64 0]) ?_ 0 _ rfl;(with_reducible repeat (first|refine blk_drewN ?_ _|refine blk_drew ?_|refine blk_alloc ?_ _));exact BK536.out) hb);replace HB:=am (below_step Q143 hb);(try clear hb);obtain ⟨hcz17_0,hcz17_1,hcz17_2,hcz17_3,hcz17_4,hfz17_0,hfz17_1,hfz17_2,hfz17_3,hfz17_4⟩:=bx5_ BK536)|((with_reducible refine gate_builtin (b:=.append) (xs:=#[.tmp 19,.tmp 27]) rfl ?_);at_builtin;refine Kd.R_append k83 (w0:=w) w.heap.size rfl (.tmp 19) (.tmp 27) 57 83 (.agg #[(.int .i64 0),(.int .i64 0),(.int .i64 0)]) 24 rfl Try.underlying57 info83 rfl Q0 (by omega) u5 x5_1 (⟨(rd_T38 l0 x11_1).f0,(rd_T38 l0 x11_1).f1,(rd_T38 l0 x11_1).f3⟩ : S83) [.int .i64 ((rd_T38 l0 x11_1).f0),.int .i64 ((rd_T38 l0 x11_1).f1),.int .i64 ((rd_T38 l0 x11_1).f3)] (fun _=>True) (fun _=>False) rfl rfl ?aP (fun _ hk=>hk.elim) ?aF ?aO ?aB ?aS ?aL ?_;(case aP=>exact k83_mkM _ _ _ (⟨(rd_T38 l0 x11_1).f0,(rd_T38 l0 x11_1).f1,(rd_T38 l0 x11_1).f3⟩ : S83));(case aB=>exact Q143);(case aF=>exact (fun _ _=>trivial));(case aO=>exact Q21);(case aS=>exact (below_size Q143));(case aL=>have:=LMc11.out;omega);intro v539 w18 ho hb hg hat;rw [← Ny538.out] at ho;replace BK531:=am (blk_grown (g:=gb531) (o:=.cells #[.int .i64 a1_0,.int .i64 a1_1] 36 (0,0)) Q75 hg (Kd.R_ne HO_5.out BK531.out Q0));replace BK536:=am (blk_grown (g:=gb536) (o:=.cells #[.int .i64 ((rd_T38 l0 x11_1).f0),.int .i64 ((rd_T38 l0 x11_1).f1),.int .i64 ((rd_T38 l0 x11_1).f2.f0),.int .i64 ((rd_T38 l0 x11_1).f2.f1),.int .i64 ((rd_T38 l0 x11_1).f3)] 38 (0,0)) (by (with_reducible repeat (first|refine blk_drewN ?_ _|refine blk_drew ?_|refine blk_alloc ?_ _));exact BK536.out) hg (Kd.R_ne HO_5.out BK536.out Q0));replace HB:=am (hb);have HO540:=am (ho);clear HO_5;clear ho hb hg hat))
     go_roundg k1
     case measure=>have:=HK1.out;omega
     case rel=>exact ⟨(y538),(wrap64 (x11_1 + 1)),Q7,H',⟨Q3⟩,⟨by (with_reducible repeat (first|apply Kd.R_alloc|apply Kd.R_drewN|apply Kd.R_drew));exact HO540.out⟩,⟨Q75⟩,⟨Q143⟩⟩
    ·replace c10:=Bool.eq_false_iff.mpr c10
     subst c10
     have H1 : (impl_present.l0 k1 x5_1 l0 (l0.length : Int) (wrap64 (x11_1 + 1)) a1_0 a1_1) = some r:=by rw [if_neg (show ¬ (false = true) by decide)] at H;exact H
     clear H
     have H:=H1
     clear H1
     have H':=Aside0.mk H
     clear H
     have p535 : 0 ≤ (x11_1 : Int):=of_decide_eq_true Q8
     have q535 : x11_1 < (l0.length : Int):=of_decide_eq_true Q8
     obtain ⟨ad535,e535,hx535_0,hx535_1,hx535_2,hx535_3,hx535_4⟩:=at_T38 HR0.out x11_1 p535 q535
     cases e535
     replace hx535_0:=cb_ HB hx535_0
     replace hx535_1:=cb_ HB hx535_1
     replace hx535_2:=cb_ HB hx535_2
     replace hx535_3:=cb_ HB hx535_3
     replace hx535_4:=cb_ HB hx535_4
     replace p535:=eq_true p535
     replace q535:=eq_true q535
     go_wp2_with (first|((with_reducible refine gate_dst (N:=7) rfl ?_);refine bE_ 7 #[.int .i64 0,.int .i64 0,.int .i64 0,.int .i64 0,.int .i64 0] 38 ?_;intro gb536 hg w19 hbox hb;replace HO_5:=am (Kd.R_below Q21 hb);have BK536:=am (hbox);have GW536:=am ((by rw [hg];exact (below_size Q109) : w.heap.size ≤ gb536));replace HB:=am (below_step Q109 hb);have NB531_536:=am ((by rw [hg];exact Nat.ne_of_lt (blk_lt (g:=gb531) (o:=.cells #[.int .i64 a1_0,.int .i64 a1_1] 36 (0,0)) Q75) : gb531 ≠ gb536));have NB536_531:=am ((by rw [hg];exact Nat.ne_of_gt (blk_lt (g:=gb531) (o:=.cells #[.int .i64 a1_0,.int .i64 a1_1] 36 (0,0)) Q75) : gb536 ≠ gb531));replace BK531:=am (blk_below (g:=gb531) (o:=.cells #[.int .i64 a1_0,.int .i64 a1_1] 36 (0,0)) Q75 hb);have GE536:=GW536;clear hb hbox hg;have hnb20:=NB536_531.out;have hnc20:=NB531_536.out;obtain ⟨hcz21_0,hcz21_1,hcz21_2,hcz21_3,hcz21_4,hfz21_0,hfz21_1,hfz21_2,hfz21_3,hfz21_4⟩:=bx5_ BK536;obtain ⟨hcz22_0,hcz22_1,hfz22_0,hfz22_1⟩:=bx2_ BK531)|((with_reducible refine gate_callee (f:=90) rfl ?_);refine goesL_ (some 18) rfl rfl Try.func90 Q1 rfl #[.agg #[.int .i64 ((rd_T38 l0 x11_1).f2.f0),.int .i64 ((rd_T38 l0 x11_1).f2.f1)],.agg #[.int .i64 a1_0,.int .i64 a1_1]] rfl Q84 ?_;(with_reducible refine (impl_below.calls ((rd_T38 l0 x11_1).f2.f0) ((rd_T38 l0 x11_1).f2.f1) a1_0 a1_1 false _ A9.out).mono ?_);rintro e w23 ⟨rfl,hb⟩;refine ⟨_,rfl,?_⟩;replace HO_5:=am (Kd.R_below (by (with_reducible repeat (first|apply Kd.R_alloc|apply Kd.R_drewN|apply Kd.R_drew));exact (Kd.R_mono (Kd.R_far (p:=⟨gb536,4,none⟩) (Kd.R_far (p:=⟨gb536,3,none⟩) (Kd.R_far (p:=⟨gb536,2,none⟩) (Kd.R_far (p:=⟨gb536,1,none⟩) (Kd.R_far (p:=⟨gb536,0,none⟩) (Kd.R_types HO_5.out BK536.out Q0) (fun _ hk=>hk.2) (.int .i64 ((rd_T38 l0 x11_1).f0))) (fun _ hk=>hk.2) (.int .i64 ((rd_T38 l0 x11_1).f1))) (fun _ hk=>hk.2) (.int .i64 ((rd_T38 l0 x11_1).f2.f0))) (fun _ hk=>hk.2) (.int .i64 ((rd_T38 l0 x11_1).f2.f1))) (fun _ hk=>hk.2) (.int .i64 ((rd_T38 l0 x11_1).f3))) (fun _ h_=>h_.1))) hb);replace BK531:=am (blk_below (g:=gb531) (o:=.cells #[.int .i64 a1_0,.int .i64 a1_1] 36 (0,0)) (by (with_reducible repeat (first|refine blk_drewN ?_ _|refine blk_drew ?_|refine blk_alloc ?_ _));refine blk_far ?_ NB531_536.out _;(with_reducible repeat (first|refine blk_drewN ?_ _|refine blk_drew ?_|refine blk_alloc ?_ _));refine blk_far ?_ NB531_536.out _;(with_reducible repeat (first|refine blk_drewN ?_ _|refine blk_drew ?_|refine blk_alloc ?_ _));refine blk_far ?_ NB531_536.out _;(with_reducible repeat (first|refine blk_drewN ?_ _|refine blk_drew ?_|refine blk_alloc ?_ _));refine blk_far ?_ NB531_536.out _;(with_reducible repeat (first|refine blk_drewN ?_ _|refine blk_drew ?_|refine blk_alloc ?_ _));refine blk_far ?_ NB531_536.out _;(with_reducible repeat (first|refine blk_drewN ?_ _|refine blk_drew ?_|refine blk_alloc ?_ _));exact BK531.out) hb);replace BK536:=am (blk_below (g:=gb536) (o:=.cells #[.int .i64 ((rd_T38 l0 x11_1).f0),.int .i64 ((rd_T38 l0 x11_1).f1),.int .i64 ((rd_T38 l0 x11_1).f2.f0),.int .i64 ((rd_T38 l0 x11_1).f2.f1),.int .i64 ((rd_T38 l0 x11_1).f3)] 38 (0,0)) (by (with_reducible repeat (first|refine blk_drewN ?_ _|refine blk_drew ?_|refine blk_alloc ?_ _));refine blk_put (cs:=#[.int .i64 ((rd_T38 l0 x11_1).f0),.int .i64 ((rd_T38 l0 x11_1).f1),.int .i64 ((rd_T38 l0 x11_1).f2.f0),.int .i64 ((rd_T38 l0 x11_1).f2.f1),.int .i64 0]) ?_ 4 _ rfl;(with_reducible repeat (first|refine blk_drewN ?_ _|refine blk_drew ?_|refine blk_alloc ?_ _));refine blk_put (cs:=#[.int .i64 ((rd_T38 l0 x11_1).f0),.int .i64 ((rd_T38 l0 x11_1).f1),.int .i64 ((rd_T38 l0 x11_1).f2.f0),.int .i64 0,.int .i64 0]) ?_ 3 _ rfl;(with_reducible repeat (first|refine blk_drewN ?_ _|refine blk_drew ?_|refine blk_alloc ?_ _));refine blk_put (cs:=#[.int .i64 ((rd_T38 l0 x11_1).f0),.int .i64 ((rd_T38 l0 x11_1).f1),.int .i64 0,.int .i64 0,.int .i64 0]) ?_ 2 _ rfl;(with_reducible repeat (first|refine blk_drewN ?_ _|refine blk_drew ?_|refine blk_alloc ?_ _));refine blk_put (cs:=#[.int .i64 ((rd_T38 l0 x11_1).f0),.int .i64 0,.int .i64 0,.int .i64 0,.int .i64 0]) ?_ 1 _ rfl;(with_reducible repeat (first|refine blk_drewN ?_ _|refine blk_drew ?_|refine blk_alloc ?_ _));refine blk_put (cs:=#[.int .i64 0,.int .i64 0,.int .i64 0,.int .i64 0,.int .i64 0]) ?_ 0 _ rfl;(with_reducible repeat (first|refine blk_drewN ?_ _|refine blk_drew ?_|refine blk_alloc ?_ _));exact BK536.out) hb);replace HB:=am (below_step Q143 hb);(try clear hb)))
     go_roundg k1
     case measure=>have:=HK1.out;omega
     case rel=>exact ⟨(x5_1),(wrap64 (x11_1 + 1)),Q7,H',⟨Q3⟩,⟨Q21⟩,⟨Q75⟩,⟨Q143⟩⟩
   ·rw [if_neg c6] at H
    have c6b0 : decide (x11_1 < (l0.length : Int)) = false:=decide_eq_false c6
    clear c6
    replace H:=Option.bind_eq_some_iff.mp H
    obtain ⟨t541,A240,H⟩:=H
    replace H : (some t541) = some r:=H
    have A24:=Aside0.mk A240
    clear A240
    obtain rfl:=Option.some.inj H
    obtain ⟨Ao25,co25,eo25⟩:=Kd.R_slice HO_5.out
    subst eo25
    go_wp2_with (first|((with_reducible refine gate_callee (f:=93) rfl ?_);refine goesL_ (some 31) rfl rfl Try.func93 Q1 rfl #[.slice Ao25 x5_1.length co25] rfl Q84 ?_;(with_reducible refine (impl_gathered.calls _ _ x5_1 t541 _ ?side1 ?side2 A24.out).mono ?_);(case side1=>exact Q113);(case side2=>exact (Kd.R_reads' HO_5.out).2.1);rintro e w26 ⟨v542,rfl,ho0,hb⟩;refine ⟨_,rfl,?_⟩;have HO543:=am (Kd.R_lower (Kd.R_new' ho0 (Kd.R_lt Q21)) (below_size Q109));replace HO_5:=am (Kd.R_elder' Q21 (Kd.R_base ho0) hb);replace BK531:=am (blk_below (g:=gb531) (o:=.cells #[.int .i64 a1_0,.int .i64 a1_1] 36 (0,0)) Q75 hb);replace HB:=am (below_step Q109 hb);(try clear hb ho0)))
    go_ret
    exact ⟨_,Q18,by (with_reducible repeat (first|apply Kd.R_alloc|apply Kd.R_drewN|apply Kd.R_drew));exact Kd.R_mono HO543.out (fun _ hk=>trivial),Q109⟩
def impl_BatchAt.f (k : Nat) (l0 : List (S38)) (a1_0 : Int) (a1_1 : Int) : Option ((List (S83))) := (impl_RowsOk.f k l0).bind fun t545 => (if t545 = true then ((impl_TimeOk.f a1_0 a1_1).bind fun t546 => (if t546 = true then ((impl_present.f k l0 a1_0 a1_1).bind fun t547 => (some t547)) else (some ([] : List (S83))))) else (some ([] : List (S83))))
set_option maxHeartbeats 8000000 in
set_option maxRecDepth 100000 in
theorem impl_BatchAt.calls (k : Nat) (A0 : Option Addr) (c0 : Nat) (l0 : List (S38)) (a1_0 : Int) (a1_1 : Int) (r : List (S83)) (w : World) (hr0 : Kd.C k38 w A0 l0.length l0) (hc0 : l0.length ≤ c0) (h : impl_BatchAt.f k l0 a1_0 a1_1 = some r) :
  Calls Try.prog 46 #[.slice A0 l0.length c0,.agg #[.int .i64 a1_0,.int .i64 a1_1]] w fun e w'=>∃ v0_ : Value,e = .returned (v0_) ∧ Kd.R k83 83 w' w.heap.size (fun _=>True) v0_ r ∧ Below w.heap.size w w':=by
 have hu36:=Try.underlying36
 have HR0:=Aside0.mk hr0
 have HC0:=Aside0.mk hc0
 clear hr0 hc0
 have HB:=am (Below.refl w.heap.size w)
 have H : ((impl_RowsOk.f k l0).bind fun t545=>(if t545 = true then ((impl_TimeOk.f a1_0 a1_1).bind fun t546=>(if t546 = true then ((impl_present.f k l0 a1_0 a1_1).bind fun t547=>(some t547)) else (some ([] : List (S83))))) else (some ([] : List (S83))))) = some r:=h
 clear h
 replace H:=Option.bind_eq_some_iff.mp H
 obtain ⟨t545,A30,H⟩:=H
 replace H : (if t545 = true then ((impl_TimeOk.f a1_0 a1_1).bind fun t546=>(if t546 = true then ((impl_present.f k l0 a1_0 a1_1).bind fun t547=>(some t547)) else (some ([] : List (S83))))) else (some ([] : List (S83)))) = some r:=H
 have A3:=Aside0.mk A30
 clear A30
 by_cases c4 : t545 = true
 ·subst c4
  have H1 : ((impl_TimeOk.f a1_0 a1_1).bind fun t546=>(if t546 = true then ((impl_present.f k l0 a1_0 a1_1).bind fun t547=>(some t547)) else (some ([] : List (S83))))) = some r:=by rw [if_pos rfl] at H;exact H
  clear H
  have H:=H1
  clear H1
  replace H:=Option.bind_eq_some_iff.mp H
  obtain ⟨t546,A50,H⟩:=H
  replace H : (if t546 = true then ((impl_present.f k l0 a1_0 a1_1).bind fun t547=>(some t547)) else (some ([] : List (S83)))) = some r:=H
  have A5:=Aside0.mk A50
  clear A50
  by_cases c6 : t546 = true
  ·subst c6
   have H1 : ((impl_present.f k l0 a1_0 a1_1).bind fun t547=>(some t547)) = some r:=by rw [if_pos rfl] at H;exact H
   clear H
   have H:=H1
   clear H1
   replace H:=Option.bind_eq_some_iff.mp H
   obtain ⟨t547,A70,H⟩:=H
   replace H : (some t547) = some r:=H
   have A7:=Aside0.mk A70
   clear A70
   obtain rfl:=Option.some.inj H
   go_enter Try.func46,Try.ntmps46
   go_wp2_with (first|((with_reducible refine gate_dst (N:=3) rfl ?_);refine bE_ 3 #[.int .i64 a1_0,.int .i64 a1_1] 36 ?_;intro gb544 hg w8 hbox hb;have BK544:=am (hbox);have GW544:=am ((Q173 : w.heap.size ≤ gb544));replace HB:=am (below_step Q80 hb);have GE544:=GW544;clear hb hbox hg)|((with_reducible refine gate_callee (f:=39) rfl ?_);refine goesL_ (some 6) rfl rfl Try.func39 Q1 rfl #[.slice A0 l0.length c0] rfl Q84 ?_;(with_reducible refine (impl_RowsOk.calls k _ _ l0 true _ ?side1 ?side2 A3.out).mono ?_);(case side1=>exact Q115);(case side2=>exact HC0.out);rintro e w9 ⟨rfl,hb⟩;refine ⟨_,rfl,?_⟩;replace BK544:=am (blk_below (g:=gb544) (o:=.cells #[.int .i64 a1_0,.int .i64 a1_1] 36 (0,0)) Q76 hb);replace HB:=am (below_step Q110 hb);(try clear hb);obtain ⟨hcz10_0,hcz10_1,hfz10_0,hfz10_1⟩:=bx2_ BK544)|(go_at_call 62;(with_reducible refine (impl_TimeOk.calls a1_0 a1_1 true _ A5.out).mono ?_);rintro e w11 ⟨rfl,hb⟩;replace BK544:=am (blk_below (g:=gb544) (o:=.cells #[.int .i64 a1_0,.int .i64 a1_1] 36 (0,0)) Q76 hb);replace HB:=am (below_step Q110 hb);(try clear hb);obtain ⟨hcz12_0,hcz12_1,hfz12_0,hfz12_1⟩:=bx2_ BK544)|((with_reducible refine gate_callee (f:=78) rfl ?_);refine goesL_ (some 15) rfl rfl Try.func78 Q1 rfl #[.slice A0 l0.length c0,.agg #[.int .i64 a1_0,.int .i64 a1_1]] rfl Q84 ?_;(with_reducible refine (impl_present.calls k _ _ l0 a1_0 a1_1 t547 _ ?side1 ?side2 A7.out).mono ?_);(case side1=>exact Q115);(case side2=>exact HC0.out);rintro e w13 ⟨v548,rfl,ho0,hb⟩;refine ⟨_,rfl,?_⟩;have HO549:=am (Kd.R_lower ho0 (below_size Q110));replace BK544:=am (blk_below (g:=gb544) (o:=.cells #[.int .i64 a1_0,.int .i64 a1_1] 36 (0,0)) Q76 hb);replace HB:=am (below_step Q110 hb);(try clear hb ho0)))
   go_ret
   exact ⟨_,Q18,by (with_reducible repeat (first|apply Kd.R_alloc|apply Kd.R_drewN|apply Kd.R_drew));exact HO549.out,Q110⟩
  ·replace c6:=Bool.eq_false_iff.mpr c6
   subst c6
   have H1 : (some ([] : List (S83))) = some r:=by rw [if_neg (show ¬ (false = true) by decide)] at H;exact H
   clear H
   have H:=H1
   clear H1
   obtain rfl:=Option.some.inj H
   go_enter Try.func46,Try.ntmps46
   go_wp2_with (first|((with_reducible refine gate_dst (N:=3) rfl ?_);refine bE_ 3 #[.int .i64 a1_0,.int .i64 a1_1] 36 ?_;intro gb544 hg w14 hbox hb;have BK544:=am (hbox);have GW544:=am ((Q173 : w.heap.size ≤ gb544));replace HB:=am (below_step Q80 hb);have GE544:=GW544;clear hb hbox hg)|((with_reducible refine gate_callee (f:=39) rfl ?_);refine goesL_ (some 6) rfl rfl Try.func39 Q1 rfl #[.slice A0 l0.length c0] rfl Q84 ?_;(with_reducible refine (impl_RowsOk.calls k _ _ l0 true _ ?side1 ?side2 A3.out).mono ?_);(case side1=>exact Q115);(case side2=>exact HC0.out);rintro e w15 ⟨rfl,hb⟩;refine ⟨_,rfl,?_⟩;replace BK544:=am (blk_below (g:=gb544) (o:=.cells #[.int .i64 a1_0,.int .i64 a1_1] 36 (0,0)) Q76 hb);replace HB:=am (below_step Q110 hb);(try clear hb);obtain ⟨hcz16_0,hcz16_1,hfz16_0,hfz16_1⟩:=bx2_ BK544)|(go_at_call 62;(with_reducible refine (impl_TimeOk.calls a1_0 a1_1 false _ A5.out).mono ?_);rintro e w17 ⟨rfl,hb⟩;replace BK544:=am (blk_below (g:=gb544) (o:=.cells #[.int .i64 a1_0,.int .i64 a1_1] 36 (0,0)) Q76 hb);replace HB:=am (below_step Q110 hb);(try clear hb)))
   go_ret
   exact ⟨_,Q18,Q85,Q110⟩
 ·replace c4:=Bool.eq_false_iff.mpr c4
  subst c4
  have H1 : (some ([] : List (S83))) = some r:=by rw [if_neg (show ¬ (false = true) by decide)] at H;exact H
  clear H
  have H:=H1
  clear H1
  obtain rfl:=Option.some.inj H
  go_enter Try.func46,Try.ntmps46
  go_wp2_with (first|((with_reducible refine gate_dst (N:=3) rfl ?_);refine bE_ 3 #[.int .i64 a1_0,.int .i64 a1_1] 36 ?_;intro gb544 hg w18 hbox hb;have BK544:=am (hbox);have GW544:=am ((Q173 : w.heap.size ≤ gb544));replace HB:=am (below_step Q80 hb);have GE544:=GW544;clear hb hbox hg)|((with_reducible refine gate_callee (f:=39) rfl ?_);refine goesL_ (some 6) rfl rfl Try.func39 Q1 rfl #[.slice A0 l0.length c0] rfl Q84 ?_;(with_reducible refine (impl_RowsOk.calls k _ _ l0 false _ ?side1 ?side2 A3.out).mono ?_);(case side1=>exact Q115);(case side2=>exact HC0.out);rintro e w19 ⟨rfl,hb⟩;refine ⟨_,rfl,?_⟩;replace BK544:=am (blk_below (g:=gb544) (o:=.cells #[.int .i64 a1_0,.int .i64 a1_1] 36 (0,0)) Q76 hb);replace HB:=am (below_step Q110 hb);(try clear hb)))
  go_ret
  exact ⟨_,Q18,Q85,Q110⟩
mutual
def laws_lwAll.l0 : Nat → List (S36) → Int → Option ((List (S36)))
 | 0, _, _ => none
 | k + 1, x1, x2 => if x2 ≤ 7 then (laws_lwAll.l1 k x1 x2 0) else (some x1)
def laws_lwAll.l1 : Nat → List (S36) → Int → Int → Option ((List (S36)))
 | 0, _, _, _ => none
 | k + 1, x1, x2, x3 => if x3 ≤ 7 then (if x1.length < 8796093022208 then (laws_lwAll.l1 k (x1 ++ [(⟨x2, x3⟩ : S36)]) x2 (wrap64 (x3 + 1))) else (none)) else (laws_lwAll.l0 k x1 (wrap64 (x2 + 1)))
end
def laws_lwAll.f (k : Nat)  : Option ((List (S36))) := laws_lwAll.l0 k (([] : List (S36))) 0
theorem laws_lwAll.mono_l : ∀ k,(∀ y0 y1,LeO (laws_lwAll.l0 k y0 y1) (laws_lwAll.l0 (k + 1) y0 y1)) ∧ (∀ y0 y1 y2,LeO (laws_lwAll.l1 k y0 y1 y2) (laws_lwAll.l1 (k + 1) y0 y1 y2))
 | 0=>⟨fun _ _ r h=>by simp [laws_lwAll.l0] at h,fun _ _ _ r h=>by simp [laws_lwAll.l1] at h⟩
 | k + 1=>by
  obtain ⟨ih0,ih1⟩:=laws_lwAll.mono_l k
  refine ⟨?_,?_⟩
  ·intro y0 y1
   unfold laws_lwAll.l0
   repeat' first
   | (with_reducible exact ih0 _ _)
   | (with_reducible exact ih1 _ _ _)
   | (with_reducible exact LeO.refl _)
   | (with_reducible exact LeO.none _)
   | (with_reducible refine LeO.ite ?_ ?_)
   | (with_reducible refine LeO.bind ?_ (fun _=>?_))
   | exact ih0 _ _
   | exact ih1 _ _ _
   | exact LeO.none _
   | refine LeO.ite ?_ ?_
   | refine LeO.bind ?_ (fun _=>?_)
  ·intro y0 y1 y2
   unfold laws_lwAll.l1
   repeat' first
   | (with_reducible exact ih0 _ _)
   | (with_reducible exact ih1 _ _ _)
   | (with_reducible exact LeO.refl _)
   | (with_reducible exact LeO.none _)
   | (with_reducible refine LeO.ite ?_ ?_)
   | (with_reducible refine LeO.bind ?_ (fun _=>?_))
   | exact ih0 _ _
   | exact ih1 _ _ _
   | exact LeO.none _
   | refine LeO.ite ?_ ?_
   | refine LeO.bind ?_ (fun _=>?_)
theorem laws_lwAll.mono : ∀ k,LeO (laws_lwAll.f k ) (laws_lwAll.f (k + 1) ):=by
 intro  k
 obtain ⟨ih0,ih1⟩:=laws_lwAll.mono_l k
 unfold laws_lwAll.f
 repeat' first
   | (with_reducible exact ih0 _ _)
   | (with_reducible exact ih1 _ _ _)
   | (with_reducible exact LeO.refl _)
   | (with_reducible exact LeO.none _)
   | (with_reducible refine LeO.ite ?_ ?_)
   | (with_reducible refine LeO.bind ?_ (fun _=>?_))
   | exact ih0 _ _
   | exact ih1 _ _ _
   | exact LeO.none _
   | refine LeO.ite ?_ ?_
   | refine LeO.bind ?_ (fun _=>?_)
set_option maxHeartbeats 8000000 in
set_option maxRecDepth 100000 in
theorem laws_lwAll.calls (k : Nat)  (r : List (S36)) (w : World) (h : laws_lwAll.f k  = some r) :
  Calls Try.prog 65 #[] w fun e w'=>∃ v0_ : Value,e = .returned (v0_) ∧ Kd.R k36 36 w' w.heap.size (fun _=>True) v0_ r ∧ Below w.heap.size w w':=by
 have hu36:=Try.underlying36
 have HB:=am (Below.refl w.heap.size w)
 have H : (laws_lwAll.l0 k (([] : List (S36))) 0) = some r:=h
 clear h
 obtain ⟨y550,hy_⟩ : ∃ y_ : List (S36),y_ = (([] : List (S36))):=⟨_,rfl⟩
 replace H : (laws_lwAll.l0 k y550 0) = some r:=Q162
 have Ny550:=Aside0.mk hy_
 clear hy_
 have H':=Aside0.mk H
 clear H
 go_enter Try.func65,Try.ntmps65
 go_wp2_with (first|((with_reducible refine gate_dst (N:=4) rfl ?_);refine Kd.R_lit k36 _ 36 ?hg (N:=4) ?hd (xs:=([] : List (S36))) (inner:=[]) (ok:=fun _=>True) (okp:=fun _=>True) ?hr ?hp (fun _ hk=>hk) trivial (Below.refl _ _) (Nat.le_refl _) (by simp) ?_;(case hd=>rfl);(case hg=>rfl);(case hr=>first|(go_simp;done)|(go_simp;rfl));(case hp=>exact (Reps.none _ _));intro v551 w1 ho2 hb hg_ hnew_;clear hg_ hnew_;(first|rw [← Ny550.out] at ho2|(simp only [Int.reduceToNat] at ho2;rw [← Ny550.out] at ho2));have HO552:=am (Kd.R_lower ho2 (below_size Q80));replace HB:=am (below_step Q80 hb);clear hb ho2))
 go_loopg [1,2] k (fun kq v1 v2 w'=>∃ (x1_1 : List (S36)) (x2_1 : Int),v2 = .int .i64 x2_1 ∧ Aside0 (laws_lwAll.l0 kq x1_1 x2_1 = some r) ∧ Aside0 (kq ≤ k) ∧ Aside0 (Kd.R k36 36 w' w.heap.size (fun _=>True) v1 x1_1) ∧ Aside0 (Below w.heap.size w w'))
 case atStart=>exact ⟨(y550),(0),Q7,H',⟨Nat.le_refl _⟩,⟨by (with_reducible repeat (first|apply Kd.R_alloc|apply Kd.R_drewN|apply Kd.R_drew));exact HO552.out⟩,⟨Q80⟩⟩
 case round =>
  clear H'
  try clear p2
  obtain ⟨x1_1,x2_1,rfl,HA,HK1,HO_1,HB⟩:=hrel
  cases gk with
  | zero=>exact absurd HA.out (by simp [laws_lwAll.l0])
  | succ k1 =>
   have H:=HA.out
   clear HA
   simp only [laws_lwAll.l0] at H
   by_cases c3 : x2_1 ≤ 7
   ·rw [if_pos c3] at H
    have c3b0 : decide (x2_1 ≤ 7) = true:=decide_eq_true c3
    clear c3
    have H':=Aside0.mk H
    clear H
    go_wp2
    go_loopg [1,3] k1 (fun kq v1 v3 w'=>∃ (x1_2 : List (S36)) (x3_2 : Int),v3 = .int .i64 x3_2 ∧ Aside0 (laws_lwAll.l1 kq x1_2 x2_1 x3_2 = some r) ∧ Aside0 (kq ≤ k1) ∧ Aside0 (Kd.R k36 36 w' w.heap.size (fun _=>True) v1 x1_2) ∧ Aside0 (Below w.heap.size w w'))
    case atStart=>exact ⟨(x1_1),(0),Q7,H',⟨Nat.le_refl _⟩,⟨Q23⟩,⟨Q80⟩⟩
    case round =>
     clear H'
     try clear p2
     try clear c3
     try clear c3b0
     try clear p2
     obtain ⟨x1_2,x3_2,rfl,HA,HK2,HO_1,HB⟩:=hrel
     cases gk with
     | zero=>exact absurd HA.out (by simp [laws_lwAll.l1])
     | succ k2 =>
      have H:=HA.out
      clear HA
      simp only [laws_lwAll.l1] at H
      by_cases c4 : x3_2 ≤ 7
      ·rw [if_pos c4] at H
       have c4b0 : decide (x3_2 ≤ 7) = true:=decide_eq_true c4
       clear c4
       have c5 : x1_2.length < 8796093022208:=nn_ H
       rw [if_pos c5] at H
       have LMc5:=Aside0.mk c5
       clear c5
       obtain ⟨y553,hy_⟩ : ∃ y_ : List (S36),y_ = (x1_2 ++ [(⟨x2_1,x3_2⟩ : S36)]):=⟨_,rfl⟩
       replace H : (laws_lwAll.l1 k2 y553 x2_1 (wrap64 (x3_2 + 1))) = some r:=Q162
       have Ny553:=Aside0.mk hy_
       clear hy_
       have H':=Aside0.mk H
       clear H
       go_wp2_with (first|((with_reducible refine gate_builtin (b:=.append) (xs:=#[.tmp 13,.tmp 17]) rfl ?_);at_builtin;refine Kd.R_append k36 (w0:=w) w.heap.size rfl (.tmp 13) (.tmp 17) 24 36 (.agg #[(.int .i64 0),(.int .i64 0)]) 16 rfl Try.underlying24 info36 rfl Q0 (by omega) u1 x1_2 (⟨x2_1,x3_2⟩ : S36) [.int .i64 x2_1,.int .i64 x3_2] (fun _=>True) (fun _=>False) rfl rfl ?aP (fun _ hk=>hk.elim) ?aF ?aO ?aB ?aS ?aL ?_;(case aP=>exact k36_mkM _ _ _ (⟨x2_1,x3_2⟩ : S36));(case aB=>exact Q80);(case aF=>exact (fun _ _=>trivial));(case aO=>exact Q23);(case aS=>exact (below_size Q80));(case aL=>have:=LMc5.out;omega);intro v554 w6 ho hb hg hat;rw [← Ny553.out] at ho;replace HB:=am (hb);have HO555:=am (ho);clear HO_1;clear ho hb hg hat))
       go_roundg k2
       case measure=>have:=HK1.out;have:=HK2.out;omega
       case rel=>exact ⟨(y553),(wrap64 (x3_2 + 1)),Q7,H',⟨Q6⟩,⟨by (with_reducible repeat (first|apply Kd.R_alloc|apply Kd.R_drewN|apply Kd.R_drew));exact HO555.out⟩,⟨Q80⟩⟩
      ·rw [if_neg c4] at H
       have c4b0 : decide (x3_2 ≤ 7) = false:=decide_eq_false c4
       clear c4
       have H':=Aside0.mk H
       clear H
       go_wp2
       go_roundg k2
       case measure=>have:=HK1.out;have:=HK2.out;omega
       case rel=>exact ⟨(x1_2),(wrap64 (x2_1 + 1)),Q7,H',⟨Q6⟩,⟨Q23⟩,⟨Q80⟩⟩
   ·rw [if_neg c3] at H
    have c3b0 : decide (x2_1 ≤ 7) = false:=decide_eq_false c3
    clear c3
    obtain rfl:=Option.some.inj H
    go_wp2
    go_ret
    exact ⟨_,Q18,Q23,Q80⟩
def spec_FrontCovers.l0 : Nat → List (S36) → Int → Int → Int → Option (Bool)
 | 0, _, _, _, _ => none
 | k + 1, x0, x5, x557000, x557001 => if x5 < (x0.length : Int) then (if 0 ≤ x5 then ((spec_TimeLess.f ((rd_T36 x0 x5).f0) ((rd_T36 x0 x5).f1) x557000 x557001).bind fun t559 => (if t559 = true then (some true) else (spec_FrontCovers.l0 k x0 (wrap64 (x5 + 1)) x557000 x557001))) else (none)) else (some false)
def spec_FrontCovers.f (k : Nat) (l0 : List (S36)) (a1_0 : Int) (a1_1 : Int) : Option (Bool) := (spec_FrontOk.f k l0).bind fun t557 => (if t557 = true then (spec_FrontCovers.l0 k l0 0 a1_0 a1_1) else (some false))
set_option maxHeartbeats 8000000 in
set_option maxRecDepth 100000 in
theorem spec_FrontCovers.calls (k : Nat) (A0 : Option Addr) (c0 : Nat) (l0 : List (S36)) (a1_0 : Int) (a1_1 : Int) (r : Bool) (w : World) (hr0 : Kd.C k36 w A0 l0.length l0) (hc0 : l0.length ≤ c0) (h : spec_FrontCovers.f k l0 a1_0 a1_1 = some r) :
  Calls Try.prog 66 #[.slice A0 l0.length c0,.agg #[.int .i64 a1_0,.int .i64 a1_1]] w fun e w'=>e = .returned (.bool r) ∧ Below w.heap.size w w':=by
 have hu36:=Try.underlying36
 have HR0:=Aside0.mk hr0
 have HC0:=Aside0.mk hc0
 clear hr0 hc0
 have HB:=am (Below.refl w.heap.size w)
 have H : ((spec_FrontOk.f k l0).bind fun t557=>(if t557 = true then (spec_FrontCovers.l0 k l0 0 a1_0 a1_1) else (some false))) = some r:=h
 clear h
 replace H:=Option.bind_eq_some_iff.mp H
 obtain ⟨t557,A30,H⟩:=H
 replace H : (if t557 = true then (spec_FrontCovers.l0 k l0 0 a1_0 a1_1) else (some false)) = some r:=H
 have A3:=Aside0.mk A30
 clear A30
 by_cases c4 : t557 = true
 ·subst c4
  have H1 : (spec_FrontCovers.l0 k l0 0 a1_0 a1_1) = some r:=by rw [if_pos rfl] at H;exact H
  clear H
  have H:=H1
  clear H1
  have H':=Aside0.mk H
  clear H
  go_enter Try.func66,Try.ntmps66
  go_wp2_with (first|((with_reducible refine gate_dst (N:=3) rfl ?_);refine bE_ 3 #[.int .i64 a1_0,.int .i64 a1_1] 36 ?_;intro gb556 hg w5 hbox hb;have BK556:=am (hbox);have GW556:=am ((Q173 : w.heap.size ≤ gb556));replace HB:=am (below_step Q80 hb);have GE556:=GW556;clear hb hbox hg)|((with_reducible refine gate_callee (f:=21) rfl ?_);refine goesL_ (some 7) rfl rfl Try.func21 Q1 rfl #[.slice A0 l0.length c0] rfl Q84 ?_;(with_reducible refine (spec_FrontOk.calls k _ _ l0 true _ ?side1 ?side2 A3.out).mono ?_);(case side1=>exact Q115);(case side2=>exact HC0.out);rintro e w6 ⟨rfl,hb⟩;refine ⟨_,rfl,?_⟩;replace BK556:=am (blk_below (g:=gb556) (o:=.cells #[.int .i64 a1_0,.int .i64 a1_1] 36 (0,0)) Q77 hb);replace HB:=am (below_step Q111 hb);(try clear hb)))
  go_loopg [5] k (fun kq v5 w'=>∃ (x5_1 : Int),v5 = .int .i64 x5_1 ∧ Aside0 (spec_FrontCovers.l0 kq l0 x5_1 a1_0 a1_1 = some r) ∧ Aside0 (kq ≤ k) ∧ Aside0 (w'.heap[gb556]? = some (.cells #[.int .i64 a1_0,.int .i64 a1_1] 36 (0,0))) ∧ Aside0 (Below w.heap.size w w'))
  case atStart=>exact ⟨(0),Q7,H',⟨Nat.le_refl _⟩,⟨Q77⟩,⟨Q111⟩⟩
  case round =>
   clear H'
   try clear c2
   try clear p2
   try clear c4
   try clear c6
   obtain ⟨x5_1,rfl,HA,HK1,BK556,HB⟩:=hrel
   cases gk with
   | zero=>exact absurd HA.out (by simp [spec_FrontCovers.l0])
   | succ k1 =>
    have H:=HA.out
    clear HA
    simp only [spec_FrontCovers.l0] at H
    by_cases c7 : x5_1 < (l0.length : Int)
    ·rw [if_pos c7] at H
     have c7b0 : decide (x5_1 < (l0.length : Int)) = true:=decide_eq_true c7
     clear c7
     have c8 : 0 ≤ x5_1:=nn_ H
     rw [if_pos c8] at H
     have c8b0 : decide (0 ≤ x5_1) = true:=decide_eq_true c8
     clear c8
     replace H:=Option.bind_eq_some_iff.mp H
     obtain ⟨t559,A90,H⟩:=H
     replace H : (if t559 = true then (some true) else (spec_FrontCovers.l0 k1 l0 (wrap64 (x5_1 + 1)) a1_0 a1_1)) = some r:=H
     have A9:=Aside0.mk A90
     clear A90
     by_cases c10 : t559 = true
     ·subst c10
      have H1 : (some true) = some r:=by rw [if_pos rfl] at H;exact H
      clear H
      have H:=H1
      clear H1
      obtain rfl:=Option.some.inj H
      try go_wp2
      replace BK556:=am (blk_drew BK556.out)
      replace HB:=am (below_drew1 HB.out)
      have p558 : 0 ≤ (x5_1 : Int):=of_decide_eq_true Q8
      have q558 : x5_1 < (l0.length : Int):=of_decide_eq_true Q8
      obtain ⟨ad558,e558,hx558_0,hx558_1⟩:=at_T36 HR0.out x5_1 p558 q558
      have hw558_1:=hx558_1
      have hw558_0:=hx558_0
      cases e558
      replace hx558_0:=cb_ HB hx558_0
      replace hx558_1:=cb_ HB hx558_1
      replace p558:=eq_true p558
      replace q558:=eq_true q558
      refine start_ (n:=6) (S:=fun w'=>w'.cell? ⟨gb556,0,none⟩ = some (.int .i64 a1_0) ∧ w'.cell? ⟨gb556,1,none⟩ = some (.int .i64 a1_1) ∧ w'.cell? (ad558.add ((x5_1).toNat * 2)) = some (.int .i64 ((rd_T36 l0 x5_1).f0)) ∧ w'.cell? ⟨(ad558.add ((x5_1).toNat * 2)).block,(ad558.add ((x5_1).toNat * 2)).off + 1,none⟩ = some (.int .i64 ((rd_T36 l0 x5_1).f1))) (ds:=[]) b6_0 Q1 rfl rfl ⟨(blk_cell BK556.out 0).trans rfl,(blk_cell BK556.out 1).trans rfl,(cb_ HB hw558_0:),(cb_ HB hw558_1:)⟩ (fun hHeld=>?_)
      generalize wr.drew = w11 at BK556 HB hx558_0 hx558_1 hHeld ⊢
      refine pU_ 0 15 b6_1 ?_
      refine pU_ 1 16 b6_2 ?_
      refine pU_ 2 17 b6_3 ?_
      refine tU_ 3 18 b6_4 hHeld ?_
      refine tU_ 4 19 b6_5 hHeld ?_
      refine one_ (i:=5) (N:=some 20) b6_6 rfl rfl Q1 Q0 (fun K hK=>?_)
      refine goes_ Try.func76 Q1 rfl #[.agg #[.int .i64 ((rd_T36 l0 x5_1).f0),.int .i64 ((rd_T36 l0 x5_1).f1)],.agg #[.int .i64 a1_0,.int .i64 a1_1]] (by rfl) rfl rfl Q84 ?_
      with_reducible refine (spec_TimeLess.calls ((rd_T36 l0 x5_1).f0) ((rd_T36 l0 x5_1).f1) a1_0 a1_1 true _ A9.out).mono ?_
      rintro e w12 ⟨rfl,hb⟩
      refine ⟨_,rfl,?_⟩
      replace BK556:=am (blk_below (g:=gb556) (o:=.cells #[.int .i64 a1_0,.int .i64 a1_1] 36 (0,0)) Q77 hb)
      replace HB:=am (below_step Q111 hb)
      (try clear hb)
      (try clear hb2)
      (try clear hk)
      (try clear hi)
      refine hK.out _ _ ⟨(blk_cell BK556.out 0).trans rfl,(blk_cell BK556.out 1).trans rfl,(cb_ HB hw558_0:),(cb_ HB hw558_1:)⟩ (fun hHeld=>?_)
      clear hK K
      refine norm_ (a':=?_) ?_ ?_
      rotate_left
      ·show Act.put _ (some 20) _ = _
       simp only [Act.put,sA_,sZ_,sS_,i64_w,i32_w]
       rfl
      refine done_ Q1 ?_
      try go_wp2
      go_ret
      exact ⟨Q18,Q111⟩
     ·replace c10:=Bool.eq_false_iff.mpr c10
      subst c10
      have H1 : (spec_FrontCovers.l0 k1 l0 (wrap64 (x5_1 + 1)) a1_0 a1_1) = some r:=by rw [if_neg (show ¬ (false = true) by decide)] at H;exact H
      clear H
      have H:=H1
      clear H1
      have H':=Aside0.mk H
      clear H
      try go_wp2
      replace BK556:=am (blk_drew BK556.out)
      replace HB:=am (below_drew1 HB.out)
      have p558 : 0 ≤ (x5_1 : Int):=of_decide_eq_true Q8
      have q558 : x5_1 < (l0.length : Int):=of_decide_eq_true Q8
      obtain ⟨ad558,e558,hx558_0,hx558_1⟩:=at_T36 HR0.out x5_1 p558 q558
      have hw558_1:=hx558_1
      have hw558_0:=hx558_0
      cases e558
      replace hx558_0:=cb_ HB hx558_0
      replace hx558_1:=cb_ HB hx558_1
      replace p558:=eq_true p558
      replace q558:=eq_true q558
      refine start_ (n:=6) (S:=fun w'=>w'.cell? ⟨gb556,0,none⟩ = some (.int .i64 a1_0) ∧ w'.cell? ⟨gb556,1,none⟩ = some (.int .i64 a1_1) ∧ w'.cell? (ad558.add ((x5_1).toNat * 2)) = some (.int .i64 ((rd_T36 l0 x5_1).f0)) ∧ w'.cell? ⟨(ad558.add ((x5_1).toNat * 2)).block,(ad558.add ((x5_1).toNat * 2)).off + 1,none⟩ = some (.int .i64 ((rd_T36 l0 x5_1).f1))) (ds:=[]) b6_0 Q1 rfl rfl ⟨(blk_cell BK556.out 0).trans rfl,(blk_cell BK556.out 1).trans rfl,(cb_ HB hw558_0:),(cb_ HB hw558_1:)⟩ (fun hHeld=>?_)
      generalize wr.drew = w13 at BK556 HB hx558_0 hx558_1 hHeld ⊢
      refine pU_ 0 15 b6_1 ?_
      refine pU_ 1 16 b6_2 ?_
      refine pU_ 2 17 b6_3 ?_
      refine tU_ 3 18 b6_4 hHeld ?_
      refine tU_ 4 19 b6_5 hHeld ?_
      refine one_ (i:=5) (N:=some 20) b6_6 rfl rfl Q1 Q0 (fun K hK=>?_)
      refine goes_ Try.func76 Q1 rfl #[.agg #[.int .i64 ((rd_T36 l0 x5_1).f0),.int .i64 ((rd_T36 l0 x5_1).f1)],.agg #[.int .i64 a1_0,.int .i64 a1_1]] (by rfl) rfl rfl Q84 ?_
      with_reducible refine (spec_TimeLess.calls ((rd_T36 l0 x5_1).f0) ((rd_T36 l0 x5_1).f1) a1_0 a1_1 false _ A9.out).mono ?_
      rintro e w14 ⟨rfl,hb⟩
      refine ⟨_,rfl,?_⟩
      replace BK556:=am (blk_below (g:=gb556) (o:=.cells #[.int .i64 a1_0,.int .i64 a1_1] 36 (0,0)) Q77 hb)
      replace HB:=am (below_step Q111 hb)
      (try clear hb)
      (try clear hb2)
      (try clear hk)
      (try clear hi)
      refine hK.out _ _ ⟨(blk_cell BK556.out 0).trans rfl,(blk_cell BK556.out 1).trans rfl,(cb_ HB hw558_0:),(cb_ HB hw558_1:)⟩ (fun hHeld=>?_)
      clear hK K
      refine norm_ (a':=?_) ?_ ?_
      rotate_left
      ·show Act.put _ (some 20) _ = _
       simp only [Act.put,sA_,sZ_,sS_,i64_w,i32_w]
       rfl
      refine done_ Q1 ?_
      try go_wp2
      go_roundg k1
      case measure=>have:=HK1.out;omega
      case rel=>exact ⟨(wrap64 (x5_1 + 1)),Q7,H',⟨Q3⟩,⟨Q77⟩,⟨Q111⟩⟩
    ·rw [if_neg c7] at H
     have c7b0 : decide (x5_1 < (l0.length : Int)) = false:=decide_eq_false c7
     clear c7
     obtain rfl:=Option.some.inj H
     go_wp2
     go_ret
     exact ⟨Q18,Q111⟩
 ·replace c4:=Bool.eq_false_iff.mpr c4
  subst c4
  have H1 : (some false) = some r:=by rw [if_neg (show ¬ (false = true) by decide)] at H;exact H
  clear H
  have H:=H1
  clear H1
  obtain rfl:=Option.some.inj H
  go_enter Try.func66,Try.ntmps66
  go_wp2_with (first|((with_reducible refine gate_dst (N:=3) rfl ?_);refine bE_ 3 #[.int .i64 a1_0,.int .i64 a1_1] 36 ?_;intro gb556 hg w15 hbox hb;have BK556:=am (hbox);have GW556:=am ((Q173 : w.heap.size ≤ gb556));replace HB:=am (below_step Q80 hb);have GE556:=GW556;clear hb hbox hg)|((with_reducible refine gate_callee (f:=21) rfl ?_);refine goesL_ (some 7) rfl rfl Try.func21 Q1 rfl #[.slice A0 l0.length c0] rfl Q84 ?_;(with_reducible refine (spec_FrontOk.calls k _ _ l0 false _ ?side1 ?side2 A3.out).mono ?_);(case side1=>exact Q115);(case side2=>exact HC0.out);rintro e w16 ⟨rfl,hb⟩;refine ⟨_,rfl,?_⟩;replace BK556:=am (blk_below (g:=gb556) (o:=.cells #[.int .i64 a1_0,.int .i64 a1_1] 36 (0,0)) Q77 hb);replace HB:=am (below_step Q111 hb);(try clear hb)))
  go_ret
  exact ⟨Q18,Q111⟩
def laws_lwItems.l0 : Nat → List (S83) → List (S83) → Int → Option (Bool)
 | 0, _, _, _ => none
 | k + 1, x0, x1, x5 => if x5 < (x0.length : Int) then (if 0 ≤ x5 then (if x5 < (x1.length : Int) then (if (!(((rd_T83 x0 x5).f0) == ((rd_T83 x1 x5).f0)) || (!(((rd_T83 x0 x5).f1) == ((rd_T83 x1 x5).f1)) || (!(((rd_T83 x0 x5).f2) == ((rd_T83 x1 x5).f2))))) = true then (some false) else (laws_lwItems.l0 k x0 x1 (wrap64 (x5 + 1)))) else (none)) else (none)) else (some true)
def laws_lwItems.f (k : Nat) (l0 : List (S83)) (l1 : List (S83)) : Option (Bool) := if (l0.length : Int) = (l1.length : Int) then (laws_lwItems.l0 k l0 l1 0) else (some false)
set_option maxHeartbeats 8000000 in
set_option maxRecDepth 100000 in
theorem laws_lwItems.calls (k : Nat) (A0 : Option Addr) (c0 : Nat) (l0 : List (S83)) (A1 : Option Addr) (c1 : Nat) (l1 : List (S83)) (r : Bool) (w : World) (hr0 : Kd.C k83 w A0 l0.length l0) (hc0 : l0.length ≤ c0) (hr1 : Kd.C k83 w A1 l1.length l1) (hc1 : l1.length ≤ c1) (h : laws_lwItems.f k l0 l1 = some r) :
  Calls Try.prog 67 #[.slice A0 l0.length c0,.slice A1 l1.length c1] w fun e w'=>e = .returned (.bool r) ∧ Drawn0 w w':=by
 have hu83:=Try.underlying83
 have HR0:=Aside0.mk hr0
 have HC0:=Aside0.mk hc0
 clear hr0 hc0
 have HR1:=Aside0.mk hr1
 have HC1:=Aside0.mk hc1
 clear hr1 hc1
 have H : (if (l0.length : Int) = (l1.length : Int) then (laws_lwItems.l0 k l0 l1 0) else (some false)) = some r:=h
 clear h
 by_cases c3 : (l0.length : Int) = (l1.length : Int)
 ·rw [if_pos c3] at H
  have c3b0 : ((l0.length : Int) == (l1.length : Int)) = true:=beq_iff_eq.mpr c3
  have c3b1 : ((l0.length : Int) != (l1.length : Int)) = false:=bne_eq_false_iff_eq.mpr c3
  have c3b2 : (l0.length == l1.length) = true:=by first|simpa using c3|(simp at c3 ⊢;omega)
  clear c3
  have H':=Aside0.mk H
  clear H
  go_enter Try.func67,Try.ntmps67
  go_wp2
  repeat (go_quiet (fail);try go_wp2)
  go_loopg [5] k (fun kq v5 w'=>∃ (x5_1 : Int),v5 = .int .i64 x5_1 ∧ Aside0 (laws_lwItems.l0 kq l0 l1 x5_1 = some r) ∧ Aside0 (kq ≤ k) ∧ Drawn0 w w')
  case atStart=>exact ⟨(0),Q7,H',⟨Nat.le_refl _⟩,Q10⟩
  case round =>
   clear H'
   try clear c1
   try clear p2
   try clear c3
   try clear c3b0
   try clear c3b1
   try clear c3b2
   obtain ⟨x5_1,rfl,HA,HK1,⟨m1,rfl⟩⟩:=hrel
   cases gk with
   | zero=>exact absurd HA.out (by simp [laws_lwItems.l0])
   | succ k1 =>
    have H:=HA.out
    clear HA
    simp only [laws_lwItems.l0] at H
    by_cases c4 : x5_1 < (l0.length : Int)
    ·rw [if_pos c4] at H
     have c4b0 : decide (x5_1 < (l0.length : Int)) = true:=decide_eq_true c4
     clear c4
     have c5 : 0 ≤ x5_1:=nn_ H
     rw [if_pos c5] at H
     have c5b0 : decide (0 ≤ x5_1) = true:=decide_eq_true c5
     clear c5
     have c6 : x5_1 < (l1.length : Int):=nn_ H
     rw [if_pos c6] at H
     have c6b0 : decide (x5_1 < (l1.length : Int)) = true:=decide_eq_true c6
     clear c6
     by_cases c7 : (!(((rd_T83 l0 x5_1).f0) == ((rd_T83 l1 x5_1).f0)) || (!(((rd_T83 l0 x5_1).f1) == ((rd_T83 l1 x5_1).f1)) || (!(((rd_T83 l0 x5_1).f2) == ((rd_T83 l1 x5_1).f2))))) = true
     ·rw [if_pos c7] at H
      have c7b0 : (!(((rd_T83 l0 x5_1).f0) == ((rd_T83 l1 x5_1).f0)) || (!(((rd_T83 l0 x5_1).f1) == ((rd_T83 l1 x5_1).f1)) || (!(((rd_T83 l0 x5_1).f2) == ((rd_T83 l1 x5_1).f2))))) = true:=c7
      clear c7
      obtain rfl:=Option.some.inj H
      have p560 : 0 ≤ (x5_1 : Int):=of_decide_eq_true Q8
      have q560 : x5_1 < (l0.length : Int):=of_decide_eq_true Q8
      obtain ⟨ad560,e560,hx560_0,hx560_1,hx560_2⟩:=at_T83 HR0.out x5_1 p560 q560
      cases e560
      replace p560:=eq_true p560
      replace q560:=eq_true q560
      have p561 : 0 ≤ (x5_1 : Int):=of_decide_eq_true Q8
      have q561 : x5_1 < (l1.length : Int):=of_decide_eq_true Q8
      obtain ⟨ad561,e561,hx561_0,hx561_1,hx561_2⟩:=at_T83 HR1.out x5_1 p561 q561
      cases e561
      replace p561:=eq_true p561
      replace q561:=eq_true q561
      go_wp2
      repeat (go_quiet (fail);try go_wp2)
      go_ret
      exact ⟨Q7,Q10⟩
     ·rw [if_neg c7] at H
      have c7b0 : (!(((rd_T83 l0 x5_1).f0) == ((rd_T83 l1 x5_1).f0)) || (!(((rd_T83 l0 x5_1).f1) == ((rd_T83 l1 x5_1).f1)) || (!(((rd_T83 l0 x5_1).f2) == ((rd_T83 l1 x5_1).f2))))) = false:=by simpa using c7
      clear c7
      have H':=Aside0.mk H
      clear H
      have p560 : 0 ≤ (x5_1 : Int):=of_decide_eq_true Q8
      have q560 : x5_1 < (l0.length : Int):=of_decide_eq_true Q8
      obtain ⟨ad560,e560,hx560_0,hx560_1,hx560_2⟩:=at_T83 HR0.out x5_1 p560 q560
      cases e560
      replace p560:=eq_true p560
      replace q560:=eq_true q560
      have p561 : 0 ≤ (x5_1 : Int):=of_decide_eq_true Q8
      have q561 : x5_1 < (l1.length : Int):=of_decide_eq_true Q8
      obtain ⟨ad561,e561,hx561_0,hx561_1,hx561_2⟩:=at_T83 HR1.out x5_1 p561 q561
      cases e561
      replace p561:=eq_true p561
      replace q561:=eq_true q561
      go_wp2
      repeat (go_quiet (fail);try go_wp2)
      go_roundg k1
      case measure=>have:=HK1.out;omega
      case rel=>exact ⟨(wrap64 (x5_1 + 1)),Q7,H',⟨Q3⟩,Q10⟩
    ·rw [if_neg c4] at H
     have c4b0 : decide (x5_1 < (l0.length : Int)) = false:=decide_eq_false c4
     clear c4
     obtain rfl:=Option.some.inj H
     go_wp2
     repeat (go_quiet (fail);try go_wp2)
     go_ret
     exact ⟨Q7,Q10⟩
 ·rw [if_neg c3] at H
  have c3b0 : ((l0.length : Int) == (l1.length : Int)) = false:=beq_eq_false_iff_ne.mpr c3
  have c3b1 : ((l0.length : Int) != (l1.length : Int)) = true:=bne_iff_ne.mpr c3
  have c3b2 : (l0.length == l1.length) = false:=by first|simpa using c3|(simp at c3 ⊢;omega)
  obtain rfl:=Option.some.inj H
  go_enter Try.func67,Try.ntmps67
  go_wp2
  repeat (go_quiet (fail);try go_wp2)
  go_ret
  exact ⟨Q7,Q10⟩
mutual
def laws_lwSame.l0 : Nat → List (S38) → List (S38) → List (S36) → List (S36) → Int → Option (Bool)
 | 0, _, _, _, _, _ => none
 | k + 1, x0, x1, x2, x7, x8 => if x8 < (x7.length : Int) then (if (x2.length : Int) > 0 then (if 0 ≤ x8 then ((spec_FrontCovers.f k x2 ((rd_T36 x7 x8).f0) ((rd_T36 x7 x8).f1)).bind fun t566 => (laws_lwSame.j1 k x0 x1 x2 x7 x8 (!t566))) else (none)) else (laws_lwSame.j1 k x0 x1 x2 x7 x8 false)) else (some true)
def laws_lwSame.j1 : Nat → List (S38) → List (S38) → List (S36) → List (S36) → Int → Bool → Option (Bool)
 | 0, _, _, _, _, _, _ => none
 | k + 1, x0, x1, x2, x7, x8, x27 => if x27 = true then (laws_lwSame.l0 k x0 x1 x2 x7 (wrap64 (x8 + 1))) else (if 0 ≤ x8 then (if x8 < (x7.length : Int) then ((impl_BatchAt.f k x0 ((rd_T36 x7 x8).f0) ((rd_T36 x7 x8).f1)).bind fun t568 => ((impl_BatchAt.f k x1 ((rd_T36 x7 x8).f0) ((rd_T36 x7 x8).f1)).bind fun t572 => ((laws_lwItems.f k t568 t572).bind fun t575 => (if t575 = true then (laws_lwSame.l0 k x0 x1 x2 x7 (wrap64 (x8 + 1))) else (some false))))) else (none)) else (none))
end
def laws_lwSame.f (k : Nat) (l0 : List (S38)) (l1 : List (S38)) (l2 : List (S36)) : Option (Bool) := (laws_lwAll.f k).bind fun t562 => (laws_lwSame.l0 k l0 l1 l2 t562 0)
def laws_lwSame.T6 : Bool × List (List Nat × List Nat) := (true, [([], []), ([], []), ([], []), ([1, 2], [1, 2]), ([3], [3]), ([0, 4], [0, 4]), ([], []), ([], []), ([], []), ([7, 8], [7, 8]), ([9], [9]), ([6, 10, 5], [6, 10]), ([5, 11, 11], [5, 11]), ([12], [12])])
def laws_lwSame.B6 : List Nat := [0, 0, 0, 6, 14, 31, 0, 0, 0, 384, 896, 2047, 4095, 8191]
theorem laws_lwSame.tab6 : rtab .any (opsOf Try.f25 6) = laws_lwSame.T6:=by kernel_rfl
theorem laws_lwSame.bits6 : waitsOk laws_lwSame.T6.2 laws_lwSame.B6 = true:=by kernel_rfl
set_option maxHeartbeats 8000000 in
set_option maxRecDepth 100000 in
theorem laws_lwSame.calls (k : Nat) (A0 : Option Addr) (c0 : Nat) (l0 : List (S38)) (A1 : Option Addr) (c1 : Nat) (l1 : List (S38)) (A2 : Option Addr) (c2 : Nat) (l2 : List (S36)) (r : Bool) (w : World) (hr0 : Kd.C k38 w A0 l0.length l0) (hc0 : l0.length ≤ c0) (hr1 : Kd.C k38 w A1 l1.length l1) (hc1 : l1.length ≤ c1) (hr2 : Kd.C k36 w A2 l2.length l2) (hc2 : l2.length ≤ c2) (h : laws_lwSame.f k l0 l1 l2 = some r) :
  Calls Try.prog 25 #[.slice A0 l0.length c0,.slice A1 l1.length c1,.slice A2 l2.length c2] w fun e w'=>e = .returned (.bool r) ∧ Below w.heap.size w w':=by
 have hu36:=Try.underlying36
 have HR0:=Aside0.mk hr0
 have HC0:=Aside0.mk hc0
 clear hr0 hc0
 have HR1:=Aside0.mk hr1
 have HC1:=Aside0.mk hc1
 clear hr1 hc1
 have HR2:=Aside0.mk hr2
 have HC2:=Aside0.mk hc2
 clear hr2 hc2
 have HB:=am (Below.refl w.heap.size w)
 have H : ((laws_lwAll.f k).bind fun t562=>(laws_lwSame.l0 k l0 l1 l2 t562 0)) = some r:=h
 clear h
 replace H:=Option.bind_eq_some_iff.mp H
 obtain ⟨t562,A40,H⟩:=H
 replace H : (laws_lwSame.l0 k l0 l1 l2 t562 0) = some r:=H
 have A4:=Aside0.mk A40
 clear A40
 have H':=Aside0.mk H
 clear H
 go_enter Try.func25,Try.ntmps25
 go_wp2_with (first|((with_reducible refine gate_callee (f:=65) rfl ?_);refine goesL_ (some 9) rfl rfl Try.func65 Q1 rfl #[] rfl Q84 ?_;(with_reducible refine (laws_lwAll.calls k  t562 _ A4.out).mono ?_);rintro e w5 ⟨v563,rfl,ho0,hb⟩;refine ⟨_,rfl,?_⟩;have HO564:=am (Kd.R_lower ho0 (below_size Q80));replace HB:=am (below_step Q80 hb);(try clear hb ho0)))
 go_loopg [8] k (fun kq v8 w'=>∃ (x8_1 : Int),v8 = .int .i64 x8_1 ∧ Aside0 (laws_lwSame.l0 kq l0 l1 l2 t562 x8_1 = some r) ∧ Aside0 (kq ≤ k) ∧ Aside0 (Kd.R k36 36 w' w.heap.size (fun _=>True) v563 t562) ∧ Aside0 (Below w.heap.size w w'))
 case atStart=>exact ⟨(0),Q7,H',⟨Nat.le_refl _⟩,⟨by (with_reducible repeat (first|apply Kd.R_alloc|apply Kd.R_drewN|apply Kd.R_drew));exact HO564.out⟩,⟨Q80⟩⟩
 case round =>
  clear H'
  try clear c1
  try clear c2
  try clear p2
  obtain ⟨x8_1,rfl,HA,HK1,HO_7,HB⟩:=hrel
  cases gk with
  | zero=>exact absurd HA.out (by simp [laws_lwSame.l0])
  | succ k1 =>
   have H:=HA.out
   clear HA
   simp only [laws_lwSame.l0] at H
   by_cases c6 : x8_1 < (t562.length : Int)
   ·rw [if_pos c6] at H
    have c6b0 : decide (x8_1 < (t562.length : Int)) = true:=decide_eq_true c6
    clear c6
    have HC7:=Aside0.mk H
    clear H
    obtain ⟨Ao8,co8,eo8⟩:=Kd.R_slice HO_7.out
    subst eo8
    go_upto_region 5 with (fail)
    go_cut [27] (fun v27 wc=>∃ (kq : Nat) (x27_6 : Bool),v27 = .bool x27_6 ∧ Aside0 (laws_lwSame.j1 kq l0 l1 l2 t562 x8_1 x27_6 = some r) ∧ Aside0 (kq ≤ k1) ∧ Aside0 (Kd.R k36 36 wc w.heap.size (fun _=>True) (.slice Ao8 t562.length co8) t562) ∧ Aside0 (Below w.heap.size w wc))
    case first =>
     have H:=HC7.out
     clear HC7
     by_cases c9 : (l2.length : Int) > 0
     ·rw [if_pos c9] at H
      have c9b0 : decide (0 < (l2.length : Int)) = true:=decide_eq_true c9
      have c9b1 : decide (0 < l2.length) = true:=decide_eq_true (by omega)
      clear c9
      (first|rw [c9b0]|(simp only [i64_w,i32_w];rw [c9b0])|skip)
      have c10 : 0 ≤ x8_1:=nn_ H
      rw [if_pos c10] at H
      have c10b0 : decide (0 ≤ x8_1) = true:=decide_eq_true c10
      clear c10
      replace H:=Option.bind_eq_some_iff.mp H
      obtain ⟨t566,A110,H⟩:=H
      replace H : (laws_lwSame.j1 k1 l0 l1 l2 t562 x8_1 (!t566)) = some r:=H
      have A11:=Aside0.mk A110
      clear A110
      have H':=Aside0.mk H
      clear H
      have p565 : 0 ≤ (x8_1 : Int):=of_decide_eq_true Q8
      have q565 : x8_1 < (t562.length : Int):=of_decide_eq_true Q8
      obtain ⟨ad565,e565,hx565_0,hx565_1⟩:=at_T36 (Kd.R_reads' HO_7.out).2.2 x8_1 p565 q565
      cases e565
      replace p565:=eq_true p565
      replace q565:=eq_true q565
      go_wp2_with (first|(go_at_call 66;(with_reducible refine (spec_FrontCovers.calls k1 _ _ l2 ((rd_T36 t562 x8_1).f0) ((rd_T36 t562 x8_1).f1) t566 _ ?side1 ?side2 A11.out).mono ?_);(case side1=>exact (by repeat (first|exact (Kd.C_below HR2.out HB.out)|(with_reducible refine Kd.C_alloc ?_ _)|(with_reducible refine Kd.C_drewN ?_ _)|(with_reducible refine Kd.C_drew ?_))));(case side2=>exact HC2.out);rintro e w12 ⟨rfl,hb⟩;replace HO_7:=am (Kd.R_below Q24 hb);replace HB:=am (below_step Q80 hb);(try clear hb)))
      go_meet
      case rel=>exact ⟨_,(!t566),Q7,H',⟨Q9⟩,⟨Q24⟩,⟨Q80⟩⟩
     ·rw [if_neg c9] at H
      have c9b0 : decide (0 < (l2.length : Int)) = false:=decide_eq_false c9
      have c9b1 : decide (0 < l2.length) = false:=decide_eq_false (by omega)
      clear c9
      (first|rw [c9b0]|(simp only [i64_w,i32_w];rw [c9b0])|skip)
      have H':=Aside0.mk H
      clear H
      go_wp2
      go_meet
      case rel=>exact ⟨_,(false),Q7,H',⟨Q9⟩,⟨Q24⟩,⟨Q80⟩⟩
    case rest =>
     clear HC7
     try clear c1
     try clear c2
     try clear p2
     try clear p5
     try clear q5
     try clear hx5
     try clear c6
     try clear c6b0
     try clear c9
     try clear c9b0
     try clear c9b1
     try clear c10
     try clear c10b0
     try clear hx565_0
     try clear hx565_1
     try clear p2
     try clear p565
     try clear q565
     obtain ⟨kq,x27_6,rfl,HA,HJ6,HO_7,HB⟩:=hcut
     cases kq with
     | zero=>exact absurd HA.out (by simp [laws_lwSame.j1])
     | succ kj6 =>
      have H:=HA.out
      clear HA
      simp only [laws_lwSame.j1] at H
      by_cases c13 : x27_6 = true
      ·subst c13
       have H1 : (laws_lwSame.l0 kj6 l0 l1 l2 t562 (wrap64 (x8_1 + 1))) = some r:=by rw [if_pos rfl] at H;exact H
       clear H
       have H:=H1
       clear H1
       have H':=Aside0.mk H
       clear H
       go_wp2
       go_roundg kj6
       case measure=>have:=HK1.out;have:=HJ6.out;omega
       case rel=>exact ⟨(wrap64 (x8_1 + 1)),Q7,H',⟨by have:=HK1.out;have:=HJ6.out;omega⟩,⟨Q24⟩,⟨Q80⟩⟩
      ·replace c13:=Bool.eq_false_iff.mpr c13
       subst c13
       have H1 : (if 0 ≤ x8_1 then (if x8_1 < (t562.length : Int) then ((impl_BatchAt.f kj6 l0 ((rd_T36 t562 x8_1).f0) ((rd_T36 t562 x8_1).f1)).bind fun t568=>((impl_BatchAt.f kj6 l1 ((rd_T36 t562 x8_1).f0) ((rd_T36 t562 x8_1).f1)).bind fun t572=>((laws_lwItems.f kj6 t568 t572).bind fun t575=>(if t575 = true then (laws_lwSame.l0 kj6 l0 l1 l2 t562 (wrap64 (x8_1 + 1))) else (some false))))) else (none)) else (none)) = some r:=by rw [if_neg (show ¬ (false = true) by decide)] at H;exact H
       clear H
       have H:=H1
       clear H1
       have c14 : 0 ≤ x8_1:=nn_ H
       rw [if_pos c14] at H
       have c14b0 : decide (0 ≤ x8_1) = true:=decide_eq_true c14
       clear c14
       have c15 : x8_1 < (t562.length : Int):=nn_ H
       rw [if_pos c15] at H
       have c15b0 : decide (x8_1 < (t562.length : Int)) = true:=decide_eq_true c15
       clear c15
       replace H:=Option.bind_eq_some_iff.mp H
       obtain ⟨t568,A160,H⟩:=H
       replace H : ((impl_BatchAt.f kj6 l1 ((rd_T36 t562 x8_1).f0) ((rd_T36 t562 x8_1).f1)).bind fun t572=>((laws_lwItems.f kj6 t568 t572).bind fun t575=>(if t575 = true then (laws_lwSame.l0 kj6 l0 l1 l2 t562 (wrap64 (x8_1 + 1))) else (some false)))) = some r:=H
       have A16:=Aside0.mk A160
       clear A160
       replace H:=Option.bind_eq_some_iff.mp H
       obtain ⟨t572,A170,H⟩:=H
       replace H : ((laws_lwItems.f kj6 t568 t572).bind fun t575=>(if t575 = true then (laws_lwSame.l0 kj6 l0 l1 l2 t562 (wrap64 (x8_1 + 1))) else (some false))) = some r:=H
       have A17:=Aside0.mk A170
       clear A170
       replace H:=Option.bind_eq_some_iff.mp H
       obtain ⟨t575,A180,H⟩:=H
       replace H : (if t575 = true then (laws_lwSame.l0 kj6 l0 l1 l2 t562 (wrap64 (x8_1 + 1))) else (some false)) = some r:=H
       have A18:=Aside0.mk A180
       clear A180
       by_cases c19 : t575 = true
       ·subst c19
        have H1 : (laws_lwSame.l0 kj6 l0 l1 l2 t562 (wrap64 (x8_1 + 1))) = some r:=by rw [if_pos rfl] at H;exact H
        clear H
        have H:=H1
        clear H1
        have H':=Aside0.mk H
        clear H
        try go_wp2
        replace HO_7:=am (Kd.R_drew HO_7.out)
        replace HB:=am (below_drew1 HB.out)
        have p567 : 0 ≤ (x8_1 : Int):=of_decide_eq_true Q8
        have q567 : x8_1 < (t562.length : Int):=of_decide_eq_true Q8
        obtain ⟨ad567,e567,hx567_0,hx567_1⟩:=at_T36 (Kd.R_reads' HO_7.out).2.2 x8_1 p567 q567
        cases e567
        replace p567:=eq_true p567
        replace q567:=eq_true q567
        have p571 : 0 ≤ (x8_1 : Int):=of_decide_eq_true Q8
        have q571 : x8_1 < (t562.length : Int):=of_decide_eq_true Q8
        obtain ⟨ad571,e571,hx571_0,hx571_1⟩:=at_T36 (Kd.R_reads' HO_7.out).2.2 x8_1 p571 q571
        obtain rfl : ad567 = ad571:=(by injection e571)
        replace p571:=eq_true p571
        replace q571:=eq_true q571
        refine start_ (n:=14) (S:=fun w'=>w'.cell? (ad567.add ((x8_1).toNat * 2)) = some (.int .i64 ((rd_T36 t562 x8_1).f0)) ∧ w'.cell? ⟨(ad567.add ((x8_1).toNat * 2)).block,(ad567.add ((x8_1).toNat * 2)).off + 1,none⟩ = some (.int .i64 ((rd_T36 t562 x8_1).f1)) ∧ w'.cell? (ad567.add ((x8_1).toNat * 2)) = some (.int .i64 ((rd_T36 t562 x8_1).f0)) ∧ w'.cell? ⟨(ad567.add ((x8_1).toNat * 2)).block,(ad567.add ((x8_1).toNat * 2)).off + 1,none⟩ = some (.int .i64 ((rd_T36 t562 x8_1).f1))) (ds:=[]) b14_0 Q1 rfl rfl ⟨hx567_0,hx567_1,hx571_0,hx571_1⟩ (fun hHeld=>?_);refine with_tabW laws_lwSame.tab6 laws_lwSame.bits6 (fun HT_ HW_=>?_)
        generalize wc.drew = w20 at HO_7 HB hx567_0 hx567_1 hx571_0 hx571_1 hHeld ⊢
        refine pU_ 0 28 b14_1 ?_
        refine pU_ 1 29 b14_2 ?_
        refine pU_ 2 30 b14_3 ?_
        refine pU_ 3 31 b14_4 ?_
        refine pU_ 6 34 c186 ?_
        refine pU_ 7 35 c187 ?_
        refine pU_ 8 36 c188 ?_
        refine pU_ 9 37 c189 ?_
        refine tU_ 4 32 c190 hHeld ?_
        refine tU_ 10 38 c191 hHeld ?_
        refine one_ (i:=5) (N:=some 33) b14_11 rfl rfl (one_of HT_.out Q1) Q0 (fun K hK=>?_)
        refine goes_ Try.func46 Q1 rfl #[.slice A0 l0.length c0,.agg #[.int .i64 ((rd_T36 t562 x8_1).f0),.int .i64 ((rd_T36 t562 x8_1).f1)]] (by rfl) rfl rfl Q84 ?_
        with_reducible refine (impl_BatchAt.calls kj6 _ _ l0 ((rd_T36 t562 x8_1).f0) ((rd_T36 t562 x8_1).f1) t568 _ ?side1 ?side2 A16.out).mono ?_
        (case side1=>exact Q115)
        (case side2=>exact HC0.out)
        rintro e w21 ⟨v569,rfl,ho0,hb⟩
        have HS0_:=(hb.cell (bl_ _ _ (hHeld.1))).trans (hHeld.1)
        have HS1_:=(hb.cell (bl_ _ _ (hHeld.2.1))).trans (hHeld.2.1)
        have HS2_:=(hb.cell (bl_ _ _ (hHeld.2.2.1))).trans (hHeld.2.2.1)
        have HS3_:=(hb.cell (bl_ _ _ (hHeld.2.2.2))).trans (hHeld.2.2.2)
        refine ⟨_,rfl,?_⟩
        replace HO_7:=am (Kd.R_below Q24 hb)
        have HO570:=am (Kd.R_lower ho0 (below_size Q80))
        replace HB:=am (below_step Q80 hb)
        (try clear hb)
        (try clear hb2)
        (try clear hk)
        (try clear hi)
        (try clear ho0)
        refine hK.out _ _ ⟨HS0_,HS1_,HS2_,HS3_⟩ (fun hHeld=>?_)
        clear hK K
        refine norm_ (a':=?_) ?_ ?_
        rotate_left
        ·show Act.put _ (some 33) _ = _
         simp only [Act.put,sA_,sZ_,sS_,i64_w,i32_w]
         rfl
        refine one_ (i:=11) (N:=some 39) b14_12 rfl rfl (one_of HT_.out Q1) Q0 (fun K hK=>?_)
        refine goes_ Try.func46 Q1 rfl #[.slice A1 l1.length c1,.agg #[.int .i64 ((rd_T36 t562 x8_1).f0),.int .i64 ((rd_T36 t562 x8_1).f1)]] (by rfl) rfl rfl Q84 ?_
        with_reducible refine (impl_BatchAt.calls kj6 _ _ l1 ((rd_T36 t562 x8_1).f0) ((rd_T36 t562 x8_1).f1) t572 _ ?side1 ?side2 A17.out).mono ?_
        (case side1=>exact Q116)
        (case side2=>exact HC1.out)
        rintro e w22 ⟨v573,rfl,ho0,hb⟩
        have HS0_:=(hb.cell (bl_ _ _ (hHeld.1))).trans (hHeld.1)
        have HS1_:=(hb.cell (bl_ _ _ (hHeld.2.1))).trans (hHeld.2.1)
        have HS2_:=(hb.cell (bl_ _ _ (hHeld.2.2.1))).trans (hHeld.2.2.1)
        have HS3_:=(hb.cell (bl_ _ _ (hHeld.2.2.2))).trans (hHeld.2.2.2)
        refine ⟨_,rfl,?_⟩
        replace HO_7:=am (Kd.R_below Q24 hb)
        have HO574:=am (Kd.R_lower (Kd.R_new' ho0 (Kd.R_lt Q34)) (below_size Q80))
        replace HO570:=am (Kd.R_elder' Q34 (Kd.R_base ho0) hb)
        replace HB:=am (below_step Q80 hb)
        (try clear hb)
        (try clear hb2)
        (try clear hk)
        (try clear hi)
        (try clear ho0)
        obtain ⟨Ao23,co23,eo23⟩:=Kd.R_slice HO570.out
        (first|subst eo23|(injection eo23 with f1_ f2_ f3_;have f4_:=f1_.symm;have f5_:=f3_.symm;clear f1_ f2_ f3_;subst f4_;subst f5_))
        obtain ⟨Ao24,co24,eo24⟩:=Kd.R_slice HO574.out
        (first|subst eo24|(injection eo24 with f1_ f2_ f3_;have f4_:=f1_.symm;have f5_:=f3_.symm;clear f1_ f2_ f3_;subst f4_;subst f5_))
        refine hK.out _ _ ⟨HS0_,HS1_,HS2_,HS3_⟩ (fun hHeld=>?_)
        clear hK K
        refine norm_ (a':=?_) ?_ ?_
        rotate_left
        ·show Act.put _ (some 39) _ = _
         simp only [Act.put,sA_,sZ_,sS_,i64_w,i32_w]
         rfl
        refine one_ (i:=12) (N:=some 40) b14_13 rfl rfl (one_of HT_.out Q1) Q0 (fun K hK=>?_)
        refine goes_ Try.func67 Q1 rfl #[.slice Ao23 t568.length co23,.slice Ao24 t572.length co24] (by rfl) rfl rfl Q84 ?_
        with_reducible refine (laws_lwItems.calls kj6 _ _ t568 _ _ t572 true _ ?side1 ?side2 ?side3 ?side4 A18.out).mono ?_
        (case side1=>exact (by repeat (first|exact (Kd.R_reads' HO570.out).2.2|(with_reducible refine Kd.C_alloc ?_ _)|(with_reducible refine Kd.C_drewN ?_ _)|(with_reducible refine Kd.C_drew ?_))))
        (case side2=>exact (Kd.R_reads' HO570.out).2.1)
        (case side3=>exact (by repeat (first|exact (Kd.R_reads' HO574.out).2.2|(with_reducible refine Kd.C_alloc ?_ _)|(with_reducible refine Kd.C_drewN ?_ _)|(with_reducible refine Kd.C_drew ?_))))
        (case side4=>exact (Kd.R_reads' HO574.out).2.1)
        rintro e w' ⟨rfl,⟨nd,rfl⟩⟩
        refine ⟨_,rfl,?_⟩
        refine hK.out _ _ ⟨hHeld.1,hHeld.2.1,hHeld.2.2.1,hHeld.2.2.2⟩ (fun hHeld=>?_)
        clear hK K
        refine norm_ (a':=?_) ?_ ?_
        rotate_left
        ·show Act.put _ (some 40) _ = _
         simp only [Act.put,sA_,sZ_,sS_,i64_w,i32_w]
         rfl
        refine pU_ 13 41 b14_14 ?_
        refine done_ (done_of HT_.out Q1) ?_
        try go_wp2
        go_roundg kj6
        case measure=>have:=HK1.out;have:=HJ6.out;omega
        case rel=>exact ⟨(wrap64 (x8_1 + 1)),Q7,H',⟨by have:=HK1.out;have:=HJ6.out;omega⟩,⟨Q24⟩,⟨Q80⟩⟩
       ·replace c19:=Bool.eq_false_iff.mpr c19
        subst c19
        have H1 : (some false) = some r:=by rw [if_neg (show ¬ (false = true) by decide)] at H;exact H
        clear H
        have H:=H1
        clear H1
        obtain rfl:=Option.some.inj H
        try go_wp2
        replace HO_7:=am (Kd.R_drew HO_7.out)
        replace HB:=am (below_drew1 HB.out)
        have p567 : 0 ≤ (x8_1 : Int):=of_decide_eq_true Q8
        have q567 : x8_1 < (t562.length : Int):=of_decide_eq_true Q8
        obtain ⟨ad567,e567,hx567_0,hx567_1⟩:=at_T36 (Kd.R_reads' HO_7.out).2.2 x8_1 p567 q567
        cases e567
        replace p567:=eq_true p567
        replace q567:=eq_true q567
        have p571 : 0 ≤ (x8_1 : Int):=of_decide_eq_true Q8
        have q571 : x8_1 < (t562.length : Int):=of_decide_eq_true Q8
        obtain ⟨ad571,e571,hx571_0,hx571_1⟩:=at_T36 (Kd.R_reads' HO_7.out).2.2 x8_1 p571 q571
        obtain rfl : ad567 = ad571:=(by injection e571)
        replace p571:=eq_true p571
        replace q571:=eq_true q571
        refine start_ (n:=14) (S:=fun w'=>w'.cell? (ad567.add ((x8_1).toNat * 2)) = some (.int .i64 ((rd_T36 t562 x8_1).f0)) ∧ w'.cell? ⟨(ad567.add ((x8_1).toNat * 2)).block,(ad567.add ((x8_1).toNat * 2)).off + 1,none⟩ = some (.int .i64 ((rd_T36 t562 x8_1).f1)) ∧ w'.cell? (ad567.add ((x8_1).toNat * 2)) = some (.int .i64 ((rd_T36 t562 x8_1).f0)) ∧ w'.cell? ⟨(ad567.add ((x8_1).toNat * 2)).block,(ad567.add ((x8_1).toNat * 2)).off + 1,none⟩ = some (.int .i64 ((rd_T36 t562 x8_1).f1))) (ds:=[]) b14_0 Q1 rfl rfl ⟨hx567_0,hx567_1,hx571_0,hx571_1⟩ (fun hHeld=>?_);refine with_tabW laws_lwSame.tab6 laws_lwSame.bits6 (fun HT_ HW_=>?_)
        generalize wc.drew = w25 at HO_7 HB hx567_0 hx567_1 hx571_0 hx571_1 hHeld ⊢
        refine pU_ 0 28 b14_1 ?_
        refine pU_ 1 29 b14_2 ?_
        refine pU_ 2 30 b14_3 ?_
        refine pU_ 3 31 b14_4 ?_
        refine pU_ 6 34 c186 ?_
        refine pU_ 7 35 c187 ?_
        refine pU_ 8 36 c188 ?_
        refine pU_ 9 37 c189 ?_
        refine tU_ 4 32 c190 hHeld ?_
        refine tU_ 10 38 c191 hHeld ?_
        refine one_ (i:=5) (N:=some 33) b14_11 rfl rfl (one_of HT_.out Q1) Q0 (fun K hK=>?_)
        refine goes_ Try.func46 Q1 rfl #[.slice A0 l0.length c0,.agg #[.int .i64 ((rd_T36 t562 x8_1).f0),.int .i64 ((rd_T36 t562 x8_1).f1)]] (by rfl) rfl rfl Q84 ?_
        with_reducible refine (impl_BatchAt.calls kj6 _ _ l0 ((rd_T36 t562 x8_1).f0) ((rd_T36 t562 x8_1).f1) t568 _ ?side1 ?side2 A16.out).mono ?_
        (case side1=>exact Q115)
        (case side2=>exact HC0.out)
        rintro e w26 ⟨v569,rfl,ho0,hb⟩
        have HS0_:=(hb.cell (bl_ _ _ (hHeld.1))).trans (hHeld.1)
        have HS1_:=(hb.cell (bl_ _ _ (hHeld.2.1))).trans (hHeld.2.1)
        have HS2_:=(hb.cell (bl_ _ _ (hHeld.2.2.1))).trans (hHeld.2.2.1)
        have HS3_:=(hb.cell (bl_ _ _ (hHeld.2.2.2))).trans (hHeld.2.2.2)
        refine ⟨_,rfl,?_⟩
        replace HO_7:=am (Kd.R_below Q24 hb)
        have HO570:=am (Kd.R_lower ho0 (below_size Q80))
        replace HB:=am (below_step Q80 hb)
        (try clear hb)
        (try clear hb2)
        (try clear hk)
        (try clear hi)
        (try clear ho0)
        refine hK.out _ _ ⟨HS0_,HS1_,HS2_,HS3_⟩ (fun hHeld=>?_)
        clear hK K
        refine norm_ (a':=?_) ?_ ?_
        rotate_left
        ·show Act.put _ (some 33) _ = _
         simp only [Act.put,sA_,sZ_,sS_,i64_w,i32_w]
         rfl
        refine one_ (i:=11) (N:=some 39) b14_12 rfl rfl (one_of HT_.out Q1) Q0 (fun K hK=>?_)
        refine goes_ Try.func46 Q1 rfl #[.slice A1 l1.length c1,.agg #[.int .i64 ((rd_T36 t562 x8_1).f0),.int .i64 ((rd_T36 t562 x8_1).f1)]] (by rfl) rfl rfl Q84 ?_
        with_reducible refine (impl_BatchAt.calls kj6 _ _ l1 ((rd_T36 t562 x8_1).f0) ((rd_T36 t562 x8_1).f1) t572 _ ?side1 ?side2 A17.out).mono ?_
        (case side1=>exact Q116)
        (case side2=>exact HC1.out)
        rintro e w27 ⟨v573,rfl,ho0,hb⟩
        have HS0_:=(hb.cell (bl_ _ _ (hHeld.1))).trans (hHeld.1)
        have HS1_:=(hb.cell (bl_ _ _ (hHeld.2.1))).trans (hHeld.2.1)
        have HS2_:=(hb.cell (bl_ _ _ (hHeld.2.2.1))).trans (hHeld.2.2.1)
        have HS3_:=(hb.cell (bl_ _ _ (hHeld.2.2.2))).trans (hHeld.2.2.2)
        refine ⟨_,rfl,?_⟩
        replace HO_7:=am (Kd.R_below Q24 hb)
        have HO574:=am (Kd.R_lower (Kd.R_new' ho0 (Kd.R_lt Q34)) (below_size Q80))
        replace HO570:=am (Kd.R_elder' Q34 (Kd.R_base ho0) hb)
        replace HB:=am (below_step Q80 hb)
        (try clear hb)
        (try clear hb2)
        (try clear hk)
        (try clear hi)
        (try clear ho0)
        obtain ⟨Ao28,co28,eo28⟩:=Kd.R_slice HO570.out
        (first|subst eo28|(injection eo28 with f1_ f2_ f3_;have f4_:=f1_.symm;have f5_:=f3_.symm;clear f1_ f2_ f3_;subst f4_;subst f5_))
        obtain ⟨Ao29,co29,eo29⟩:=Kd.R_slice HO574.out
        (first|subst eo29|(injection eo29 with f1_ f2_ f3_;have f4_:=f1_.symm;have f5_:=f3_.symm;clear f1_ f2_ f3_;subst f4_;subst f5_))
        refine hK.out _ _ ⟨HS0_,HS1_,HS2_,HS3_⟩ (fun hHeld=>?_)
        clear hK K
        refine norm_ (a':=?_) ?_ ?_
        rotate_left
        ·show Act.put _ (some 39) _ = _
         simp only [Act.put,sA_,sZ_,sS_,i64_w,i32_w]
         rfl
        refine one_ (i:=12) (N:=some 40) b14_13 rfl rfl (one_of HT_.out Q1) Q0 (fun K hK=>?_)
        refine goes_ Try.func67 Q1 rfl #[.slice Ao28 t568.length co28,.slice Ao29 t572.length co29] (by rfl) rfl rfl Q84 ?_
        with_reducible refine (laws_lwItems.calls kj6 _ _ t568 _ _ t572 false _ ?side1 ?side2 ?side3 ?side4 A18.out).mono ?_
        (case side1=>exact (by repeat (first|exact (Kd.R_reads' HO570.out).2.2|(with_reducible refine Kd.C_alloc ?_ _)|(with_reducible refine Kd.C_drewN ?_ _)|(with_reducible refine Kd.C_drew ?_))))
        (case side2=>exact (Kd.R_reads' HO570.out).2.1)
        (case side3=>exact (by repeat (first|exact (Kd.R_reads' HO574.out).2.2|(with_reducible refine Kd.C_alloc ?_ _)|(with_reducible refine Kd.C_drewN ?_ _)|(with_reducible refine Kd.C_drew ?_))))
        (case side4=>exact (Kd.R_reads' HO574.out).2.1)
        rintro e w' ⟨rfl,⟨nd,rfl⟩⟩
        refine ⟨_,rfl,?_⟩
        refine hK.out _ _ ⟨hHeld.1,hHeld.2.1,hHeld.2.2.1,hHeld.2.2.2⟩ (fun hHeld=>?_)
        clear hK K
        refine norm_ (a':=?_) ?_ ?_
        rotate_left
        ·show Act.put _ (some 40) _ = _
         simp only [Act.put,sA_,sZ_,sS_,i64_w,i32_w]
         rfl
        refine pU_ 13 41 b14_14 ?_
        refine done_ (done_of HT_.out Q1) ?_
        try go_wp2
        go_ret
        exact ⟨Q18,Q80⟩
   ·rw [if_neg c6] at H
    have c6b0 : decide (x8_1 < (t562.length : Int)) = false:=decide_eq_false c6
    clear c6
    obtain rfl:=Option.some.inj H
    obtain ⟨Ao30,co30,eo30⟩:=Kd.R_slice HO_7.out
    subst eo30
    go_wp2
    go_ret
    exact ⟨Q18,Q80⟩
def laws_FnBatchMove.j0 : Nat → List (S38) → List (S36) → List (S38) → Bool → Option (Bool)
 | 0, _, _, _, _ => none
 | k + 1, x3, x4, x5, x32 => if x32 = true then ((spec_BatchMove.f k x3 x4).bind fun t591 => ((laws_lwRows.f k x5 t591).bind fun t594 => (some t594))) else ((impl_BatchOk.f k x5).bind fun t595 => (if t595 = true then ((laws_lwSame.f k x3 x5 x4).bind fun t596 => (some t596)) else (some false)))
noncomputable def laws_FnBatchMove.f (k : Nat) (l0 : List Int) : Option (Bool) := if (l0.length : Int) > 1048576 then (some true) else ((spec_DrawBatchMove.f k l0).bind fun bt576 => ((impl_BatchMove.f k bt576.1 bt576.2).bind fun t582 => ((spec_BatchMove.f k bt576.1 bt576.2).bind fun t585 => ((laws_lwRows.f k t582 t585).bind fun t588 => (if t588 = true then ((spec_RowsOk.f k bt576.1).bind fun t589 => (if t589 = true then ((spec_FrontOk.f k bt576.2).bind fun t590 => (laws_FnBatchMove.j0 k bt576.1 bt576.2 t582 (!t590))) else (laws_FnBatchMove.j0 k bt576.1 bt576.2 t582 true))) else (laws_FnBatchMove.j0 k bt576.1 bt576.2 t582 true))))))
set_option maxHeartbeats 8000000 in
set_option maxRecDepth 100000 in
theorem laws_FnBatchMove.calls (k : Nat) (A0 : Option Addr) (c0 : Nat) (l0 : List Int) (r : Bool) (w : World) (hr0 : Kd.C (Kd.int .u8) w A0 l0.length l0) (hc0 : l0.length ≤ c0) (h : laws_FnBatchMove.f k l0 = some r) (hr_ : r = true) :
  Calls Try.prog 5 #[.slice A0 l0.length c0] w fun e w'=>e = .returned (.bool r) ∧ Below w.heap.size w w':=by
 have HR0:=Aside0.mk hr0
 have HC0:=Aside0.mk hc0
 clear hr0 hc0
 have HB:=am (Below.refl w.heap.size w)
 have hq_:=Aside0.mk hr_
 clear hr_
 have H : (if (l0.length : Int) > 1048576 then (some true) else ((spec_DrawBatchMove.f k l0).bind fun bt576=>((impl_BatchMove.f k bt576.1 bt576.2).bind fun t582=>((spec_BatchMove.f k bt576.1 bt576.2).bind fun t585=>((laws_lwRows.f k t582 t585).bind fun t588=>(if t588 = true then ((spec_RowsOk.f k bt576.1).bind fun t589=>(if t589 = true then ((spec_FrontOk.f k bt576.2).bind fun t590=>(laws_FnBatchMove.j0 k bt576.1 bt576.2 t582 (!t590))) else (laws_FnBatchMove.j0 k bt576.1 bt576.2 t582 true))) else (laws_FnBatchMove.j0 k bt576.1 bt576.2 t582 true))))))) = some r:=h
 clear h
 by_cases c2 : (l0.length : Int) > 1048576
 ·rw [if_pos c2] at H
  have c2b0 : decide (1048576 < (l0.length : Int)) = true:=decide_eq_true c2
  have c2b1 : decide (1048576 < l0.length) = true:=decide_eq_true (by omega)
  clear c2
  obtain rfl:=Option.some.inj H
  go_enter Try.func5,Try.ntmps5
  go_wp2
  go_ret
  exact ⟨Q78,Q80⟩
 ·rw [if_neg c2] at H
  have c2b0 : decide (1048576 < (l0.length : Int)) = false:=decide_eq_false c2
  have c2b1 : decide (1048576 < l0.length) = false:=decide_eq_false (by omega)
  clear c2
  replace H:=Option.bind_eq_some_iff.mp H
  obtain ⟨⟨t576,t577⟩,A30,H⟩:=H
  replace H : ((impl_BatchMove.f k t576 t577).bind fun t582=>((spec_BatchMove.f k t576 t577).bind fun t585=>((laws_lwRows.f k t582 t585).bind fun t588=>(if t588 = true then ((spec_RowsOk.f k t576).bind fun t589=>(if t589 = true then ((spec_FrontOk.f k t577).bind fun t590=>(laws_FnBatchMove.j0 k t576 t577 t582 (!t590))) else (laws_FnBatchMove.j0 k t576 t577 t582 true))) else (laws_FnBatchMove.j0 k t576 t577 t582 true))))) = some r:=H
  have A3:=Aside0.mk A30
  clear A30
  replace H:=Option.bind_eq_some_iff.mp H
  obtain ⟨t582,A40,H⟩:=H
  replace H : ((spec_BatchMove.f k t576 t577).bind fun t585=>((laws_lwRows.f k t582 t585).bind fun t588=>(if t588 = true then ((spec_RowsOk.f k t576).bind fun t589=>(if t589 = true then ((spec_FrontOk.f k t577).bind fun t590=>(laws_FnBatchMove.j0 k t576 t577 t582 (!t590))) else (laws_FnBatchMove.j0 k t576 t577 t582 true))) else (laws_FnBatchMove.j0 k t576 t577 t582 true)))) = some r:=H
  have A4:=Aside0.mk A40
  clear A40
  have HC5:=Aside0.mk H
  clear H
  go_enter Try.func5,Try.ntmps5
  go_upto_region 5 with (first|((with_reducible refine gate_callee (f:=15) rfl ?_);refine goesL_ (some 11) rfl rfl Try.func15 Q1 rfl #[.slice A0 l0.length c0] rfl Q84 ?_;(with_reducible refine (spec_DrawBatchMove.calls k _ _ l0 t576 t577 _ ?side1 ?side2 A3.out).mono ?_);(case side1=>exact Q89);(case side2=>exact HC0.out);rintro e w6 ⟨v578,v580,rfl,ho0,ho1,hb⟩;refine ⟨_,rfl,?_⟩;have HO579:=am (Kd.R_lower ho0 (below_size Q80));have HO581:=am (Kd.R_lower ho1 (below_size Q80));replace HB:=am (below_step Q80 hb);(try clear hb ho0 ho1);obtain ⟨Ao7,co7,eo7⟩:=Kd.R_slice HO579.out;subst eo7;obtain ⟨Ao8,co8,eo8⟩:=Kd.R_slice HO581.out;subst eo8)|((with_reducible refine gate_callee (f:=17) rfl ?_);refine goesL_ (some 16) rfl rfl Try.func17 Q1 rfl #[.slice Ao7 t576.length co7,.slice Ao8 t577.length co8] rfl Q84 ?_;(with_reducible refine (impl_BatchMove.calls k _ _ t576 _ _ t577 t582 _ ?side1 ?side2 ?side3 ?side4 A4.out).mono ?_);(case side1=>exact Q117);(case side2=>exact (Kd.R_reads' HO579.out).2.1);(case side3=>exact Q118);(case side4=>exact (Kd.R_reads' HO581.out).2.1);rintro e w9 ⟨v583,rfl,ho0,hb⟩;refine ⟨_,rfl,?_⟩;replace HO581:=am (Kd.R_below Q35 hb);have HO584:=am (Kd.R_lower (Kd.R_new' ho0 (Kd.R_lt Q36)) (below_size Q80));replace HO579:=am (Kd.R_elder' Q36 (Kd.R_base ho0) hb);replace HB:=am (below_step Q80 hb);(try clear hb ho0)))
  (try simp only [Act.put,sA_,sZ_,sS_])
  go_cut [32] (fun v32 wc=>∃ (kq : Nat) (x32_4 : Bool),v32 = .bool x32_4 ∧ Aside0 (laws_FnBatchMove.j0 kq t576 t577 t582 x32_4 = some r) ∧ Aside0 (kq ≤ k) ∧ Aside0 (Kd.R k38 38 wc w.heap.size (fun k_=>some k_ ≠ (v583 : Value).ownBlock) (.slice Ao7 t576.length co7) t576) ∧ Aside0 (Kd.R k36 36 wc w.heap.size (fun _=>True) (.slice Ao8 t577.length co8) t577) ∧ Aside0 (Kd.R k38 38 wc w.heap.size (fun k_=>some k_ ≠ ((.slice Ao7 t576.length co7) : Value).ownBlock) v583 t582) ∧ Aside0 (Below w.heap.size w wc))
  case first =>
   have H:=HC5.out
   clear HC5
   replace H:=Option.bind_eq_some_iff.mp H
   obtain ⟨t585,A100,H⟩:=H
   replace H : ((laws_lwRows.f k t582 t585).bind fun t588=>(if t588 = true then ((spec_RowsOk.f k t576).bind fun t589=>(if t589 = true then ((spec_FrontOk.f k t577).bind fun t590=>(laws_FnBatchMove.j0 k t576 t577 t582 (!t590))) else (laws_FnBatchMove.j0 k t576 t577 t582 true))) else (laws_FnBatchMove.j0 k t576 t577 t582 true))) = some r:=H
   have A10:=Aside0.mk A100
   clear A100
   replace H:=Option.bind_eq_some_iff.mp H
   obtain ⟨t588,A110,H⟩:=H
   replace H : (if t588 = true then ((spec_RowsOk.f k t576).bind fun t589=>(if t589 = true then ((spec_FrontOk.f k t577).bind fun t590=>(laws_FnBatchMove.j0 k t576 t577 t582 (!t590))) else (laws_FnBatchMove.j0 k t576 t577 t582 true))) else (laws_FnBatchMove.j0 k t576 t577 t582 true)) = some r:=H
   have A11:=Aside0.mk A110
   clear A110
   by_cases c12 : t588 = true
   ·subst c12
    have H1 : ((spec_RowsOk.f k t576).bind fun t589=>(if t589 = true then ((spec_FrontOk.f k t577).bind fun t590=>(laws_FnBatchMove.j0 k t576 t577 t582 (!t590))) else (laws_FnBatchMove.j0 k t576 t577 t582 true))) = some r:=by rw [if_pos rfl] at H;exact H
    clear H
    have H:=H1
    clear H1
    replace H:=Option.bind_eq_some_iff.mp H
    obtain ⟨t589,A130,H⟩:=H
    replace H : (if t589 = true then ((spec_FrontOk.f k t577).bind fun t590=>(laws_FnBatchMove.j0 k t576 t577 t582 (!t590))) else (laws_FnBatchMove.j0 k t576 t577 t582 true)) = some r:=H
    have A13:=Aside0.mk A130
    clear A130
    by_cases c14 : t589 = true
    ·subst c14
     have H1 : ((spec_FrontOk.f k t577).bind fun t590=>(laws_FnBatchMove.j0 k t576 t577 t582 (!t590))) = some r:=by rw [if_pos rfl] at H;exact H
     clear H
     have H:=H1
     clear H1
     replace H:=Option.bind_eq_some_iff.mp H
     obtain ⟨t590,A150,H⟩:=H
     replace H : (laws_FnBatchMove.j0 k t576 t577 t582 (!t590)) = some r:=H
     have A15:=Aside0.mk A150
     clear A150
     have H':=Aside0.mk H
     clear H
     go_wp2_with (first|((with_reducible refine gate_callee (f:=19) rfl ?_);refine goesL_ (some 20) rfl rfl Try.func19 Q1 rfl #[.slice Ao7 t576.length co7,.slice Ao8 t577.length co8] rfl Q84 ?_;(with_reducible refine (spec_BatchMove.calls k _ _ t576 _ _ t577 t585 _ ?side1 ?side2 ?side3 ?side4 A10.out).mono ?_);(case side1=>exact Q117);(case side2=>exact (Kd.R_reads' HO579.out).2.1);(case side3=>exact Q118);(case side4=>exact (Kd.R_reads' HO581.out).2.1);rintro e w16 ⟨v586,rfl,ho0,hb⟩;refine ⟨_,rfl,?_⟩;replace HO581:=am (Kd.R_below Q35 hb);have HO587:=am (Kd.R_lower (Kd.R_new' (Kd.R_new' ho0 (Kd.R_lt Q36)) (Kd.R_lt Q37)) (below_size Q80));replace HO579:=am (Kd.R_elder' Q36 (Kd.R_base ho0) hb);replace HO584:=am (Kd.R_elder' Q37 (Kd.R_base ho0) hb);replace HB:=am (below_step Q80 hb);(try clear hb ho0);obtain ⟨Ao17,co17,eo17⟩:=Kd.R_slice HO584.out;subst eo17;obtain ⟨Ao18,co18,eo18⟩:=Kd.R_slice HO587.out;subst eo18)|((with_reducible refine gate_callee (f:=18) rfl ?_);refine goesL_ (some 21) rfl rfl Try.func18 Q1 rfl #[.slice Ao17 t582.length co17,.slice Ao18 t585.length co18] rfl Q84 ?_;(with_reducible refine (laws_lwRows.calls k _ _ t582 _ _ t585 true _ ?side1 ?side2 ?side3 ?side4 A11.out).mono ?_);(case side1=>exact Q119);(case side2=>exact (Kd.R_reads' HO584.out).2.1);(case side3=>exact Q120);(case side4=>exact (Kd.R_reads' HO587.out).2.1);rintro e w' ⟨rfl,⟨nd,rfl⟩⟩;refine ⟨_,rfl,?_⟩)|(go_at_call 20;(with_reducible refine (spec_RowsOk.calls k _ _ t576 true _ ?side1 ?side2 A13.out).mono ?_);(case side1=>exact Q117);(case side2=>exact (Kd.R_reads' HO579.out).2.1);rintro e w19 ⟨rfl,hb⟩;replace HO579:=am (Kd.R_below Q36 hb);replace HO581:=am (Kd.R_below Q35 hb);replace HO584:=am (Kd.R_below Q37 hb);replace HO587:=am (Kd.R_below Q38 hb);replace HB:=am (below_step Q80 hb);(try clear hb))|(go_at_call 21;(with_reducible refine (spec_FrontOk.calls k _ _ t577 t590 _ ?side1 ?side2 A15.out).mono ?_);(case side1=>exact Q118);(case side2=>exact (Kd.R_reads' HO581.out).2.1);rintro e w20 ⟨rfl,hb⟩;replace HO579:=am (Kd.R_below Q36 hb);replace HO581:=am (Kd.R_below Q35 hb);replace HO584:=am (Kd.R_below Q37 hb);replace HO587:=am (Kd.R_below Q38 hb);replace HB:=am (below_step Q80 hb);(try clear hb)))
     go_meet
     case rel=>exact ⟨_,(!t590),Q7,H',⟨Q4⟩,⟨Q82⟩,⟨Q35⟩,⟨Q83⟩,⟨Q80⟩⟩
    ·replace c14:=Bool.eq_false_iff.mpr c14
     subst c14
     have H1 : (laws_FnBatchMove.j0 k t576 t577 t582 true) = some r:=by rw [if_neg (show ¬ (false = true) by decide)] at H;exact H
     clear H
     have H:=H1
     clear H1
     have H':=Aside0.mk H
     clear H
     go_wp2_with (first|((with_reducible refine gate_callee (f:=19) rfl ?_);refine goesL_ (some 20) rfl rfl Try.func19 Q1 rfl #[.slice Ao7 t576.length co7,.slice Ao8 t577.length co8] rfl Q84 ?_;(with_reducible refine (spec_BatchMove.calls k _ _ t576 _ _ t577 t585 _ ?side1 ?side2 ?side3 ?side4 A10.out).mono ?_);(case side1=>exact Q117);(case side2=>exact (Kd.R_reads' HO579.out).2.1);(case side3=>exact Q118);(case side4=>exact (Kd.R_reads' HO581.out).2.1);rintro e w21 ⟨v586,rfl,ho0,hb⟩;refine ⟨_,rfl,?_⟩;replace HO581:=am (Kd.R_below Q35 hb);have HO587:=am (Kd.R_lower (Kd.R_new' (Kd.R_new' ho0 (Kd.R_lt Q36)) (Kd.R_lt Q37)) (below_size Q80));replace HO579:=am (Kd.R_elder' Q36 (Kd.R_base ho0) hb);replace HO584:=am (Kd.R_elder' Q37 (Kd.R_base ho0) hb);replace HB:=am (below_step Q80 hb);(try clear hb ho0);obtain ⟨Ao22,co22,eo22⟩:=Kd.R_slice HO584.out;subst eo22;obtain ⟨Ao23,co23,eo23⟩:=Kd.R_slice HO587.out;subst eo23)|((with_reducible refine gate_callee (f:=18) rfl ?_);refine goesL_ (some 21) rfl rfl Try.func18 Q1 rfl #[.slice Ao22 t582.length co22,.slice Ao23 t585.length co23] rfl Q84 ?_;(with_reducible refine (laws_lwRows.calls k _ _ t582 _ _ t585 true _ ?side1 ?side2 ?side3 ?side4 A11.out).mono ?_);(case side1=>exact Q119);(case side2=>exact (Kd.R_reads' HO584.out).2.1);(case side3=>exact Q120);(case side4=>exact (Kd.R_reads' HO587.out).2.1);rintro e w' ⟨rfl,⟨nd,rfl⟩⟩;refine ⟨_,rfl,?_⟩)|(go_at_call 20;(with_reducible refine (spec_RowsOk.calls k _ _ t576 false _ ?side1 ?side2 A13.out).mono ?_);(case side1=>exact Q117);(case side2=>exact (Kd.R_reads' HO579.out).2.1);rintro e w24 ⟨rfl,hb⟩;replace HO579:=am (Kd.R_below Q36 hb);replace HO581:=am (Kd.R_below Q35 hb);replace HO584:=am (Kd.R_below Q37 hb);replace HO587:=am (Kd.R_below Q38 hb);replace HB:=am (below_step Q80 hb);(try clear hb)))
     go_meet
     case rel=>exact ⟨_,(true),Q7,H',⟨Q4⟩,⟨Q82⟩,⟨Q35⟩,⟨Q83⟩,⟨Q80⟩⟩
   ·replace c12:=Bool.eq_false_iff.mpr c12
    subst c12
    have H1 : (laws_FnBatchMove.j0 k t576 t577 t582 true) = some r:=by rw [if_neg (show ¬ (false = true) by decide)] at H;exact H
    clear H
    have H:=H1
    clear H1
    have H':=Aside0.mk H
    clear H
    go_wp2_with (first|((with_reducible refine gate_callee (f:=19) rfl ?_);refine goesL_ (some 20) rfl rfl Try.func19 Q1 rfl #[.slice Ao7 t576.length co7,.slice Ao8 t577.length co8] rfl Q84 ?_;(with_reducible refine (spec_BatchMove.calls k _ _ t576 _ _ t577 t585 _ ?side1 ?side2 ?side3 ?side4 A10.out).mono ?_);(case side1=>exact Q117);(case side2=>exact (Kd.R_reads' HO579.out).2.1);(case side3=>exact Q118);(case side4=>exact (Kd.R_reads' HO581.out).2.1);rintro e w25 ⟨v586,rfl,ho0,hb⟩;refine ⟨_,rfl,?_⟩;replace HO581:=am (Kd.R_below Q35 hb);have HO587:=am (Kd.R_lower (Kd.R_new' (Kd.R_new' ho0 (Kd.R_lt Q36)) (Kd.R_lt Q37)) (below_size Q80));replace HO579:=am (Kd.R_elder' Q36 (Kd.R_base ho0) hb);replace HO584:=am (Kd.R_elder' Q37 (Kd.R_base ho0) hb);replace HB:=am (below_step Q80 hb);(try clear hb ho0);obtain ⟨Ao26,co26,eo26⟩:=Kd.R_slice HO584.out;subst eo26;obtain ⟨Ao27,co27,eo27⟩:=Kd.R_slice HO587.out;subst eo27)|((with_reducible refine gate_callee (f:=18) rfl ?_);refine goesL_ (some 21) rfl rfl Try.func18 Q1 rfl #[.slice Ao26 t582.length co26,.slice Ao27 t585.length co27] rfl Q84 ?_;(with_reducible refine (laws_lwRows.calls k _ _ t582 _ _ t585 false _ ?side1 ?side2 ?side3 ?side4 A11.out).mono ?_);(case side1=>exact Q119);(case side2=>exact (Kd.R_reads' HO584.out).2.1);(case side3=>exact Q120);(case side4=>exact (Kd.R_reads' HO587.out).2.1);rintro e w' ⟨rfl,⟨nd,rfl⟩⟩;refine ⟨_,rfl,?_⟩))
    go_meet
    case rel=>exact ⟨_,(true),Q7,H',⟨Q4⟩,⟨Q82⟩,⟨Q35⟩,⟨Q83⟩,⟨Q80⟩⟩
  case rest =>
   clear HC5
   try clear c1
   try clear c2
   try clear c2b0
   try clear c2b1
   try clear p2
   try clear c5
   try clear c12
   try clear c14
   try clear c15
   try clear c17
   try clear c18
   try clear c19
   obtain ⟨kq,x32_4,rfl,HA,HJ4,HO_3,HO_4,HO_5,HB⟩:=hcut
   cases kq with
   | zero=>exact absurd HA.out (by simp [laws_FnBatchMove.j0])
   | succ kj4 =>
    have H:=HA.out
    clear HA
    simp only [laws_FnBatchMove.j0] at H
    by_cases c28 : x32_4 = true
    ·subst c28
     have H1 : ((spec_BatchMove.f kj4 t576 t577).bind fun t591=>((laws_lwRows.f kj4 t582 t591).bind fun t594=>(some t594))) = some r:=by rw [if_pos rfl] at H;exact H
     clear H
     have H:=H1
     clear H1
     replace H:=Option.bind_eq_some_iff.mp H
     obtain ⟨t591,A290,H⟩:=H
     replace H : ((laws_lwRows.f kj4 t582 t591).bind fun t594=>(some t594)) = some r:=H
     have A29:=Aside0.mk A290
     clear A290
     replace H:=Option.bind_eq_some_iff.mp H
     obtain ⟨t594,A300,H⟩:=H
     replace H : (some t594) = some r:=H
     have A30:=Aside0.mk A300
     clear A300
     obtain rfl:=Option.some.inj H
     go_wp2_with (first|((with_reducible refine gate_callee (f:=19) rfl ?_);refine goesL_ (some 36) rfl rfl Try.func19 Q1 rfl #[.slice Ao7 t576.length co7,.slice Ao8 t577.length co8] rfl Q84 ?_;(with_reducible refine (spec_BatchMove.calls kj4 _ _ t576 _ _ t577 t591 _ ?side1 ?side2 ?side3 ?side4 A29.out).mono ?_);(case side1=>exact Q112);(case side2=>exact (Kd.R_reads' HO_3.out).2.1);(case side3=>exact (by repeat (first|exact (Kd.R_reads' HO_4.out).2.2|(with_reducible refine Kd.C_alloc ?_ _)|(with_reducible refine Kd.C_drewN ?_ _)|(with_reducible refine Kd.C_drew ?_))));(case side4=>exact (Kd.R_reads' HO_4.out).2.1);rintro e w31 ⟨v592,rfl,ho0,hb⟩;refine ⟨_,rfl,?_⟩;replace HO_4:=am (Kd.R_below Q25 hb);have HO593:=am (Kd.R_lower (Kd.R_new' (Kd.R_new' ho0 (Kd.R_lt Q22)) (Kd.R_lt Q21)) (below_size Q80));replace HO_3:=am (Kd.R_elder' Q22 (Kd.R_base ho0) hb);replace HO_5:=am (Kd.R_elder' Q21 (Kd.R_base ho0) hb);replace HB:=am (below_step Q80 hb);(try clear hb ho0);obtain ⟨Ao32,co32,eo32⟩:=Kd.R_slice HO_5.out;subst eo32;obtain ⟨Ao33,co33,eo33⟩:=Kd.R_slice HO593.out;subst eo33)|((with_reducible refine gate_callee (f:=18) rfl ?_);refine goesL_ (some 37) rfl rfl Try.func18 Q1 rfl #[.slice Ao32 t582.length co32,.slice Ao33 t591.length co33] rfl Q84 ?_;(with_reducible refine (laws_lwRows.calls kj4 _ _ t582 _ _ t591 t594 _ ?side1 ?side2 ?side3 ?side4 A30.out).mono ?_);(case side1=>exact Q113);(case side2=>exact (Kd.R_reads' HO_5.out).2.1);(case side3=>exact (by repeat (first|exact (Kd.R_reads' HO593.out).2.2|(with_reducible refine Kd.C_alloc ?_ _)|(with_reducible refine Kd.C_drewN ?_ _)|(with_reducible refine Kd.C_drew ?_))));(case side4=>exact (Kd.R_reads' HO593.out).2.1);rintro e w' ⟨rfl,⟨nd,rfl⟩⟩;refine ⟨_,rfl,?_⟩))
     go_ret
     exact ⟨Q78,Q80⟩
    ·replace c28:=Bool.eq_false_iff.mpr c28
     subst c28
     have H1 : ((impl_BatchOk.f kj4 t582).bind fun t595=>(if t595 = true then ((laws_lwSame.f kj4 t576 t582 t577).bind fun t596=>(some t596)) else (some false))) = some r:=by rw [if_neg (show ¬ (false = true) by decide)] at H;exact H
     clear H
     have H:=H1
     clear H1
     replace H:=Option.bind_eq_some_iff.mp H
     obtain ⟨t595,A340,H⟩:=H
     replace H : (if t595 = true then ((laws_lwSame.f kj4 t576 t582 t577).bind fun t596=>(some t596)) else (some false)) = some r:=H
     have A34:=Aside0.mk A340
     clear A340
     by_cases c35 : t595 = true
     ·subst c35
      have H1 : ((laws_lwSame.f kj4 t576 t582 t577).bind fun t596=>(some t596)) = some r:=by rw [if_pos rfl] at H;exact H
      clear H
      have H:=H1
      clear H1
      replace H:=Option.bind_eq_some_iff.mp H
      obtain ⟨t596,A360,H⟩:=H
      replace H : (some t596) = some r:=H
      have A36:=Aside0.mk A360
      clear A360
      obtain rfl:=Option.some.inj H
      obtain ⟨Ao37,co37,eo37⟩:=Kd.R_slice HO_5.out
      subst eo37
      go_wp2_with (first|((with_reducible refine gate_callee (f:=24) rfl ?_);refine goesL_ (some 39) rfl rfl Try.func24 Q1 rfl #[.slice Ao37 t582.length co37] rfl Q84 ?_;(with_reducible refine (impl_BatchOk.calls kj4 _ _ t582 true _ ?side1 ?side2 A34.out).mono ?_);(case side1=>exact Q113);(case side2=>exact (Kd.R_reads' HO_5.out).2.1);rintro e w38 ⟨rfl,hb⟩;refine ⟨_,rfl,?_⟩;replace HO_3:=am (Kd.R_below Q22 hb);replace HO_4:=am (Kd.R_below Q25 hb);replace HO_5:=am (Kd.R_below Q21 hb);replace HB:=am (below_step Q80 hb);(try clear hb))|(go_at_call 25;(with_reducible refine (laws_lwSame.calls kj4 _ _ t576 _ _ t582 _ _ t577 t596 _ ?side1 ?side2 ?side3 ?side4 ?side5 ?side6 A36.out).mono ?_);(case side1=>exact Q112);(case side2=>exact (Kd.R_reads' HO_3.out).2.1);(case side3=>exact Q113);(case side4=>exact (Kd.R_reads' HO_5.out).2.1);(case side5=>exact (by repeat (first|exact (Kd.R_reads' HO_4.out).2.2|(with_reducible refine Kd.C_alloc ?_ _)|(with_reducible refine Kd.C_drewN ?_ _)|(with_reducible refine Kd.C_drew ?_))));(case side6=>exact (Kd.R_reads' HO_4.out).2.1);rintro e w39 ⟨rfl,hb⟩;replace HO_3:=am (Kd.R_below Q22 hb);replace HO_4:=am (Kd.R_below Q25 hb);replace HO_5:=am (Kd.R_below Q21 hb);replace HB:=am (below_step Q80 hb);(try clear hb)))
      go_ret
      exact ⟨Q78,Q80⟩
     ·replace c35:=Bool.eq_false_iff.mpr c35
      subst c35
      have H1 : (some false) = some r:=by rw [if_neg (show ¬ (false = true) by decide)] at H;exact H
      clear H
      have H:=H1
      clear H1
      exact absurd ((Option.some.inj H).trans hq_.out) Q0
noncomputable def laws_FnBatchMove.Pure : Prop := ∀ (l0 : List Int), l0.length ≤ maxLen → l0.length * 1 ≤ 140737488351232 → (∀ x ∈ l0, (Lit.int .u8 x).wf = true) → ∃ k, laws_FnBatchMove.f k l0 = some true
end Go.Proofs.Ytjlkffmdmifahaa.PFnBatchMove
