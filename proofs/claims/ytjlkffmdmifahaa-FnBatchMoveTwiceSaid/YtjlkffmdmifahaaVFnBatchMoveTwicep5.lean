/- Functions that the law comes to: each as a plain Lean function, with the contract of the Go function. -/
import Derived.Test.YtjlkffmdmifahaaVFnBatchMoveTwicew
import Derived.Test.YtjlkffmdmifahaaVFnBatchMoveTwicep0
import Derived.Test.YtjlkffmdmifahaaVFnBatchMoveTwicep2
import Derived.Test.YtjlkffmdmifahaaVFnBatchMoveTwicep3
import Derived.Test.YtjlkffmdmifahaaVFnBatchMoveTwicep4
namespace Go.Proofs.Ytjlkffmdmifahaa.PFnBatchMoveTwice
open Go.RowKit Go.Proofs.YtjlkffmdmifahaaW.PrintWords Go.Proofs.YtjlkffmdmifahaaW.PrintLast Go.Proofs.YtjlkffmdmifahaaW.PrintMore
attribute [local go_sem] max2_int min2_int max_two min_two max_three min_three max_four min_four
set_option linter.unusedVariables false
set_option linter.unusedSimpArgs false
attribute [local go_sem high] eqA36 eqA38
set_option maxHeartbeats 8000000 in
set_option maxRecDepth 100000 in
theorem spec_l2Put.calls (k : Nat) (A0 : Option Addr) (c0 : Nat) (l0 : List (S38)) (a1_0 : Int) (a1_1 : Int) (a1_2 : Int) (a1_3 : Int) (a1_4 : Int) (r : List (S38)) (w : World) (hr0 : Kd.C k38 w A0 l0.length l0) (hc0 : l0.length ≤ c0) (h : spec_l2Put.f k l0 a1_0 a1_1 a1_2 a1_3 a1_4 = some r) :
  Calls Try.prog 88 #[.slice A0 l0.length c0,.agg #[.int .i64 a1_0,.int .i64 a1_1,.int .i64 a1_2,.int .i64 a1_3,.int .i64 a1_4]] w fun e w'=>∃ v0_ : Value,e = .returned (v0_) ∧ Kd.R k38 38 w' w.heap.size (fun _=>True) v0_ r ∧ Below w.heap.size w w':=by
 have hu38:=Try.underlying38
 have HR0:=Aside0.mk hr0
 have HC0:=Aside0.mk hc0
 clear hr0 hc0
 have HB:=am (Below.refl w.heap.size w)
 have H : (spec_l2Put.l0 k l0 (([] : List (S38))) false 0 a1_0 a1_1 a1_2 a1_3 a1_4) = some r:=h
 clear h
 obtain ⟨y469,hy_⟩ : ∃ y_ : List (S38),y_ = (([] : List (S38))):=⟨_,rfl⟩
 replace H : (spec_l2Put.l0 k l0 y469 false 0 a1_0 a1_1 a1_2 a1_3 a1_4) = some r:=Q147
 have Ny469:=Aside0.mk hy_
 clear hy_
 have H':=Aside0.mk H
 clear H
 go_enter Try.func88,Try.ntmps88
 go_wp2_with (first|((with_reducible refine gate_dst (N:=3) rfl ?_);refine box_event ?hg (N:=3) ?hd (cs:=#[.int .i64 a1_0,.int .i64 a1_1,.int .i64 a1_2,.int .i64 a1_3,.int .i64 a1_4]) (t:=38) ?hr ?_;(case hd=>rfl);(case hg=>rfl);(case hr=>first|(go_simp;done)|(go_simp;rfl));intro gb468 hg w3 hbox hb;have n0_:=am (below_step Q72 hb);have n1_:=am (hbox);have n2_:=am ((Q158 : w.heap.size ≤ gb468));have n3_:=n2_;clear HB;have HB:=n0_;have BK468:=n1_;have GW468:=n2_;have GE468:=n3_;clear n0_ n1_ n2_ n3_;clear hb hbox hg)|((with_reducible refine gate_dst (N:=9) rfl ?_);refine Kd.R_lit k38 _ 38 ?hg (N:=9) ?hd (xs:=([] : List (S38))) (inner:=[]) (ok:=fun _=>True) (okp:=fun _=>True) ?hr ?hp (fun _ hk=>hk) trivial (Below.refl _ _) (Nat.le_refl _) (by simp) ?_;(case hd=>rfl);(case hg=>rfl);(case hr=>first|(go_simp;done)|(go_simp;rfl));(case hp=>exact (Reps.none _ _));intro v470 w4 ho5 hb hg_ hnew_;clear hg_ hnew_;(first|rw [← Ny469.out] at ho5|(simp only [Int.reduceToNat] at ho5;rw [← Ny469.out] at ho5));have n0_:=am (Kd.R_lower (Kd.R_newB ho5 (g:=gb468) (o:=.cells #[.int .i64 a1_0,.int .i64 a1_1,.int .i64 a1_2,.int .i64 a1_3,.int .i64 a1_4] 38 (0,0)) Q67) (below_size Q95));have n1_:=am (blk_below (g:=gb468) (o:=.cells #[.int .i64 a1_0,.int .i64 a1_1,.int .i64 a1_2,.int .i64 a1_3,.int .i64 a1_4] 38 (0,0)) Q67 hb);have n2_:=am (below_step Q95 hb);clear BK468 HB;have HO471:=n0_;have BK468:=n1_;have HB:=n2_;clear n0_ n1_ n2_;clear hb ho5))
 go_loopg [5,6,7] k (fun kq v5 v6 v7 w'=>∃ (x5_1 : List (S38)) (x6_1 : Bool) (x7_1 : Int) (x469004_1 : Int),v6 = .bool x6_1 ∧ v7 = .int .i64 x7_1 ∧ Aside0 (spec_l2Put.l0 kq l0 x5_1 x6_1 x7_1 a1_0 a1_1 a1_2 a1_3 x469004_1 = some r) ∧ Aside0 (kq ≤ k) ∧ Aside0 (Kd.R k38 38 w' w.heap.size (fun k_=>k_ ≠ gb468) v5 x5_1) ∧ Aside0 (w'.heap[gb468]? = some (.cells #[.int .i64 a1_0,.int .i64 a1_1,.int .i64 a1_2,.int .i64 a1_3,.int .i64 x469004_1] 38 (0,0))) ∧ Aside0 (Below w.heap.size w w'))
 case atStart=>exact ⟨(y469),(false),(0),(a1_4),Q5,Q5,H',⟨Nat.le_refl _⟩,⟨by (with_reducible repeat (first|apply Kd.R_alloc|apply Kd.R_drewN|apply Kd.R_drew));exact Kd.R_mono HO471.out (fun _ hk=>hk.2)⟩,⟨Q67⟩,⟨Q95⟩⟩
 case round =>
  clear H'
  try clear p2
  obtain ⟨x5_1,x6_1,x7_1,x469004_1,rfl,rfl,HA,HK1,HO_5,BK468,HB⟩:=hrel
  cases gk with
  | zero=>exact absurd HA.out (by simp [spec_l2Put.l0])
  | succ k1 =>
   have H:=HA.out
   clear HA
   simp only [spec_l2Put.l0] at H
   by_cases c6 : x7_1 < (l0.length : Int)
   ·rw [if_pos c6] at H
    have c6b0 : decide (x7_1 < (l0.length : Int)) = true:=decide_eq_true c6
    clear c6
    have c7 : 0 ≤ x7_1:=nn_ H
    rw [if_pos c7] at H
    have c7b0 : decide (0 ≤ x7_1) = true:=decide_eq_true c7
    clear c7
    replace H:=Option.bind_eq_some_iff.mp H
    obtain ⟨t476,A80,H⟩:=H
    replace H : (if x6_1 = true then (spec_l2Put.j1 k1 l0 x5_1 x6_1 x7_1 t476 false a1_0 a1_1 a1_2 a1_3 x469004_1) else (spec_l2Put.j1 k1 l0 x5_1 x6_1 x7_1 t476 (decide (t476 > 0)) a1_0 a1_1 a1_2 a1_3 x469004_1)) = some r:=H
    have A8:=Aside0.mk A80
    clear A80
    have HC9:=Aside0.mk H
    clear H
    try go_wp2
    have n0_:=am (Kd.R_drew HO_5.out)
    have n1_:=am (blk_drew BK468.out)
    have n2_:=am (below_drew1 HB.out)
    clear HO_5
    clear BK468
    clear HB
    have HO_5:=n0_
    have BK468:=n1_
    have HB:=n2_
    clear n0_ n1_ n2_
    have p475 : 0 ≤ (x7_1 : Int):=of_decide_eq_true Q6
    have q475 : x7_1 < (l0.length : Int):=of_decide_eq_true Q6
    obtain ⟨ad475,e475,hx475_0,hx475_1,hx475_2,hx475_3,hx475_4⟩:=at_T38 HR0.out x7_1 p475 q475
    have hw475_4:=hx475_4
    have hw475_3:=hx475_3
    have hw475_2:=hx475_2
    have hw475_1:=hx475_1
    have hw475_0:=hx475_0
    cases e475
    replace hx475_0:=cb_ HB hx475_0
    replace hx475_1:=cb_ HB hx475_1
    replace hx475_2:=cb_ HB hx475_2
    replace hx475_3:=cb_ HB hx475_3
    replace hx475_4:=cb_ HB hx475_4
    replace p475:=eq_true p475
    replace q475:=eq_true q475
    refine start_ (n:=7) (S:=fun w'=>w'.cell? ⟨gb468,0,none⟩ = some (.int .i64 a1_0) ∧ w'.cell? ⟨gb468,1,none⟩ = some (.int .i64 a1_1) ∧ w'.cell? ⟨gb468,2,none⟩ = some (.int .i64 a1_2) ∧ w'.cell? ⟨gb468,3,none⟩ = some (.int .i64 a1_3) ∧ w'.cell? ⟨gb468,4,none⟩ = some (.int .i64 x469004_1) ∧ w'.cell? (ad475.add ((x7_1).toNat * 5)) = some (.int .i64 ((rd_T38 l0 x7_1).f0)) ∧ w'.cell? ⟨(ad475.add ((x7_1).toNat * 5)).block,(ad475.add ((x7_1).toNat * 5)).off + 1,none⟩ = some (.int .i64 ((rd_T38 l0 x7_1).f1)) ∧ w'.cell? ⟨(ad475.add ((x7_1).toNat * 5)).block,(ad475.add ((x7_1).toNat * 5)).off + 2,none⟩ = some (.int .i64 ((rd_T38 l0 x7_1).f2.f0)) ∧ w'.cell? ⟨(ad475.add ((x7_1).toNat * 5)).block,(ad475.add ((x7_1).toNat * 5)).off + 3,none⟩ = some (.int .i64 ((rd_T38 l0 x7_1).f2.f1)) ∧ w'.cell? ⟨(ad475.add ((x7_1).toNat * 5)).block,(ad475.add ((x7_1).toNat * 5)).off + 4,none⟩ = some (.int .i64 ((rd_T38 l0 x7_1).f3))) (ds:=[]) b7_0 Q1 rfl rfl ⟨(blk_cell BK468.out 0).trans rfl,(blk_cell BK468.out 1).trans rfl,(blk_cell BK468.out 2).trans rfl,(blk_cell BK468.out 3).trans rfl,(blk_cell BK468.out 4).trans rfl,(cb_ HB hw475_0:),(cb_ HB hw475_1:),(cb_ HB hw475_2:),(cb_ HB hw475_3:),(cb_ HB hw475_4:)⟩ (fun hHeld=>?_)
    generalize wr.drew = w10 at HO_5 BK468 HB hx475_0 hx475_1 hx475_2 hx475_3 hx475_4 hHeld ⊢
    refine pU_ 0 16 b7_1 ?_
    refine pU_ 1 17 b7_2 ?_
    refine pU_ 2 18 b7_3 ?_
    refine tU_ 3 19 b7_4 hHeld ?_
    refine tU_ 4 20 b7_5 hHeld ?_
    refine one_ (i:=5) (N:=some 21) b7_6 rfl rfl Q1 Q0 (fun K hK=>?_)
    refine goes_ Try.func71 Q1 rfl #[.agg #[.int .i64 ((rd_T38 l0 x7_1).f0),.int .i64 ((rd_T38 l0 x7_1).f1),.int .i64 ((rd_T38 l0 x7_1).f2.f0),.int .i64 ((rd_T38 l0 x7_1).f2.f1),.int .i64 ((rd_T38 l0 x7_1).f3)],.agg #[.int .i64 a1_0,.int .i64 a1_1,.int .i64 a1_2,.int .i64 a1_3,.int .i64 x469004_1]] (by rfl) rfl rfl Q74 ?_
    with_reducible refine (spec_l2Comp.calls k1 ((rd_T38 l0 x7_1).f0) ((rd_T38 l0 x7_1).f1) ((rd_T38 l0 x7_1).f2.f0) ((rd_T38 l0 x7_1).f2.f1) ((rd_T38 l0 x7_1).f3) a1_0 a1_1 a1_2 a1_3 x469004_1 t476 _ A8.out).mono ?_
    rintro e w11 ⟨rfl,hb⟩
    refine ⟨_,rfl,?_⟩
    have n0_:=am (Kd.R_below Q19 hb)
    have n1_:=am (blk_below (g:=gb468) (o:=.cells #[.int .i64 a1_0,.int .i64 a1_1,.int .i64 a1_2,.int .i64 a1_3,.int .i64 x469004_1] 38 (0,0)) Q67 hb)
    have n2_:=am (below_step Q95 hb)
    clear HO_5
    clear BK468
    clear HB
    have HO_5:=n0_
    have BK468:=n1_
    have HB:=n2_
    clear n0_ n1_ n2_
    (try clear hb)
    (try clear hb2)
    (try clear hk)
    (try clear hi)
    refine hK.out _ _ ⟨(blk_cell BK468.out 0).trans rfl,(blk_cell BK468.out 1).trans rfl,(blk_cell BK468.out 2).trans rfl,(blk_cell BK468.out 3).trans rfl,(blk_cell BK468.out 4).trans rfl,(cb_ HB hw475_0:),(cb_ HB hw475_1:),(cb_ HB hw475_2:),(cb_ HB hw475_3:),(cb_ HB hw475_4:)⟩ (fun hHeld=>?_)
    clear hK K
    refine norm_ (a':=?_) ?_ ?_
    rotate_left
    ·show Act.put _ (some 21) _ = _
     simp only [Act.put,sA_,sZ_,sS_,i64_w,i32_w]
     rfl
    refine pU_ 6 8 b7_7 ?_
    refine done_ Q1 ?_
    go_upto_region 7 with (fail)
    go_cut [27] (fun v27 wc=>∃ (kq : Nat) (x27_8 : Bool),v27 = .bool x27_8 ∧ Aside0 (spec_l2Put.j1 kq l0 x5_1 x6_1 x7_1 t476 x27_8 a1_0 a1_1 a1_2 a1_3 x469004_1 = some r) ∧ Aside0 (kq ≤ k1) ∧ Aside0 (Kd.R k38 38 wc w.heap.size (fun k_=>k_ ≠ gb468) u5 x5_1) ∧ Aside0 (wc.heap[gb468]? = some (.cells #[.int .i64 a1_0,.int .i64 a1_1,.int .i64 a1_2,.int .i64 a1_3,.int .i64 x469004_1] 38 (0,0))) ∧ Aside0 (Below w.heap.size w wc))
    case first =>
     have H:=HC9.out
     clear HC9
     by_cases c12 : x6_1 = true
     ·subst c12
      have H1 : (spec_l2Put.j1 k1 l0 x5_1 true x7_1 t476 false a1_0 a1_1 a1_2 a1_3 x469004_1) = some r:=by rw [if_pos rfl] at H;exact H
      clear H
      have H:=H1
      clear H1
      have H':=Aside0.mk H
      clear H
      go_wp2
      go_meet
      case rel=>exact ⟨_,(false),Q5,H',⟨Q7⟩,⟨Q19⟩,⟨Q67⟩,⟨Q95⟩⟩
     ·replace c12:=Bool.eq_false_iff.mpr c12
      subst c12
      have H1 : (spec_l2Put.j1 k1 l0 x5_1 false x7_1 t476 (decide (t476 > 0)) a1_0 a1_1 a1_2 a1_3 x469004_1) = some r:=by rw [if_neg (show ¬ (false = true) by decide)] at H;exact H
      clear H
      have H:=H1
      clear H1
      have H':=Aside0.mk H
      clear H
      go_wp2
      go_meet
      case rel=>exact ⟨_,(decide (t476 > 0)),Q5,H',⟨Q7⟩,⟨Q19⟩,⟨Q67⟩,⟨Q95⟩⟩
    case rest =>
     clear HC9
     try clear c1
     try clear p2
     try clear p4
     try clear q4
     try clear hx4
     try clear c6
     try clear c6b0
     try clear c7
     try clear c7b0
     try clear c8
     try clear c12
     try clear hx475_0
     try clear hx475_1
     try clear hx475_2
     try clear hx475_3
     try clear hx475_4
     try clear p2
     try clear p475
     try clear q475
     obtain ⟨kq,x27_8,rfl,HA,HJ8,HO_5,BK468,HB⟩:=hcut
     cases kq with
     | zero=>exact absurd HA.out (by simp [spec_l2Put.j1])
     | succ kj8 =>
      have H:=HA.out
      clear HA
      simp only [spec_l2Put.j1] at H
      by_cases c13 : x27_8 = true
      ·subst c13
       have H1 : (if x5_1.length < 3518437208883 then ((some (x5_1 ++ [(⟨a1_0,a1_1,(⟨a1_2,a1_3⟩ : S36),x469004_1⟩ : S38)] : List (S38))).bind fun y477=>(if 0 ≤ x7_1 then (if x7_1 < (l0.length : Int) then (if y477.length < 3518437208883 then (spec_l2Put.l0 kj8 l0 (y477 ++ [(⟨(rd_T38 l0 x7_1).f0,(rd_T38 l0 x7_1).f1,(⟨(rd_T38 l0 x7_1).f2.f0,(rd_T38 l0 x7_1).f2.f1⟩ : S36),(rd_T38 l0 x7_1).f3⟩ : S38)]) true (wrap64 (x7_1 + 1)) a1_0 a1_1 a1_2 a1_3 x469004_1) else (none)) else (none)) else (none))) else (none)) = some r:=by rw [if_pos rfl] at H;exact H
       clear H
       have H:=H1
       clear H1
       have c14 : x5_1.length < 3518437208883:=nn_ H
       rw [if_pos c14] at H
       have LMc14:=Aside0.mk c14
       clear c14
       obtain ⟨y477,hy_⟩ : ∃ y_ : List (S38),y_ = (x5_1 ++ [(⟨a1_0,a1_1,(⟨a1_2,a1_3⟩ : S36),x469004_1⟩ : S38)]):=⟨_,rfl⟩
       replace H : (if 0 ≤ x7_1 then (if x7_1 < (l0.length : Int) then (if y477.length < 3518437208883 then (spec_l2Put.l0 kj8 l0 (y477 ++ [(⟨(rd_T38 l0 x7_1).f0,(rd_T38 l0 x7_1).f1,(⟨(rd_T38 l0 x7_1).f2.f0,(rd_T38 l0 x7_1).f2.f1⟩ : S36),(rd_T38 l0 x7_1).f3⟩ : S38)]) true (wrap64 (x7_1 + 1)) a1_0 a1_1 a1_2 a1_3 x469004_1) else (none)) else (none)) else (none)) = some r:=Q147
       have Ny477:=Aside0.mk hy_
       clear hy_
       have c15 : 0 ≤ x7_1:=nn_ H
       rw [if_pos c15] at H
       have c15b0 : decide (0 ≤ x7_1) = true:=decide_eq_true c15
       clear c15
       have c16 : x7_1 < (l0.length : Int):=nn_ H
       rw [if_pos c16] at H
       have c16b0 : decide (x7_1 < (l0.length : Int)) = true:=decide_eq_true c16
       clear c16
       have c17 : y477.length < 3518437208883:=nn_ H
       rw [if_pos c17] at H
       have LMc17:=Aside0.mk c17
       clear c17
       obtain ⟨y481,hy_⟩ : ∃ y_ : List (S38),y_ = (y477 ++ [(⟨(rd_T38 l0 x7_1).f0,(rd_T38 l0 x7_1).f1,(⟨(rd_T38 l0 x7_1).f2.f0,(rd_T38 l0 x7_1).f2.f1⟩ : S36),(rd_T38 l0 x7_1).f3⟩ : S38)]):=⟨_,rfl⟩
       replace H : (spec_l2Put.l0 kj8 l0 y481 true (wrap64 (x7_1 + 1)) a1_0 a1_1 a1_2 a1_3 x469004_1) = some r:=Q147
       have Ny481:=Aside0.mk hy_
       clear hy_
       have H':=Aside0.mk H
       clear H
       have hcz18_0 : wc.cell? ⟨gb468,0,none⟩ = some (.int .i64 a1_0):=(blk_cell BK468.out 0).trans rfl
       have hcz18_1 : wc.cell? ⟨gb468,1,none⟩ = some (.int .i64 a1_1):=(blk_cell BK468.out 1).trans rfl
       have hcz18_2 : wc.cell? ⟨gb468,2,none⟩ = some (.int .i64 a1_2):=(blk_cell BK468.out 2).trans rfl
       have hcz18_3 : wc.cell? ⟨gb468,3,none⟩ = some (.int .i64 a1_3):=(blk_cell BK468.out 3).trans rfl
       have hcz18_4 : wc.cell? ⟨gb468,4,none⟩ = some (.int .i64 x469004_1):=(blk_cell BK468.out 4).trans rfl
       have hfz18_0:=blk_frozen BK468.out 0
       have hfz18_1:=blk_frozen BK468.out 1
       have hfz18_2:=blk_frozen BK468.out 2
       have hfz18_3:=blk_frozen BK468.out 3
       have hfz18_4:=blk_frozen BK468.out 4
       go_wp2_with (first|((with_reducible refine gate_builtin (b:=.append) (xs:=#[.tmp 28,.tmp 30]) rfl ?_);at_builtin;refine Kd.R_append k38 (w0:=w) w.heap.size rfl (.tmp 28) (.tmp 30) 23 38 (.agg #[(.int .i64 0),(.int .i64 0),(.int .i64 0),(.int .i64 0),(.int .i64 0)]) 40 rfl Try.underlying23 info38 rfl Q0 (by omega) u5 x5_1 (⟨a1_0,a1_1,(⟨a1_2,a1_3⟩ : S36),x469004_1⟩ : S38) [.int .i64 a1_0,.int .i64 a1_1,.int .i64 a1_2,.int .i64 a1_3,.int .i64 x469004_1] (fun k_=>k_ ≠ gb468) (fun _=>False) rfl rfl ?aP (fun _ hk=>hk.elim) ?aF ?aO ?aB ?aS ?aL ?_;(case aP=>exact k38_mkM _ _ _ (⟨a1_0,a1_1,(⟨a1_2,a1_3⟩ : S36),x469004_1⟩ : S38));(case aB=>exact Q95);(case aF=>exact (fun k_ hk=>Kd.freshB (g:=gb468) (o:=.cells #[.int .i64 a1_0,.int .i64 a1_1,.int .i64 a1_2,.int .i64 a1_3,.int .i64 x469004_1] 38 (0,0)) Q67 k_ hk));(case aO=>exact Q19);(case aS=>exact (below_size Q95));(case aL=>have:=LMc14.out;omega);intro v478 w19 ho hb hg hat;rw [← Ny477.out] at ho;have n0_:=am (blk_grown (g:=gb468) (o:=.cells #[.int .i64 a1_0,.int .i64 a1_1,.int .i64 a1_2,.int .i64 a1_3,.int .i64 x469004_1] 38 (0,0)) Q67 hg (Kd.R_away HO_5.out (fun _ hk=>hk)));have n1_:=am (hb);have n2_:=am (ho);clear BK468 HB HO_5;have BK468:=n0_;have HB:=n1_;have HO479:=n2_;clear n0_ n1_ n2_;clear ho hb hg hat;have p480 : 0 ≤ (x7_1 : Int):=of_decide_eq_true Q6;have q480 : x7_1 < (l0.length : Int):=of_decide_eq_true Q6;obtain ⟨ad480,e480,hx480_0,hx480_1,hx480_2,hx480_3,hx480_4⟩:=at_T38 HR0.out x7_1 p480 q480;obtain rfl : ad475 = ad480:=(by injection e480);replace hx480_0:=cb_ HB hx480_0;replace hx480_1:=cb_ HB hx480_1;replace hx480_2:=cb_ HB hx480_2;replace hx480_3:=cb_ HB hx480_3;replace hx480_4:=cb_ HB hx480_4;replace p480:=eq_true p480;replace q480:=eq_true q480)|((with_reducible refine gate_builtin (b:=.append) (xs:=#[.tmp 51,.tmp 56]) rfl ?_);at_builtin;refine Kd.R_append k38 (w0:=w) w.heap.size rfl (.tmp 51) (.tmp 56) 23 38 (.agg #[(.int .i64 0),(.int .i64 0),(.int .i64 0),(.int .i64 0),(.int .i64 0)]) 40 rfl Try.underlying23 info38 rfl Q0 (by omega) v478 y477 (⟨(rd_T38 l0 x7_1).f0,(rd_T38 l0 x7_1).f1,(⟨(rd_T38 l0 x7_1).f2.f0,(rd_T38 l0 x7_1).f2.f1⟩ : S36),(rd_T38 l0 x7_1).f3⟩ : S38) [.int .i64 ((rd_T38 l0 x7_1).f0),.int .i64 ((rd_T38 l0 x7_1).f1),.int .i64 ((rd_T38 l0 x7_1).f2.f0),.int .i64 ((rd_T38 l0 x7_1).f2.f1),.int .i64 ((rd_T38 l0 x7_1).f3)] (fun k_=>k_ ≠ gb468) (fun _=>False) rfl rfl ?aP (fun _ hk=>hk.elim) ?aF ?aO ?aB ?aS ?aL ?_;(case aP=>exact k38_mkM _ _ _ (⟨(rd_T38 l0 x7_1).f0,(rd_T38 l0 x7_1).f1,(⟨(rd_T38 l0 x7_1).f2.f0,(rd_T38 l0 x7_1).f2.f1⟩ : S36),(rd_T38 l0 x7_1).f3⟩ : S38));(case aB=>exact Q95);(case aF=>exact (fun k_ hk=>Kd.freshB (g:=gb468) (o:=.cells #[.int .i64 a1_0,.int .i64 a1_1,.int .i64 a1_2,.int .i64 a1_3,.int .i64 x469004_1] 38 (0,0)) Q67 k_ hk));(case aO=>exact (by (with_reducible repeat (first|apply Kd.R_alloc|apply Kd.R_drewN|apply Kd.R_drew));exact HO479.out));(case aS=>exact (below_size Q95));(case aL=>have:=LMc17.out;omega);intro v482 w20 ho hb hg hat;rw [← Ny481.out] at ho;have n0_:=am (blk_grown (g:=gb468) (o:=.cells #[.int .i64 a1_0,.int .i64 a1_1,.int .i64 a1_2,.int .i64 a1_3,.int .i64 x469004_1] 38 (0,0)) Q67 hg (Kd.R_away HO479.out (fun _ hk=>hk)));have n1_:=am (hb);have n2_:=am (ho);clear BK468 HB HO479;have BK468:=n0_;have HB:=n1_;have HO483:=n2_;clear n0_ n1_ n2_;clear ho hb hg hat))
       go_roundg kj8
       case measure=>have:=HK1.out;have:=HJ8.out;omega
       case rel=>exact ⟨(y481),(true),(wrap64 (x7_1 + 1)),(x469004_1),Q5,Q5,H',⟨Q4⟩,⟨by (with_reducible repeat (first|apply Kd.R_alloc|apply Kd.R_drewN|apply Kd.R_drew));exact HO483.out⟩,⟨Q67⟩,⟨Q95⟩⟩
      ·replace c13:=Bool.eq_false_iff.mpr c13
       subst c13
       have H1 : (if x6_1 = true then (if 0 ≤ x7_1 then (if x7_1 < (l0.length : Int) then (if x5_1.length < 3518437208883 then (spec_l2Put.l0 kj8 l0 (x5_1 ++ [(⟨(rd_T38 l0 x7_1).f0,(rd_T38 l0 x7_1).f1,(⟨(rd_T38 l0 x7_1).f2.f0,(rd_T38 l0 x7_1).f2.f1⟩ : S36),(rd_T38 l0 x7_1).f3⟩ : S38)]) x6_1 (wrap64 (x7_1 + 1)) a1_0 a1_1 a1_2 a1_3 x469004_1) else (none)) else (none)) else (none)) else (if t476 = 0 then (if 0 ≤ x7_1 then (if x7_1 < (l0.length : Int) then (if x5_1.length < 3518437208883 then (spec_l2Put.l0 kj8 l0 (x5_1 ++ [(⟨a1_0,a1_1,(⟨a1_2,a1_3⟩ : S36),wrap64 (x469004_1 + ((rd_T38 l0 x7_1).f3))⟩ : S38)]) true (wrap64 (x7_1 + 1)) a1_0 a1_1 a1_2 a1_3 (wrap64 (x469004_1 + ((rd_T38 l0 x7_1).f3)))) else (none)) else (none)) else (none)) else (if 0 ≤ x7_1 then (if x7_1 < (l0.length : Int) then (if x5_1.length < 3518437208883 then (spec_l2Put.l0 kj8 l0 (x5_1 ++ [(⟨(rd_T38 l0 x7_1).f0,(rd_T38 l0 x7_1).f1,(⟨(rd_T38 l0 x7_1).f2.f0,(rd_T38 l0 x7_1).f2.f1⟩ : S36),(rd_T38 l0 x7_1).f3⟩ : S38)]) x6_1 (wrap64 (x7_1 + 1)) a1_0 a1_1 a1_2 a1_3 x469004_1) else (none)) else (none)) else (none)))) = some r:=by rw [if_neg (show ¬ (false = true) by decide)] at H;exact H
       clear H
       have H:=H1
       clear H1
       by_cases c21 : x6_1 = true
       ·subst c21
        have H1 : (if 0 ≤ x7_1 then (if x7_1 < (l0.length : Int) then (if x5_1.length < 3518437208883 then (spec_l2Put.l0 kj8 l0 (x5_1 ++ [(⟨(rd_T38 l0 x7_1).f0,(rd_T38 l0 x7_1).f1,(⟨(rd_T38 l0 x7_1).f2.f0,(rd_T38 l0 x7_1).f2.f1⟩ : S36),(rd_T38 l0 x7_1).f3⟩ : S38)]) true (wrap64 (x7_1 + 1)) a1_0 a1_1 a1_2 a1_3 x469004_1) else (none)) else (none)) else (none)) = some r:=by rw [if_pos rfl] at H;exact H
        clear H
        have H:=H1
        clear H1
        have c22 : 0 ≤ x7_1:=nn_ H
        rw [if_pos c22] at H
        have c22b0 : decide (0 ≤ x7_1) = true:=decide_eq_true c22
        clear c22
        have c23 : x7_1 < (l0.length : Int):=nn_ H
        rw [if_pos c23] at H
        have c23b0 : decide (x7_1 < (l0.length : Int)) = true:=decide_eq_true c23
        clear c23
        have c24 : x5_1.length < 3518437208883:=nn_ H
        rw [if_pos c24] at H
        have LMc24:=Aside0.mk c24
        clear c24
        obtain ⟨y485,hy_⟩ : ∃ y_ : List (S38),y_ = (x5_1 ++ [(⟨(rd_T38 l0 x7_1).f0,(rd_T38 l0 x7_1).f1,(⟨(rd_T38 l0 x7_1).f2.f0,(rd_T38 l0 x7_1).f2.f1⟩ : S36),(rd_T38 l0 x7_1).f3⟩ : S38)]):=⟨_,rfl⟩
        replace H : (spec_l2Put.l0 kj8 l0 y485 true (wrap64 (x7_1 + 1)) a1_0 a1_1 a1_2 a1_3 x469004_1) = some r:=Q147
        have Ny485:=Aside0.mk hy_
        clear hy_
        have H':=Aside0.mk H
        clear H
        have p484 : 0 ≤ (x7_1 : Int):=of_decide_eq_true Q6
        have q484 : x7_1 < (l0.length : Int):=of_decide_eq_true Q6
        obtain ⟨ad484,e484,hx484_0,hx484_1,hx484_2,hx484_3,hx484_4⟩:=at_T38 HR0.out x7_1 p484 q484
        obtain rfl : ad475 = ad484:=(by injection e484)
        replace hx484_0:=cb_ HB hx484_0
        replace hx484_1:=cb_ HB hx484_1
        replace hx484_2:=cb_ HB hx484_2
        replace hx484_3:=cb_ HB hx484_3
        replace hx484_4:=cb_ HB hx484_4
        replace p484:=eq_true p484
        replace q484:=eq_true q484
        go_wp2_with (first|((with_reducible refine gate_builtin (b:=.append) (xs:=#[.tmp 51,.tmp 56]) rfl ?_);at_builtin;refine Kd.R_append k38 (w0:=w) w.heap.size rfl (.tmp 51) (.tmp 56) 23 38 (.agg #[(.int .i64 0),(.int .i64 0),(.int .i64 0),(.int .i64 0),(.int .i64 0)]) 40 rfl Try.underlying23 info38 rfl Q0 (by omega) u5 x5_1 (⟨(rd_T38 l0 x7_1).f0,(rd_T38 l0 x7_1).f1,(⟨(rd_T38 l0 x7_1).f2.f0,(rd_T38 l0 x7_1).f2.f1⟩ : S36),(rd_T38 l0 x7_1).f3⟩ : S38) [.int .i64 ((rd_T38 l0 x7_1).f0),.int .i64 ((rd_T38 l0 x7_1).f1),.int .i64 ((rd_T38 l0 x7_1).f2.f0),.int .i64 ((rd_T38 l0 x7_1).f2.f1),.int .i64 ((rd_T38 l0 x7_1).f3)] (fun k_=>k_ ≠ gb468) (fun _=>False) rfl rfl ?aP (fun _ hk=>hk.elim) ?aF ?aO ?aB ?aS ?aL ?_;(case aP=>exact k38_mkM _ _ _ (⟨(rd_T38 l0 x7_1).f0,(rd_T38 l0 x7_1).f1,(⟨(rd_T38 l0 x7_1).f2.f0,(rd_T38 l0 x7_1).f2.f1⟩ : S36),(rd_T38 l0 x7_1).f3⟩ : S38));(case aB=>exact Q95);(case aF=>exact (fun k_ hk=>Kd.freshB (g:=gb468) (o:=.cells #[.int .i64 a1_0,.int .i64 a1_1,.int .i64 a1_2,.int .i64 a1_3,.int .i64 x469004_1] 38 (0,0)) Q67 k_ hk));(case aO=>exact Q19);(case aS=>exact (below_size Q95));(case aL=>have:=LMc24.out;omega);intro v486 w25 ho hb hg hat;rw [← Ny485.out] at ho;have n0_:=am (blk_grown (g:=gb468) (o:=.cells #[.int .i64 a1_0,.int .i64 a1_1,.int .i64 a1_2,.int .i64 a1_3,.int .i64 x469004_1] 38 (0,0)) Q67 hg (Kd.R_away HO_5.out (fun _ hk=>hk)));have n1_:=am (hb);have n2_:=am (ho);clear BK468 HB HO_5;have BK468:=n0_;have HB:=n1_;have HO487:=n2_;clear n0_ n1_ n2_;clear ho hb hg hat))
        go_roundg kj8
        case measure=>have:=HK1.out;have:=HJ8.out;omega
        case rel=>exact ⟨(y485),(true),(wrap64 (x7_1 + 1)),(x469004_1),Q5,Q5,H',⟨Q4⟩,⟨by (with_reducible repeat (first|apply Kd.R_alloc|apply Kd.R_drewN|apply Kd.R_drew));exact HO487.out⟩,⟨Q67⟩,⟨Q95⟩⟩
       ·replace c21:=Bool.eq_false_iff.mpr c21
        subst c21
        have H1 : (if t476 = 0 then (if 0 ≤ x7_1 then (if x7_1 < (l0.length : Int) then (if x5_1.length < 3518437208883 then (spec_l2Put.l0 kj8 l0 (x5_1 ++ [(⟨a1_0,a1_1,(⟨a1_2,a1_3⟩ : S36),wrap64 (x469004_1 + ((rd_T38 l0 x7_1).f3))⟩ : S38)]) true (wrap64 (x7_1 + 1)) a1_0 a1_1 a1_2 a1_3 (wrap64 (x469004_1 + ((rd_T38 l0 x7_1).f3)))) else (none)) else (none)) else (none)) else (if 0 ≤ x7_1 then (if x7_1 < (l0.length : Int) then (if x5_1.length < 3518437208883 then (spec_l2Put.l0 kj8 l0 (x5_1 ++ [(⟨(rd_T38 l0 x7_1).f0,(rd_T38 l0 x7_1).f1,(⟨(rd_T38 l0 x7_1).f2.f0,(rd_T38 l0 x7_1).f2.f1⟩ : S36),(rd_T38 l0 x7_1).f3⟩ : S38)]) false (wrap64 (x7_1 + 1)) a1_0 a1_1 a1_2 a1_3 x469004_1) else (none)) else (none)) else (none))) = some r:=by rw [if_neg (show ¬ (false = true) by decide)] at H;exact H
        clear H
        have H:=H1
        clear H1
        by_cases c26 : t476 = 0
        ·rw [if_pos c26] at H
         have c26b0 : (t476 == 0) = true:=beq_iff_eq.mpr c26
         have c26b1 : (t476 != 0) = false:=bne_eq_false_iff_eq.mpr c26
         clear c26
         have c27 : 0 ≤ x7_1:=nn_ H
         rw [if_pos c27] at H
         have c27b0 : decide (0 ≤ x7_1) = true:=decide_eq_true c27
         clear c27
         have c28 : x7_1 < (l0.length : Int):=nn_ H
         rw [if_pos c28] at H
         have c28b0 : decide (x7_1 < (l0.length : Int)) = true:=decide_eq_true c28
         clear c28
         have c29 : x5_1.length < 3518437208883:=nn_ H
         rw [if_pos c29] at H
         have LMc29:=Aside0.mk c29
         clear c29
         obtain ⟨y489,hy_⟩ : ∃ y_ : List (S38),y_ = (x5_1 ++ [(⟨a1_0,a1_1,(⟨a1_2,a1_3⟩ : S36),wrap64 (x469004_1 + ((rd_T38 l0 x7_1).f3))⟩ : S38)]):=⟨_,rfl⟩
         replace H : (spec_l2Put.l0 kj8 l0 y489 true (wrap64 (x7_1 + 1)) a1_0 a1_1 a1_2 a1_3 (wrap64 (x469004_1 + ((rd_T38 l0 x7_1).f3)))) = some r:=Q147
         have Ny489:=Aside0.mk hy_
         clear hy_
         have H':=Aside0.mk H
         clear H
         try go_wp2
         have n0_:=am (Kd.R_drew HO_5.out)
         have n1_:=am (blk_drew BK468.out)
         have n2_:=am (below_drew1 HB.out)
         clear HO_5
         clear BK468
         clear HB
         have HO_5:=n0_
         have BK468:=n1_
         have HB:=n2_
         clear n0_ n1_ n2_
         have p488 : 0 ≤ (x7_1 : Int):=of_decide_eq_true Q6
         have q488 : x7_1 < (l0.length : Int):=of_decide_eq_true Q6
         obtain ⟨ad488,e488,hx488_0,hx488_1,hx488_2,hx488_3,hx488_4⟩:=at_T38 HR0.out x7_1 p488 q488
         have hw488_4:=hx488_4
         have hw488_3:=hx488_3
         have hw488_2:=hx488_2
         have hw488_1:=hx488_1
         have hw488_0:=hx488_0
         obtain rfl : ad475 = ad488:=(by injection e488)
         replace hx488_0:=cb_ HB hx488_0
         replace hx488_1:=cb_ HB hx488_1
         replace hx488_2:=cb_ HB hx488_2
         replace hx488_3:=cb_ HB hx488_3
         replace hx488_4:=cb_ HB hx488_4
         replace p488:=eq_true p488
         replace q488:=eq_true q488
         refine start_ (n:=10) (S:=fun w'=>w'.cell? ⟨gb468,0,none⟩ = some (.int .i64 a1_0) ∧ w'.cell? ⟨gb468,1,none⟩ = some (.int .i64 a1_1) ∧ w'.cell? ⟨gb468,2,none⟩ = some (.int .i64 a1_2) ∧ w'.cell? ⟨gb468,3,none⟩ = some (.int .i64 a1_3) ∧ w'.cell? ⟨gb468,4,none⟩ = some (.int .i64 x469004_1) ∧ w'.cell? (ad475.add ((x7_1).toNat * 5)) = some (.int .i64 ((rd_T38 l0 x7_1).f0)) ∧ w'.cell? ⟨(ad475.add ((x7_1).toNat * 5)).block,(ad475.add ((x7_1).toNat * 5)).off + 1,none⟩ = some (.int .i64 ((rd_T38 l0 x7_1).f1)) ∧ w'.cell? ⟨(ad475.add ((x7_1).toNat * 5)).block,(ad475.add ((x7_1).toNat * 5)).off + 2,none⟩ = some (.int .i64 ((rd_T38 l0 x7_1).f2.f0)) ∧ w'.cell? ⟨(ad475.add ((x7_1).toNat * 5)).block,(ad475.add ((x7_1).toNat * 5)).off + 3,none⟩ = some (.int .i64 ((rd_T38 l0 x7_1).f2.f1)) ∧ w'.cell? ⟨(ad475.add ((x7_1).toNat * 5)).block,(ad475.add ((x7_1).toNat * 5)).off + 4,none⟩ = some (.int .i64 ((rd_T38 l0 x7_1).f3))) (ds:=[9]) b10_0 Q1 rfl rfl ⟨(blk_cell BK468.out 0).trans rfl,(blk_cell BK468.out 1).trans rfl,(blk_cell BK468.out 2).trans rfl,(blk_cell BK468.out 3).trans rfl,(blk_cell BK468.out 4).trans rfl,(cb_ HB hw488_0:),(cb_ HB hw488_1:),(cb_ HB hw488_2:),(cb_ HB hw488_3:),(cb_ HB hw488_4:)⟩ (fun hHeld=>?_);refine with_tabW spec_l2Put.tab11 spec_l2Put.bits11 (fun HT_ HW_=>?_)
         generalize wc.drew = w30 at HO_5 BK468 HB hx488_0 hx488_1 hx488_2 hx488_3 hx488_4 hHeld ⊢
         refine pU_ 0 38 b10_1 ?_
         refine pU_ 2 40 c177 ?_
         refine pU_ 3 41 c178 ?_
         refine pU_ 4 42 c179 ?_
         refine pU_ 5 43 c180 ?_
         refine tU_ 1 39 b10_6 hHeld ?_
         refine tU_ 6 44 b10_7 hHeld ?_
         refine pU_ 7 45 b10_8 ?_
         refine pU_ 8 46 b10_9 ?_
         refine last_ (i:=9) (N:=none) b10_10 rfl rfl (one_of HT_.out Q1) Q0 (fun K hK=>?_)
         have hs31 : w30.cell? ⟨gb468,4,none⟩ = some (.int .i64 x469004_1):=(blk_cell BK468.out 4).trans rfl
         have hfs31:=blk_frozen BK468.out 4
         refine skip_ (w1:=?_) (by rfl) rfl ?_ ?_
         rotate_left
         ·go_simp
          rfl
         refine hK.out _ _ ?_
         clear hK K
         refine done_ (done_of HT_.out Q1) ?_
         have hcz32_0 : w30.cell? ⟨gb468,0,none⟩ = some (.int .i64 a1_0):=(blk_cell BK468.out 0).trans rfl
         have hcz32_1 : w30.cell? ⟨gb468,1,none⟩ = some (.int .i64 a1_1):=(blk_cell BK468.out 1).trans rfl
         have hcz32_2 : w30.cell? ⟨gb468,2,none⟩ = some (.int .i64 a1_2):=(blk_cell BK468.out 2).trans rfl
         have hcz32_3 : w30.cell? ⟨gb468,3,none⟩ = some (.int .i64 a1_3):=(blk_cell BK468.out 3).trans rfl
         have hcz32_4 : w30.cell? ⟨gb468,4,none⟩ = some (.int .i64 x469004_1):=(blk_cell BK468.out 4).trans rfl
         have hfz32_0:=blk_frozen BK468.out 0
         have hfz32_1:=blk_frozen BK468.out 1
         have hfz32_2:=blk_frozen BK468.out 2
         have hfz32_3:=blk_frozen BK468.out 3
         have hfz32_4:=blk_frozen BK468.out 4
         try go_wp2_with (first|((with_reducible refine gate_builtin (b:=.append) (xs:=#[.tmp 47,.tmp 49]) rfl ?_);at_builtin;refine Kd.R_append k38 (w0:=w) w.heap.size rfl (.tmp 47) (.tmp 49) 23 38 (.agg #[(.int .i64 0),(.int .i64 0),(.int .i64 0),(.int .i64 0),(.int .i64 0)]) 40 rfl Try.underlying23 info38 rfl Q0 (by omega) u5 x5_1 (⟨a1_0,a1_1,(⟨a1_2,a1_3⟩ : S36),wrap64 (x469004_1 + ((rd_T38 l0 x7_1).f3))⟩ : S38) [.int .i64 a1_0,.int .i64 a1_1,.int .i64 a1_2,.int .i64 a1_3,.int .i64 (wrap64 (x469004_1 + ((rd_T38 l0 x7_1).f3)))] (fun k_=>k_ ≠ gb468) (fun _=>False) rfl (by first|(go_simp;done)|(go_simp;rfl)) ?aP (fun _ hk=>hk.elim) ?aF ?aO ?aB ?aS ?aL ?_;(case aP=>exact k38_mkM _ _ _ (⟨a1_0,a1_1,(⟨a1_2,a1_3⟩ : S36),wrap64 (x469004_1 + ((rd_T38 l0 x7_1).f3))⟩ : S38));(case aB=>exact Q95);(case aF=>exact (fun k_ hk=>Kd.freshB (g:=gb468) (o:=.cells #[.int .i64 a1_0,.int .i64 a1_1,.int .i64 a1_2,.int .i64 a1_3,.int .i64 (wrap64 (x469004_1 + ((rd_T38 l0 x7_1).f3)))] 38 (0,0)) (by (with_reducible repeat (first|refine blk_drewN ?_ _|refine blk_drew ?_|refine blk_alloc ?_ _));refine blk_put (cs:=#[.int .i64 a1_0,.int .i64 a1_1,.int .i64 a1_2,.int .i64 a1_3,.int .i64 x469004_1]) ?_ 4 _ rfl;(with_reducible repeat (first|refine blk_drewN ?_ _|refine blk_drew ?_|refine blk_alloc ?_ _));exact BK468.out) k_ hk));(case aO=>exact (by (with_reducible repeat (first|apply Kd.R_alloc|apply Kd.R_drewN|apply Kd.R_drew));exact Kd.R_mono (Kd.R_far (p:=⟨gb468,4,none⟩) (Kd.R_mono HO_5.out (fun k_ hk=>(⟨hk,hk⟩ : _ ∧ k_ ≠ gb468))) (fun _ hk=>hk.2) (.int .i64 (wrap64 (x469004_1 + ((rd_T38 l0 x7_1).f3))))) (fun _ hk=>hk.1)));(case aS=>exact (below_size Q95));(case aL=>have:=LMc29.out;omega);intro v490 w33 ho hb hg hat;rw [← Ny489.out] at ho;have n0_:=am (blk_grown (g:=gb468) (o:=.cells #[.int .i64 a1_0,.int .i64 a1_1,.int .i64 a1_2,.int .i64 a1_3,.int .i64 (wrap64 (x469004_1 + ((rd_T38 l0 x7_1).f3)))] 38 (0,0)) (by (with_reducible repeat (first|refine blk_drewN ?_ _|refine blk_drew ?_|refine blk_alloc ?_ _));refine blk_put (cs:=#[.int .i64 a1_0,.int .i64 a1_1,.int .i64 a1_2,.int .i64 a1_3,.int .i64 x469004_1]) ?_ 4 _ rfl;(with_reducible repeat (first|refine blk_drewN ?_ _|refine blk_drew ?_|refine blk_alloc ?_ _));exact BK468.out) hg (Kd.R_away HO_5.out (fun _ hk=>hk)));have n1_:=am (hb);have n2_:=am (ho);clear BK468 HB HO_5;have BK468:=n0_;have HB:=n1_;have HO491:=n2_;clear n0_ n1_ n2_;clear ho hb hg hat))
         go_roundg kj8
         case measure=>have:=HK1.out;have:=HJ8.out;omega
         case rel=>exact ⟨(y489),(true),(wrap64 (x7_1 + 1)),(wrap64 (x469004_1 + ((rd_T38 l0 x7_1).f3))),Q5,Q5,H',⟨Q4⟩,⟨by (with_reducible repeat (first|apply Kd.R_alloc|apply Kd.R_drewN|apply Kd.R_drew));exact HO491.out⟩,⟨Q67⟩,⟨Q95⟩⟩
        ·rw [if_neg c26] at H
         have c26b0 : (t476 == 0) = false:=beq_eq_false_iff_ne.mpr c26
         have c26b1 : (t476 != 0) = true:=bne_iff_ne.mpr c26
         have c34 : 0 ≤ x7_1:=nn_ H
         rw [if_pos c34] at H
         have c34b0 : decide (0 ≤ x7_1) = true:=decide_eq_true c34
         clear c34
         have c35 : x7_1 < (l0.length : Int):=nn_ H
         rw [if_pos c35] at H
         have c35b0 : decide (x7_1 < (l0.length : Int)) = true:=decide_eq_true c35
         clear c35
         have c36 : x5_1.length < 3518437208883:=nn_ H
         rw [if_pos c36] at H
         have LMc36:=Aside0.mk c36
         clear c36
         obtain ⟨y493,hy_⟩ : ∃ y_ : List (S38),y_ = (x5_1 ++ [(⟨(rd_T38 l0 x7_1).f0,(rd_T38 l0 x7_1).f1,(⟨(rd_T38 l0 x7_1).f2.f0,(rd_T38 l0 x7_1).f2.f1⟩ : S36),(rd_T38 l0 x7_1).f3⟩ : S38)]):=⟨_,rfl⟩
         replace H : (spec_l2Put.l0 kj8 l0 y493 false (wrap64 (x7_1 + 1)) a1_0 a1_1 a1_2 a1_3 x469004_1) = some r:=Q147
         have Ny493:=Aside0.mk hy_
         clear hy_
         have H':=Aside0.mk H
         clear H
         have p492 : 0 ≤ (x7_1 : Int):=of_decide_eq_true Q6
         have q492 : x7_1 < (l0.length : Int):=of_decide_eq_true Q6
         obtain ⟨ad492,e492,hx492_0,hx492_1,hx492_2,hx492_3,hx492_4⟩:=at_T38 HR0.out x7_1 p492 q492
         obtain rfl : ad475 = ad492:=(by injection e492)
         replace hx492_0:=cb_ HB hx492_0
         replace hx492_1:=cb_ HB hx492_1
         replace hx492_2:=cb_ HB hx492_2
         replace hx492_3:=cb_ HB hx492_3
         replace hx492_4:=cb_ HB hx492_4
         replace p492:=eq_true p492
         replace q492:=eq_true q492
         go_wp2_with (first|((with_reducible refine gate_builtin (b:=.append) (xs:=#[.tmp 51,.tmp 56]) rfl ?_);at_builtin;refine Kd.R_append k38 (w0:=w) w.heap.size rfl (.tmp 51) (.tmp 56) 23 38 (.agg #[(.int .i64 0),(.int .i64 0),(.int .i64 0),(.int .i64 0),(.int .i64 0)]) 40 rfl Try.underlying23 info38 rfl Q0 (by omega) u5 x5_1 (⟨(rd_T38 l0 x7_1).f0,(rd_T38 l0 x7_1).f1,(⟨(rd_T38 l0 x7_1).f2.f0,(rd_T38 l0 x7_1).f2.f1⟩ : S36),(rd_T38 l0 x7_1).f3⟩ : S38) [.int .i64 ((rd_T38 l0 x7_1).f0),.int .i64 ((rd_T38 l0 x7_1).f1),.int .i64 ((rd_T38 l0 x7_1).f2.f0),.int .i64 ((rd_T38 l0 x7_1).f2.f1),.int .i64 ((rd_T38 l0 x7_1).f3)] (fun k_=>k_ ≠ gb468) (fun _=>False) rfl rfl ?aP (fun _ hk=>hk.elim) ?aF ?aO ?aB ?aS ?aL ?_;(case aP=>exact k38_mkM _ _ _ (⟨(rd_T38 l0 x7_1).f0,(rd_T38 l0 x7_1).f1,(⟨(rd_T38 l0 x7_1).f2.f0,(rd_T38 l0 x7_1).f2.f1⟩ : S36),(rd_T38 l0 x7_1).f3⟩ : S38));(case aB=>exact Q95);(case aF=>exact (fun k_ hk=>Kd.freshB (g:=gb468) (o:=.cells #[.int .i64 a1_0,.int .i64 a1_1,.int .i64 a1_2,.int .i64 a1_3,.int .i64 x469004_1] 38 (0,0)) Q67 k_ hk));(case aO=>exact Q19);(case aS=>exact (below_size Q95));(case aL=>have:=LMc36.out;omega);intro v494 w37 ho hb hg hat;rw [← Ny493.out] at ho;have n0_:=am (blk_grown (g:=gb468) (o:=.cells #[.int .i64 a1_0,.int .i64 a1_1,.int .i64 a1_2,.int .i64 a1_3,.int .i64 x469004_1] 38 (0,0)) Q67 hg (Kd.R_away HO_5.out (fun _ hk=>hk)));have n1_:=am (hb);have n2_:=am (ho);clear BK468 HB HO_5;have BK468:=n0_;have HB:=n1_;have HO495:=n2_;clear n0_ n1_ n2_;clear ho hb hg hat))
         go_roundg kj8
         case measure=>have:=HK1.out;have:=HJ8.out;omega
         case rel=>exact ⟨(y493),(false),(wrap64 (x7_1 + 1)),(x469004_1),Q5,Q5,H',⟨Q4⟩,⟨by (with_reducible repeat (first|apply Kd.R_alloc|apply Kd.R_drewN|apply Kd.R_drew));exact HO495.out⟩,⟨Q67⟩,⟨Q95⟩⟩
   ·rw [if_neg c6] at H
    have c6b0 : decide (x7_1 < (l0.length : Int)) = false:=decide_eq_false c6
    clear c6
    by_cases c38 : x6_1 = true
    ·subst c38
     have H1 : (some x5_1) = some r:=by rw [if_pos rfl] at H;exact H
     clear H
     have H:=H1
     clear H1
     obtain rfl:=Option.some.inj H
     go_wp2
     go_ret
     exact ⟨_,Q16,by (with_reducible repeat (first|apply Kd.R_alloc|apply Kd.R_drewN|apply Kd.R_drew));exact Kd.R_mono HO_5.out (fun _ hk=>trivial),Q95⟩
    ·replace c38:=Bool.eq_false_iff.mpr c38
     subst c38
     have H1 : (if x5_1.length < 3518437208883 then (some (x5_1 ++ [(⟨a1_0,a1_1,(⟨a1_2,a1_3⟩ : S36),x469004_1⟩ : S38)])) else (none)) = some r:=by rw [if_neg (show ¬ (false = true) by decide)] at H;exact H
     clear H
     have H:=H1
     clear H1
     have c39 : x5_1.length < 3518437208883:=nn_ H
     rw [if_pos c39] at H
     have LMc39:=Aside0.mk c39
     clear c39
     obtain ⟨y472,hy_⟩ : ∃ y_ : List (S38),y_ = (x5_1 ++ [(⟨a1_0,a1_1,(⟨a1_2,a1_3⟩ : S36),x469004_1⟩ : S38)]):=⟨_,rfl⟩
     replace H : (some y472) = some r:=Q147
     have Ny472:=Aside0.mk hy_
     clear hy_
     obtain rfl:=Option.some.inj H
     have hcz40_0 : wr.cell? ⟨gb468,0,none⟩ = some (.int .i64 a1_0):=(blk_cell BK468.out 0).trans rfl
     have hcz40_1 : wr.cell? ⟨gb468,1,none⟩ = some (.int .i64 a1_1):=(blk_cell BK468.out 1).trans rfl
     have hcz40_2 : wr.cell? ⟨gb468,2,none⟩ = some (.int .i64 a1_2):=(blk_cell BK468.out 2).trans rfl
     have hcz40_3 : wr.cell? ⟨gb468,3,none⟩ = some (.int .i64 a1_3):=(blk_cell BK468.out 3).trans rfl
     have hcz40_4 : wr.cell? ⟨gb468,4,none⟩ = some (.int .i64 x469004_1):=(blk_cell BK468.out 4).trans rfl
     have hfz40_0:=blk_frozen BK468.out 0
     have hfz40_1:=blk_frozen BK468.out 1
     have hfz40_2:=blk_frozen BK468.out 2
     have hfz40_3:=blk_frozen BK468.out 3
     have hfz40_4:=blk_frozen BK468.out 4
     go_wp2_with (first|((with_reducible refine gate_builtin (b:=.append) (xs:=#[.tmp 60,.tmp 62]) rfl ?_);at_builtin;refine Kd.R_append k38 (w0:=w) w.heap.size rfl (.tmp 60) (.tmp 62) 23 38 (.agg #[(.int .i64 0),(.int .i64 0),(.int .i64 0),(.int .i64 0),(.int .i64 0)]) 40 rfl Try.underlying23 info38 rfl Q0 (by omega) u5 x5_1 (⟨a1_0,a1_1,(⟨a1_2,a1_3⟩ : S36),x469004_1⟩ : S38) [.int .i64 a1_0,.int .i64 a1_1,.int .i64 a1_2,.int .i64 a1_3,.int .i64 x469004_1] (fun k_=>k_ ≠ gb468) (fun _=>False) rfl rfl ?aP (fun _ hk=>hk.elim) ?aF ?aO ?aB ?aS ?aL ?_;(case aP=>exact k38_mkM _ _ _ (⟨a1_0,a1_1,(⟨a1_2,a1_3⟩ : S36),x469004_1⟩ : S38));(case aB=>exact Q95);(case aF=>exact (fun k_ hk=>Kd.freshB (g:=gb468) (o:=.cells #[.int .i64 a1_0,.int .i64 a1_1,.int .i64 a1_2,.int .i64 a1_3,.int .i64 x469004_1] 38 (0,0)) Q67 k_ hk));(case aO=>exact Q19);(case aS=>exact (below_size Q95));(case aL=>have:=LMc39.out;omega);intro v473 w41 ho hb hg hat;rw [← Ny472.out] at ho;have n0_:=am (blk_grown (g:=gb468) (o:=.cells #[.int .i64 a1_0,.int .i64 a1_1,.int .i64 a1_2,.int .i64 a1_3,.int .i64 x469004_1] 38 (0,0)) Q67 hg (Kd.R_away HO_5.out (fun _ hk=>hk)));have n1_:=am (hb);have n2_:=am (ho);clear BK468 HB HO_5;have BK468:=n0_;have HB:=n1_;have HO474:=n2_;clear n0_ n1_ n2_;clear ho hb hg hat))
     go_ret
     exact ⟨_,Q16,by (with_reducible repeat (first|apply Kd.R_alloc|apply Kd.R_drewN|apply Kd.R_drew));exact Kd.R_mono HO474.out (fun _ hk=>trivial),Q95⟩
mutual
def spec_l2Sum.l0 : Nat → List (S38) → List (S38) → Int → Option ((List (S38)))
 | 0, _, _, _ => none
 | k + 1, x0, x3, x4 => if x4 < (x0.length : Int) then (if 0 ≤ x4 then ((spec_l2Put.f k x3 ((rd_T38 x0 x4).f0) ((rd_T38 x0 x4).f1) ((rd_T38 x0 x4).f2.f0) ((rd_T38 x0 x4).f2.f1) ((rd_T38 x0 x4).f3)).bind fun t500 => (spec_l2Sum.l0 k x0 t500 (wrap64 (x4 + 1)))) else (none)) else (spec_l2Sum.l1 k x3 (([] : List (S38))) 0)
def spec_l2Sum.l1 : Nat → List (S38) → List (S38) → Int → Option ((List (S38)))
 | 0, _, _, _ => none
 | k + 1, x3, x5, x6 => if x6 < (x3.length : Int) then (if 0 ≤ x6 then (if ((rd_T38 x3 x6).f3) = 0 then (spec_l2Sum.l1 k x3 x5 (wrap64 (x6 + 1))) else (if x5.length < 3518437208883 then (spec_l2Sum.l1 k x3 (x5 ++ [(⟨(rd_T38 x3 x6).f0, (rd_T38 x3 x6).f1, (⟨(rd_T38 x3 x6).f2.f0, (rd_T38 x3 x6).f2.f1⟩ : S36), (rd_T38 x3 x6).f3⟩ : S38)]) (wrap64 (x6 + 1))) else (none))) else (none)) else (some x5)
end
def spec_l2Sum.f (k : Nat) (l0 : List (S38)) : Option ((List (S38))) := spec_l2Sum.l0 k l0 (([] : List (S38))) 0
set_option maxHeartbeats 8000000 in
set_option maxRecDepth 100000 in
theorem spec_l2Sum.calls (k : Nat) (A0 : Option Addr) (c0 : Nat) (l0 : List (S38)) (r : List (S38)) (w : World) (hr0 : Kd.C k38 w A0 l0.length l0) (hc0 : l0.length ≤ c0) (h : spec_l2Sum.f k l0 = some r) :
  Calls Try.prog 58 #[.slice A0 l0.length c0] w fun e w'=>∃ v0_ : Value,e = .returned (v0_) ∧ Kd.R k38 38 w' w.heap.size (fun _=>True) v0_ r ∧ Below w.heap.size w w':=by
 have hu38:=Try.underlying38
 have HR0:=Aside0.mk hr0
 have HC0:=Aside0.mk hc0
 clear hr0 hc0
 have HB:=am (Below.refl w.heap.size w)
 have H : (spec_l2Sum.l0 k l0 (([] : List (S38))) 0) = some r:=h
 clear h
 obtain ⟨y496,hy_⟩ : ∃ y_ : List (S38),y_ = (([] : List (S38))):=⟨_,rfl⟩
 replace H : (spec_l2Sum.l0 k l0 y496 0) = some r:=Q147
 have Ny496:=Aside0.mk hy_
 clear hy_
 have H':=Aside0.mk H
 clear H
 go_enter Try.func58,Try.ntmps58
 go_wp2_with (first|((with_reducible refine gate_dst (N:=7) rfl ?_);refine Kd.R_lit k38 _ 38 ?hg (N:=7) ?hd (xs:=([] : List (S38))) (inner:=[]) (ok:=fun _=>True) (okp:=fun _=>True) ?hr ?hp (fun _ hk=>hk) trivial (Below.refl _ _) (Nat.le_refl _) (by simp) ?_;(case hd=>rfl);(case hg=>rfl);(case hr=>first|(go_simp;done)|(go_simp;rfl));(case hp=>exact (Reps.none _ _));intro v497 w2 ho3 hb hg_ hnew_;clear hg_ hnew_;(first|rw [← Ny496.out] at ho3|(simp only [Int.reduceToNat] at ho3;rw [← Ny496.out] at ho3));have n0_:=am (Kd.R_lower ho3 (below_size Q72));have n1_:=am (below_step Q72 hb);clear HB;have HO498:=n0_;have HB:=n1_;clear n0_ n1_;clear hb ho3))
 go_loopg [3,4] k (fun kq v3 v4 w'=>∃ (x3_1 : List (S38)) (x4_1 : Int),v4 = .int .i64 x4_1 ∧ Aside0 (spec_l2Sum.l0 kq l0 x3_1 x4_1 = some r) ∧ Aside0 (kq ≤ k) ∧ Aside0 (Kd.R k38 38 w' w.heap.size (fun _=>True) v3 x3_1) ∧ Aside0 (Below w.heap.size w w'))
 case atStart=>exact ⟨(y496),(0),Q5,H',⟨Nat.le_refl _⟩,⟨by (with_reducible repeat (first|apply Kd.R_alloc|apply Kd.R_drewN|apply Kd.R_drew));exact HO498.out⟩,⟨Q72⟩⟩
 case round =>
  clear H'
  try clear p2
  obtain ⟨x3_1,x4_1,rfl,HA,HK1,HO_3,HB⟩:=hrel
  cases gk with
  | zero=>exact absurd HA.out (by simp [spec_l2Sum.l0])
  | succ k1 =>
   have H:=HA.out
   clear HA
   simp only [spec_l2Sum.l0] at H
   by_cases c4 : x4_1 < (l0.length : Int)
   ·rw [if_pos c4] at H
    have c4b0 : decide (x4_1 < (l0.length : Int)) = true:=decide_eq_true c4
    clear c4
    have c5 : 0 ≤ x4_1:=nn_ H
    rw [if_pos c5] at H
    have c5b0 : decide (0 ≤ x4_1) = true:=decide_eq_true c5
    clear c5
    replace H:=Option.bind_eq_some_iff.mp H
    obtain ⟨t500,A60,H⟩:=H
    replace H : (spec_l2Sum.l0 k1 l0 t500 (wrap64 (x4_1 + 1))) = some r:=H
    have A6:=Aside0.mk A60
    clear A60
    have H':=Aside0.mk H
    clear H
    have p499 : 0 ≤ (x4_1 : Int):=of_decide_eq_true Q6
    have q499 : x4_1 < (l0.length : Int):=of_decide_eq_true Q6
    obtain ⟨ad499,e499,hx499_0,hx499_1,hx499_2,hx499_3,hx499_4⟩:=at_T38 HR0.out x4_1 p499 q499
    cases e499
    replace hx499_0:=cb_ HB hx499_0
    replace hx499_1:=cb_ HB hx499_1
    replace hx499_2:=cb_ HB hx499_2
    replace hx499_3:=cb_ HB hx499_3
    replace hx499_4:=cb_ HB hx499_4
    replace p499:=eq_true p499
    replace q499:=eq_true q499
    obtain ⟨Ao7,co7,eo7⟩:=Kd.R_slice HO_3.out
    subst eo7
    go_wp2_with (first|((with_reducible refine gate_callee (f:=88) rfl ?_);refine goesL_ (some 19) rfl rfl Try.func88 Q1 rfl #[.slice Ao7 x3_1.length co7,.agg #[.int .i64 ((rd_T38 l0 x4_1).f0),.int .i64 ((rd_T38 l0 x4_1).f1),.int .i64 ((rd_T38 l0 x4_1).f2.f0),.int .i64 ((rd_T38 l0 x4_1).f2.f1),.int .i64 ((rd_T38 l0 x4_1).f3)]] rfl Q74 ?_;(with_reducible refine (spec_l2Put.calls k1 _ _ x3_1 ((rd_T38 l0 x4_1).f0) ((rd_T38 l0 x4_1).f1) ((rd_T38 l0 x4_1).f2.f0) ((rd_T38 l0 x4_1).f2.f1) ((rd_T38 l0 x4_1).f3) t500 _ ?side1 ?side2 A6.out).mono ?_);(case side1=>exact (by repeat (first|exact (Kd.R_reads' HO_3.out).2.2|(with_reducible refine Kd.C_alloc ?_ _)|(with_reducible refine Kd.C_drewN ?_ _)|(with_reducible refine Kd.C_drew ?_))));(case side2=>exact (Kd.R_reads' HO_3.out).2.1);rintro e w8 ⟨v501,rfl,ho0,hb⟩;refine ⟨_,rfl,?_⟩;have n0_:=am (Kd.R_elder' Q20 (Kd.R_base ho0) hb);have n1_:=am (Kd.R_lower (Kd.R_new' ho0 (Kd.R_lt Q20)) (below_size Q72));have n2_:=am (below_step Q72 hb);clear HO_3 HB;have HO_3:=n0_;have HO502:=n1_;have HB:=n2_;clear n0_ n1_ n2_;(try clear hb);(try clear hb2);(try clear hk);(try clear hi);(try clear ho0)))
    go_roundg k1
    case measure=>have:=HK1.out;omega
    case rel=>exact ⟨(t500),(wrap64 (x4_1 + 1)),Q5,H',⟨Q2⟩,⟨by (with_reducible repeat (first|apply Kd.R_alloc|apply Kd.R_drewN|apply Kd.R_drew));exact Kd.R_mono HO502.out (fun _ hk=>trivial)⟩,⟨Q72⟩⟩
   ·rw [if_neg c4] at H
    have c4b0 : decide (x4_1 < (l0.length : Int)) = false:=decide_eq_false c4
    clear c4
    obtain ⟨y503,hy_⟩ : ∃ y_ : List (S38),y_ = (([] : List (S38))):=⟨_,rfl⟩
    replace H : (spec_l2Sum.l1 k1 x3_1 y503 0) = some r:=Q147
    have Ny503:=Aside0.mk hy_
    clear hy_
    have H':=Aside0.mk H
    clear H
    go_wp2_with (first|((with_reducible refine gate_dst (N:=20) rfl ?_);refine Kd.R_lit k38 _ 38 ?hg (N:=20) ?hd (xs:=([] : List (S38))) (inner:=[]) (ok:=fun _=>True) (okp:=fun _=>True) ?hr ?hp (fun _ hk=>hk) trivial (Below.refl _ _) (Nat.le_refl _) (by simp) ?_;(case hd=>rfl);(case hg=>rfl);(case hr=>first|(go_simp;done)|(go_simp;rfl));(case hp=>exact (Reps.none _ _));intro v504 w9 ho10 hb hg_ hnew_;clear hg_ hnew_;(first|rw [← Ny503.out] at ho10|(simp only [Int.reduceToNat] at ho10;rw [← Ny503.out] at ho10));have n0_:=am (Kd.R_elder' Q20 (Kd.R_base ho10) hb);have n1_:=am (Kd.R_lower (Kd.R_new' ho10 (Kd.R_lt Q20)) (below_size Q72));have n2_:=am (below_step Q72 hb);clear HO_3 HB;have HO_3:=n0_;have HO505:=n1_;have HB:=n2_;clear n0_ n1_ n2_;clear hb ho10))
    go_loopg [5,6] k1 (fun kq v5 v6 w'=>∃ (x5_2 : List (S38)) (x6_2 : Int),v6 = .int .i64 x6_2 ∧ Aside0 (spec_l2Sum.l1 kq x3_1 x5_2 x6_2 = some r) ∧ Aside0 (kq ≤ k1) ∧ Aside0 (Kd.R k38 38 w' w.heap.size (fun k_=>some k_ ≠ (v5 : Value).ownBlock) u3 x3_1) ∧ Aside0 (Kd.R k38 38 w' w.heap.size (fun k_=>some k_ ≠ (u3 : Value).ownBlock) v5 x5_2) ∧ Aside0 (Below w.heap.size w w'))
    case atStart=>exact ⟨(y503),(0),Q5,H',⟨Nat.le_refl _⟩,⟨by (with_reducible repeat (first|apply Kd.R_alloc|apply Kd.R_drewN|apply Kd.R_drew));exact Kd.R_mono HO_3.out (fun _ hk=>hk.2)⟩,⟨by (with_reducible repeat (first|apply Kd.R_alloc|apply Kd.R_drewN|apply Kd.R_drew));exact Kd.R_mono HO505.out (fun _ hk=>hk.2)⟩,⟨Q72⟩⟩
    case round =>
     clear H'
     try clear p2
     try clear c4
     try clear c4b0
     try clear p4
     try clear q4
     try clear hx4
     try clear c5
     try clear c5b0
     try clear p6
     try clear c8
     try clear hx499_0
     try clear hx499_1
     try clear hx499_2
     try clear hx499_3
     try clear hx499_4
     try clear p2
     try clear p499
     try clear q499
     obtain ⟨x5_2,x6_2,rfl,HA,HK2,HO_3,HO_5,HB⟩:=hrel
     cases gk with
     | zero=>exact absurd HA.out (by simp [spec_l2Sum.l1])
     | succ k2 =>
      have H:=HA.out
      clear HA
      simp only [spec_l2Sum.l1] at H
      by_cases c11 : x6_2 < (x3_1.length : Int)
      ·rw [if_pos c11] at H
       have c11b0 : decide (x6_2 < (x3_1.length : Int)) = true:=decide_eq_true c11
       clear c11
       have c12 : 0 ≤ x6_2:=nn_ H
       rw [if_pos c12] at H
       have c12b0 : decide (0 ≤ x6_2) = true:=decide_eq_true c12
       clear c12
       by_cases c13 : ((rd_T38 x3_1 x6_2).f3) = 0
       ·rw [if_pos c13] at H
        have c13b0 : (((rd_T38 x3_1 x6_2).f3) == 0) = true:=beq_iff_eq.mpr c13
        have c13b1 : (((rd_T38 x3_1 x6_2).f3) != 0) = false:=bne_eq_false_iff_eq.mpr c13
        clear c13
        have H':=Aside0.mk H
        clear H
        obtain ⟨Ao14,co14,eo14⟩:=Kd.R_slice HO_3.out
        subst eo14
        have p506 : 0 ≤ (x6_2 : Int):=of_decide_eq_true Q6
        have q506 : x6_2 < (x3_1.length : Int):=of_decide_eq_true Q6
        obtain ⟨ad506,e506,hx506_0,hx506_1,hx506_2,hx506_3,hx506_4⟩:=at_T38 (Kd.R_reads' HO_3.out).2.2 x6_2 p506 q506
        cases e506
        replace p506:=eq_true p506
        replace q506:=eq_true q506
        go_wp2
        go_roundg k2
        case measure=>have:=HK1.out;have:=HK2.out;omega
        case rel=>exact ⟨(x5_2),(wrap64 (x6_2 + 1)),Q5,H',⟨by have:=HK1.out;have:=HK2.out;omega⟩,⟨Q20⟩,⟨Q19⟩,⟨Q72⟩⟩
       ·rw [if_neg c13] at H
        have c13b0 : (((rd_T38 x3_1 x6_2).f3) == 0) = false:=beq_eq_false_iff_ne.mpr c13
        have c13b1 : (((rd_T38 x3_1 x6_2).f3) != 0) = true:=bne_iff_ne.mpr c13
        have c15 : x5_2.length < 3518437208883:=nn_ H
        rw [if_pos c15] at H
        have LMc15:=Aside0.mk c15
        clear c15
        obtain ⟨y508,hy_⟩ : ∃ y_ : List (S38),y_ = (x5_2 ++ [(⟨(rd_T38 x3_1 x6_2).f0,(rd_T38 x3_1 x6_2).f1,(⟨(rd_T38 x3_1 x6_2).f2.f0,(rd_T38 x3_1 x6_2).f2.f1⟩ : S36),(rd_T38 x3_1 x6_2).f3⟩ : S38)]):=⟨_,rfl⟩
        replace H : (spec_l2Sum.l1 k2 x3_1 y508 (wrap64 (x6_2 + 1))) = some r:=Q147
        have Ny508:=Aside0.mk hy_
        clear hy_
        have H':=Aside0.mk H
        clear H
        obtain ⟨Ao16,co16,eo16⟩:=Kd.R_slice HO_3.out
        subst eo16
        have p506 : 0 ≤ (x6_2 : Int):=of_decide_eq_true Q6
        have q506 : x6_2 < (x3_1.length : Int):=of_decide_eq_true Q6
        obtain ⟨ad506,e506,hx506_0,hx506_1,hx506_2,hx506_3,hx506_4⟩:=at_T38 (Kd.R_reads' HO_3.out).2.2 x6_2 p506 q506
        cases e506
        replace p506:=eq_true p506
        replace q506:=eq_true q506
        have p507 : 0 ≤ (x6_2 : Int):=of_decide_eq_true Q6
        have q507 : x6_2 < (x3_1.length : Int):=of_decide_eq_true Q6
        obtain ⟨ad507,e507,hx507_0,hx507_1,hx507_2,hx507_3,hx507_4⟩:=at_T38 (Kd.R_reads' HO_3.out).2.2 x6_2 p507 q507
        obtain rfl : ad506 = ad507:=(by injection e507)
        replace p507:=eq_true p507
        replace q507:=eq_true q507
        go_wp2_with (first|((with_reducible refine gate_builtin (b:=.append) (xs:=#[.tmp 33,.tmp 38]) rfl ?_);at_builtin;refine Kd.R_append k38 (w0:=w) w.heap.size rfl (.tmp 33) (.tmp 38) 23 38 (.agg #[(.int .i64 0),(.int .i64 0),(.int .i64 0),(.int .i64 0),(.int .i64 0)]) 40 rfl Try.underlying23 info38 rfl Q0 (by omega) u5 x5_2 (⟨(rd_T38 x3_1 x6_2).f0,(rd_T38 x3_1 x6_2).f1,(⟨(rd_T38 x3_1 x6_2).f2.f0,(rd_T38 x3_1 x6_2).f2.f1⟩ : S36),(rd_T38 x3_1 x6_2).f3⟩ : S38) [.int .i64 ((rd_T38 x3_1 x6_2).f0),.int .i64 ((rd_T38 x3_1 x6_2).f1),.int .i64 ((rd_T38 x3_1 x6_2).f2.f0),.int .i64 ((rd_T38 x3_1 x6_2).f2.f1),.int .i64 ((rd_T38 x3_1 x6_2).f3)] (fun k_=>some k_ ≠ (.slice (some ad506) x3_1.length co16 : Value).ownBlock) (fun _=>False) rfl rfl ?aP (fun _ hk=>hk.elim) ?aF ?aO ?aB ?aS ?aL ?_;(case aP=>exact k38_mkM _ _ _ (⟨(rd_T38 x3_1 x6_2).f0,(rd_T38 x3_1 x6_2).f1,(⟨(rd_T38 x3_1 x6_2).f2.f0,(rd_T38 x3_1 x6_2).f2.f1⟩ : S36),(rd_T38 x3_1 x6_2).f3⟩ : S38));(case aB=>exact Q72);(case aF=>exact (fun k_ hk=>Kd.fresh' (Kd.R_lt Q20) k_ hk));(case aO=>exact Q19);(case aS=>exact (below_size Q72));(case aL=>have:=LMc15.out;omega);intro v509 w17 ho hb hg hat;rw [← Ny508.out] at ho;have n0_:=am (Kd.R_after (ok:=(fun _=>True)) (by (with_reducible repeat (first|apply Kd.R_alloc|apply Kd.R_drewN|apply Kd.R_drew));exact Kd.R_mono HO_3.out (fun _ hk=>⟨trivial,hk⟩)) hg hat);have n1_:=am (hb);have n2_:=am (ho);clear HO_3 HB HO_5;have HO_3:=n0_;have HB:=n1_;have HO510:=n2_;clear n0_ n1_ n2_;clear ho hb hg hat))
        go_roundg k2
        case measure=>have:=HK1.out;have:=HK2.out;omega
        case rel=>exact ⟨(y508),(wrap64 (x6_2 + 1)),Q5,H',⟨by have:=HK1.out;have:=HK2.out;omega⟩,⟨by (with_reducible repeat (first|apply Kd.R_alloc|apply Kd.R_drewN|apply Kd.R_drew));exact Kd.R_mono HO_3.out (fun _ hk=>hk.2)⟩,⟨by (with_reducible repeat (first|apply Kd.R_alloc|apply Kd.R_drewN|apply Kd.R_drew));exact HO510.out⟩,⟨Q72⟩⟩
      ·rw [if_neg c11] at H
       have c11b0 : decide (x6_2 < (x3_1.length : Int)) = false:=decide_eq_false c11
       clear c11
       obtain rfl:=Option.some.inj H
       obtain ⟨Ao18,co18,eo18⟩:=Kd.R_slice HO_3.out
       subst eo18
       go_wp2
       go_ret
       exact ⟨_,Q16,by (with_reducible repeat (first|apply Kd.R_alloc|apply Kd.R_drewN|apply Kd.R_drew));exact Kd.R_mono HO_5.out (fun _ hk=>trivial),Q72⟩
mutual
def spec_BatchMove.j0 : Nat → List (S38) → List (S36) → List (S38) → Bool → Option ((List (S38)))
 | 0, _, _, _, _ => none
 | k + 1, x0, x1, x5, x16 => if x16 = true then (some x5) else (spec_BatchMove.l0 k x0 x1 x5 0)
def spec_BatchMove.l0 : Nat → List (S38) → List (S36) → List (S38) → Int → Option ((List (S38)))
 | 0, _, _, _, _ => none
 | k + 1, x0, x1, x5, x6 => if x6 < (x0.length : Int) then (if 0 ≤ x6 then ((spec_FrontMove.f k x1 ((rd_T38 x0 x6).f2.f0) ((rd_T38 x0 x6).f2.f1)).bind fun bt518 => (if x5.length < 3518437208883 then (spec_BatchMove.l0 k x0 x1 (x5 ++ [(⟨(rd_T38 x0 x6).f0, (rd_T38 x0 x6).f1, (⟨bt518.1, bt518.2⟩ : S36), (rd_T38 x0 x6).f3⟩ : S38)]) (wrap64 (x6 + 1))) else (none))) else (none)) else ((spec_l2Sum.f k x5).bind fun t523 => ((spec_l2Fit.f k t523).bind fun t526 => (some t526)))
end
def spec_BatchMove.f (k : Nat) (l0 : List (S38)) (l1 : List (S36)) : Option ((List (S38))) := (some (([] : List (S38)) : List (S38))).bind fun y511 => ((spec_RowsOk.f k l0).bind fun t514 => (if t514 = true then ((spec_FrontOk.f k l1).bind fun t515 => (spec_BatchMove.j0 k l0 l1 y511 (!t515))) else (spec_BatchMove.j0 k l0 l1 y511 true)))
set_option maxHeartbeats 8000000 in
set_option maxRecDepth 100000 in
theorem spec_BatchMove.calls (k : Nat) (A0 : Option Addr) (c0 : Nat) (l0 : List (S38)) (A1 : Option Addr) (c1 : Nat) (l1 : List (S36)) (r : List (S38)) (w : World) (hr0 : Kd.C k38 w A0 l0.length l0) (hc0 : l0.length ≤ c0) (hr1 : Kd.C k36 w A1 l1.length l1) (hc1 : l1.length ≤ c1) (h : spec_BatchMove.f k l0 l1 = some r) :
  Calls Try.prog 19 #[.slice A0 l0.length c0,.slice A1 l1.length c1] w fun e w'=>∃ v0_ : Value,e = .returned (v0_) ∧ Kd.R k38 38 w' w.heap.size (fun _=>True) v0_ r ∧ Below w.heap.size w w':=by
 have hu38:=Try.underlying38
 have hu36:=Try.underlying36
 have HR0:=Aside0.mk hr0
 have HC0:=Aside0.mk hc0
 clear hr0 hc0
 have HR1:=Aside0.mk hr1
 have HC1:=Aside0.mk hc1
 clear hr1 hc1
 have HB:=am (Below.refl w.heap.size w)
 have H : ((some (([] : List (S38)) : List (S38))).bind fun y511=>((spec_RowsOk.f k l0).bind fun t514=>(if t514 = true then ((spec_FrontOk.f k l1).bind fun t515=>(spec_BatchMove.j0 k l0 l1 y511 (!t515))) else (spec_BatchMove.j0 k l0 l1 y511 true)))) = some r:=h
 clear h
 obtain ⟨y511,hy_⟩ : ∃ y_ : List (S38),y_ = (([] : List (S38))):=⟨_,rfl⟩
 replace H : ((spec_RowsOk.f k l0).bind fun t514=>(if t514 = true then ((spec_FrontOk.f k l1).bind fun t515=>(spec_BatchMove.j0 k l0 l1 y511 (!t515))) else (spec_BatchMove.j0 k l0 l1 y511 true))) = some r:=Q147
 have Ny511:=Aside0.mk hy_
 clear hy_
 have HC3:=Aside0.mk H
 clear H
 go_enter Try.func19,Try.ntmps19
 go_upto_region 2 with (first|((with_reducible refine gate_dst (N:=8) rfl ?_);refine Kd.R_lit k38 _ 38 ?hg (N:=8) ?hd (xs:=([] : List (S38))) (inner:=[]) (ok:=fun _=>True) (okp:=fun _=>True) ?hr ?hp (fun _ hk=>hk) trivial (Below.refl _ _) (Nat.le_refl _) (by simp) ?_;(case hd=>rfl);(case hg=>rfl);(case hr=>first|(go_simp;done)|(go_simp;rfl));(case hp=>exact (Reps.none _ _));intro v512 w4 ho5 hb hg_ hnew_;clear hg_ hnew_;(first|rw [← Ny511.out] at ho5|(simp only [Int.reduceToNat] at ho5;rw [← Ny511.out] at ho5));have n0_:=am (Kd.R_lower ho5 (below_size Q72));have n1_:=am (below_step Q72 hb);clear HB;have HO513:=n0_;have HB:=n1_;clear n0_ n1_;clear hb ho5))
 (try simp only [Act.put,sA_,sZ_,sS_])
 go_cut [16] (fun v16 wc=>∃ (kq : Nat) (x16_2 : Bool),v16 = .bool x16_2 ∧ Aside0 (spec_BatchMove.j0 kq l0 l1 y511 x16_2 = some r) ∧ Aside0 (kq ≤ k) ∧ Aside0 (Kd.R k38 38 wc w.heap.size (fun _=>True) v512 y511) ∧ Aside0 (Below w.heap.size w wc))
 case first =>
  have H:=HC3.out
  clear HC3
  replace H:=Option.bind_eq_some_iff.mp H
  obtain ⟨t514,A60,H⟩:=H
  replace H : (if t514 = true then ((spec_FrontOk.f k l1).bind fun t515=>(spec_BatchMove.j0 k l0 l1 y511 (!t515))) else (spec_BatchMove.j0 k l0 l1 y511 true)) = some r:=H
  have A6:=Aside0.mk A60
  clear A60
  by_cases c7 : t514 = true
  ·subst c7
   have H1 : ((spec_FrontOk.f k l1).bind fun t515=>(spec_BatchMove.j0 k l0 l1 y511 (!t515))) = some r:=by rw [if_pos rfl] at H;exact H
   clear H
   have H:=H1
   clear H1
   replace H:=Option.bind_eq_some_iff.mp H
   obtain ⟨t515,A80,H⟩:=H
   replace H : (spec_BatchMove.j0 k l0 l1 y511 (!t515)) = some r:=H
   have A8:=Aside0.mk A80
   clear A80
   have H':=Aside0.mk H
   clear H
   go_wp2_with (first|((with_reducible refine gate_callee (f:=20) rfl ?_);refine goesL_ (some 10) rfl rfl Try.func20 Q1 rfl #[.slice A0 l0.length c0] rfl Q74 ?_;(with_reducible refine (spec_RowsOk.calls k _ _ l0 true _ ?side1 ?side2 A6.out).mono ?_);(case side1=>exact Q101);(case side2=>exact HC0.out);rintro e w9 ⟨rfl,hb⟩;refine ⟨_,rfl,?_⟩;have n0_:=am (Kd.R_below Q29 hb);have n1_:=am (below_step Q72 hb);clear HO513 HB;have HO513:=n0_;have HB:=n1_;clear n0_ n1_;(try clear hb);(try clear hb2);(try clear hk);(try clear hi))|(go_at_call 21;(with_reducible refine (spec_FrontOk.calls k _ _ l1 t515 _ ?side1 ?side2 A8.out).mono ?_);(case side1=>exact Q102);(case side2=>exact HC1.out);rintro e w10 ⟨rfl,hb⟩;have n0_:=am (Kd.R_below Q29 hb);have n1_:=am (below_step Q72 hb);clear HO513 HB;have HO513:=n0_;have HB:=n1_;clear n0_ n1_;(try clear hb);(try clear hb2);(try clear hk);(try clear hi)))
   go_meet
   case rel=>exact ⟨_,(!t515),Q5,H',⟨Q3⟩,⟨Q29⟩,⟨Q72⟩⟩
  ·replace c7:=Bool.eq_false_iff.mpr c7
   subst c7
   have H1 : (spec_BatchMove.j0 k l0 l1 y511 true) = some r:=by rw [if_neg (show ¬ (false = true) by decide)] at H;exact H
   clear H
   have H:=H1
   clear H1
   have H':=Aside0.mk H
   clear H
   go_wp2_with (first|((with_reducible refine gate_callee (f:=20) rfl ?_);refine goesL_ (some 10) rfl rfl Try.func20 Q1 rfl #[.slice A0 l0.length c0] rfl Q74 ?_;(with_reducible refine (spec_RowsOk.calls k _ _ l0 false _ ?side1 ?side2 A6.out).mono ?_);(case side1=>exact Q101);(case side2=>exact HC0.out);rintro e w11 ⟨rfl,hb⟩;refine ⟨_,rfl,?_⟩;have n0_:=am (Kd.R_below Q29 hb);have n1_:=am (below_step Q72 hb);clear HO513 HB;have HO513:=n0_;have HB:=n1_;clear n0_ n1_;(try clear hb);(try clear hb2);(try clear hk);(try clear hi)))
   go_meet
   case rel=>exact ⟨_,(true),Q5,H',⟨Q3⟩,⟨Q29⟩,⟨Q72⟩⟩
 case rest =>
  clear HC3
  try clear c1
  try clear c2
  try clear p2
  try clear c7
  obtain ⟨kq,x16_2,rfl,HA,HJ2,HO_5,HB⟩:=hcut
  cases kq with
  | zero=>exact absurd HA.out (by simp [spec_BatchMove.j0])
  | succ kj2 =>
   have H:=HA.out
   clear HA
   simp only [spec_BatchMove.j0] at H
   by_cases c12 : x16_2 = true
   ·subst c12
    have H1 : (some y511) = some r:=by rw [if_pos rfl] at H;exact H
    clear H
    have H:=H1
    clear H1
    obtain rfl:=Option.some.inj H
    go_wp2
    go_ret
    exact ⟨_,Q16,Q19,Q72⟩
   ·replace c12:=Bool.eq_false_iff.mpr c12
    subst c12
    have H1 : (spec_BatchMove.l0 kj2 l0 l1 y511 0) = some r:=by rw [if_neg (show ¬ (false = true) by decide)] at H;exact H
    clear H
    have H:=H1
    clear H1
    have H':=Aside0.mk H
    clear H
    go_wp2
    go_loopg [5,6] kj2 (fun kq v5 v6 w'=>∃ (x5_2 : List (S38)) (x6_2 : Int),v6 = .int .i64 x6_2 ∧ Aside0 (spec_BatchMove.l0 kq l0 l1 x5_2 x6_2 = some r) ∧ Aside0 (kq ≤ kj2) ∧ Aside0 (Kd.R k38 38 w' w.heap.size (fun _=>True) v5 x5_2) ∧ Aside0 (Below w.heap.size w w'))
    case atStart=>exact ⟨(y511),(0),Q5,H',⟨Nat.le_refl _⟩,⟨Q19⟩,⟨Q72⟩⟩
    case round =>
     clear H'
     try clear c1
     try clear c2
     try clear p2
     try clear c7
     try clear c12
     try clear p2
     obtain ⟨x5_2,x6_2,rfl,HA,HK2,HO_5,HB⟩:=hrel
     cases gk with
     | zero=>exact absurd HA.out (by simp [spec_BatchMove.l0])
     | succ k2 =>
      have H:=HA.out
      clear HA
      simp only [spec_BatchMove.l0] at H
      by_cases c13 : x6_2 < (l0.length : Int)
      ·rw [if_pos c13] at H
       have c13b0 : decide (x6_2 < (l0.length : Int)) = true:=decide_eq_true c13
       clear c13
       have c14 : 0 ≤ x6_2:=nn_ H
       rw [if_pos c14] at H
       have c14b0 : decide (0 ≤ x6_2) = true:=decide_eq_true c14
       clear c14
       replace H:=Option.bind_eq_some_iff.mp H
       obtain ⟨⟨t518,t519⟩,A150,H⟩:=H
       replace H : (if x5_2.length < 3518437208883 then (spec_BatchMove.l0 k2 l0 l1 (x5_2 ++ [(⟨(rd_T38 l0 x6_2).f0,(rd_T38 l0 x6_2).f1,(⟨t518,t519⟩ : S36),(rd_T38 l0 x6_2).f3⟩ : S38)]) (wrap64 (x6_2 + 1))) else (none)) = some r:=H
       have A15:=Aside0.mk A150
       clear A150
       have c16 : x5_2.length < 3518437208883:=nn_ H
       rw [if_pos c16] at H
       have LMc16:=Aside0.mk c16
       clear c16
       obtain ⟨y520,hy_⟩ : ∃ y_ : List (S38),y_ = (x5_2 ++ [(⟨(rd_T38 l0 x6_2).f0,(rd_T38 l0 x6_2).f1,(⟨t518,t519⟩ : S36),(rd_T38 l0 x6_2).f3⟩ : S38)]):=⟨_,rfl⟩
       replace H : (spec_BatchMove.l0 k2 l0 l1 y520 (wrap64 (x6_2 + 1))) = some r:=Q147
       have Ny520:=Aside0.mk hy_
       clear hy_
       have H':=Aside0.mk H
       clear H
       have p516 : 0 ≤ (x6_2 : Int):=of_decide_eq_true Q6
       have q516 : x6_2 < (l0.length : Int):=of_decide_eq_true Q6
       obtain ⟨ad516,e516,hx516_0,hx516_1,hx516_2,hx516_3,hx516_4⟩:=at_T38 HR0.out x6_2 p516 q516
       cases e516
       replace hx516_0:=cb_ HB hx516_0
       replace hx516_1:=cb_ HB hx516_1
       replace hx516_2:=cb_ HB hx516_2
       replace hx516_3:=cb_ HB hx516_3
       replace hx516_4:=cb_ HB hx516_4
       replace p516:=eq_true p516
       replace q516:=eq_true q516
       go_wp2_with (first|((with_reducible refine gate_dst (N:=7) rfl ?_);refine box_event ?hg (N:=7) ?hd (cs:=#[.int .i64 0,.int .i64 0,.int .i64 0,.int .i64 0,.int .i64 0]) (t:=38) ?hr ?_;(case hd=>rfl);(case hg=>rfl);(case hr=>first|(go_simp;done)|(go_simp;rfl));intro gb517 hg w17 hbox hb;have n0_:=am (Kd.R_below (Kd.R_elderB Q19 gb517 (Nat.le_of_eq hg.symm)) hb);have n1_:=am (below_step Q72 hb);have n2_:=am (hbox);have n3_:=am ((Q158 : w.heap.size ≤ gb517));have n4_:=n3_;clear HO_5 HB;have HO_5:=n0_;have HB:=n1_;have BK517:=n2_;have GW517:=n3_;have GE517:=n4_;clear n0_ n1_ n2_ n3_ n4_;clear hb hbox hg;obtain ⟨hcz18_0,hcz18_1,hcz18_2,hcz18_3,hcz18_4,hfz18_0,hfz18_1,hfz18_2,hfz18_3,hfz18_4⟩:=bx5_ BK517)|((with_reducible refine gate_callee (f:=56) rfl ?_);refine goesL_ (some 31) rfl rfl Try.func56 Q1 rfl #[.slice A1 l1.length c1,.agg #[.int .i64 ((rd_T38 l0 x6_2).f2.f0),.int .i64 ((rd_T38 l0 x6_2).f2.f1)]] rfl Q74 ?_;(with_reducible refine (spec_FrontMove.calls k2 _ _ l1 ((rd_T38 l0 x6_2).f2.f0) ((rd_T38 l0 x6_2).f2.f1) t518 t519 _ ?side1 ?side2 A15.out).mono ?_);(case side1=>exact Kd.C_below HR1.out Q96);(case side2=>exact HC1.out);rintro e w19 ⟨rfl,hb⟩;refine ⟨_,rfl,?_⟩;have n0_:=am (Kd.R_below (by (with_reducible repeat (first|apply Kd.R_alloc|apply Kd.R_drewN|apply Kd.R_drew));exact (Kd.R_mono (Kd.R_far (p:=⟨gb517,4,none⟩) (Kd.R_far (p:=⟨gb517,3,none⟩) (Kd.R_far (p:=⟨gb517,2,none⟩) (Kd.R_far (p:=⟨gb517,1,none⟩) (Kd.R_far (p:=⟨gb517,0,none⟩) (Kd.R_mono HO_5.out (fun k_ hk=>(⟨hk,hk.2⟩ : _ ∧ k_ ≠ gb517))) (fun _ hk=>hk.2) (.int .i64 ((rd_T38 l0 x6_2).f0))) (fun _ hk=>hk.2) (.int .i64 ((rd_T38 l0 x6_2).f1))) (fun _ hk=>hk.2) (.int .i64 ((rd_T38 l0 x6_2).f2.f0))) (fun _ hk=>hk.2) (.int .i64 ((rd_T38 l0 x6_2).f2.f1))) (fun _ hk=>hk.2) (.int .i64 ((rd_T38 l0 x6_2).f3))) (fun _ h_=>h_.1))) hb);have n1_:=am (blk_below (g:=gb517) (o:=.cells #[.int .i64 ((rd_T38 l0 x6_2).f0),.int .i64 ((rd_T38 l0 x6_2).f1),.int .i64 ((rd_T38 l0 x6_2).f2.f0),.int .i64 ((rd_T38 l0 x6_2).f2.f1),.int .i64 ((rd_T38 l0 x6_2).f3)] 38 (0,0)) (by (with_reducible repeat (first|refine blk_drewN ?_ _|refine blk_drew ?_|refine blk_alloc ?_ _));refine blk_put (cs:=#[.int .i64 ((rd_T38 l0 x6_2).f0),.int .i64 ((rd_T38 l0 x6_2).f1),.int .i64 ((rd_T38 l0 x6_2).f2.f0),.int .i64 ((rd_T38 l0 x6_2).f2.f1),.int .i64 0]) ?_ 4 _ rfl;(with_reducible repeat (first|refine blk_drewN ?_ _|refine blk_drew ?_|refine blk_alloc ?_ _));refine blk_put (cs:=#[.int .i64 ((rd_T38 l0 x6_2).f0),.int .i64 ((rd_T38 l0 x6_2).f1),.int .i64 ((rd_T38 l0 x6_2).f2.f0),.int .i64 0,.int .i64 0]) ?_ 3 _ rfl;(with_reducible repeat (first|refine blk_drewN ?_ _|refine blk_drew ?_|refine blk_alloc ?_ _));refine blk_put (cs:=#[.int .i64 ((rd_T38 l0 x6_2).f0),.int .i64 ((rd_T38 l0 x6_2).f1),.int .i64 0,.int .i64 0,.int .i64 0]) ?_ 2 _ rfl;(with_reducible repeat (first|refine blk_drewN ?_ _|refine blk_drew ?_|refine blk_alloc ?_ _));refine blk_put (cs:=#[.int .i64 ((rd_T38 l0 x6_2).f0),.int .i64 0,.int .i64 0,.int .i64 0,.int .i64 0]) ?_ 1 _ rfl;(with_reducible repeat (first|refine blk_drewN ?_ _|refine blk_drew ?_|refine blk_alloc ?_ _));refine blk_put (cs:=#[.int .i64 0,.int .i64 0,.int .i64 0,.int .i64 0,.int .i64 0]) ?_ 0 _ rfl;(with_reducible repeat (first|refine blk_drewN ?_ _|refine blk_drew ?_|refine blk_alloc ?_ _));exact BK517.out) hb);have n2_:=am (below_step Q96 hb);clear HO_5 BK517 HB;have HO_5:=n0_;have BK517:=n1_;have HB:=n2_;clear n0_ n1_ n2_;(try clear hb);(try clear hb2);(try clear hk);(try clear hi);obtain ⟨hcz20_0,hcz20_1,hcz20_2,hcz20_3,hcz20_4,hfz20_0,hfz20_1,hfz20_2,hfz20_3,hfz20_4⟩:=bx5_ BK517)|((with_reducible refine gate_builtin (b:=.append) (xs:=#[.tmp 33,.tmp 35]) rfl ?_);at_builtin;refine Kd.R_append k38 (w0:=w) w.heap.size rfl (.tmp 33) (.tmp 35) 23 38 (.agg #[(.int .i64 0),(.int .i64 0),(.int .i64 0),(.int .i64 0),(.int .i64 0)]) 40 rfl Try.underlying23 info38 rfl Q0 (by omega) u5 x5_2 (⟨(rd_T38 l0 x6_2).f0,(rd_T38 l0 x6_2).f1,(⟨t518,t519⟩ : S36),(rd_T38 l0 x6_2).f3⟩ : S38) [.int .i64 ((rd_T38 l0 x6_2).f0),.int .i64 ((rd_T38 l0 x6_2).f1),.int .i64 t518,.int .i64 t519,.int .i64 ((rd_T38 l0 x6_2).f3)] (fun k_=>k_ ≠ gb517) (fun _=>False) rfl (by first|(go_simp;done)|(go_simp;rfl)) ?aP (fun _ hk=>hk.elim) ?aF ?aO ?aB ?aS ?aL ?_;(case aP=>exact k38_mkM _ _ _ (⟨(rd_T38 l0 x6_2).f0,(rd_T38 l0 x6_2).f1,(⟨t518,t519⟩ : S36),(rd_T38 l0 x6_2).f3⟩ : S38));(case aB=>exact Q96);(case aF=>exact (fun k_ hk=>Kd.freshB (g:=gb517) (o:=.cells #[.int .i64 ((rd_T38 l0 x6_2).f0),.int .i64 ((rd_T38 l0 x6_2).f1),.int .i64 t518,.int .i64 t519,.int .i64 ((rd_T38 l0 x6_2).f3)] 38 (0,0)) (by (with_reducible repeat (first|refine blk_drewN ?_ _|refine blk_drew ?_|refine blk_alloc ?_ _));refine blk_put (cs:=#[.int .i64 ((rd_T38 l0 x6_2).f0),.int .i64 ((rd_T38 l0 x6_2).f1),.int .i64 t518,.int .i64 ((rd_T38 l0 x6_2).f2.f1),.int .i64 ((rd_T38 l0 x6_2).f3)]) ?_ 3 _ rfl;(with_reducible repeat (first|refine blk_drewN ?_ _|refine blk_drew ?_|refine blk_alloc ?_ _));refine blk_put (cs:=#[.int .i64 ((rd_T38 l0 x6_2).f0),.int .i64 ((rd_T38 l0 x6_2).f1),.int .i64 ((rd_T38 l0 x6_2).f2.f0),.int .i64 ((rd_T38 l0 x6_2).f2.f1),.int .i64 ((rd_T38 l0 x6_2).f3)]) ?_ 2 _ rfl;(with_reducible repeat (first|refine blk_drewN ?_ _|refine blk_drew ?_|refine blk_alloc ?_ _));exact BK517.out) k_ hk));(case aO=>exact (by (with_reducible repeat (first|apply Kd.R_alloc|apply Kd.R_drewN|apply Kd.R_drew));exact Kd.R_mono (Kd.R_far (p:=⟨gb517,3,none⟩) (Kd.R_far (p:=⟨gb517,2,none⟩) (Kd.R_mono HO_5.out (fun k_ hk=>(⟨hk,hk.2⟩ : _ ∧ k_ ≠ gb517))) (fun _ hk=>hk.2) (.int .i64 t518)) (fun _ hk=>hk.2) (.int .i64 t519)) (fun _ hk=>hk.1.2)));(case aS=>exact (below_size Q96));(case aL=>have:=LMc16.out;omega);intro v521 w21 ho hb hg hat;rw [← Ny520.out] at ho;have n0_:=am (blk_grown (g:=gb517) (o:=.cells #[.int .i64 ((rd_T38 l0 x6_2).f0),.int .i64 ((rd_T38 l0 x6_2).f1),.int .i64 t518,.int .i64 t519,.int .i64 ((rd_T38 l0 x6_2).f3)] 38 (0,0)) (by (with_reducible repeat (first|refine blk_drewN ?_ _|refine blk_drew ?_|refine blk_alloc ?_ _));refine blk_put (cs:=#[.int .i64 ((rd_T38 l0 x6_2).f0),.int .i64 ((rd_T38 l0 x6_2).f1),.int .i64 t518,.int .i64 ((rd_T38 l0 x6_2).f2.f1),.int .i64 ((rd_T38 l0 x6_2).f3)]) ?_ 3 _ rfl;(with_reducible repeat (first|refine blk_drewN ?_ _|refine blk_drew ?_|refine blk_alloc ?_ _));refine blk_put (cs:=#[.int .i64 ((rd_T38 l0 x6_2).f0),.int .i64 ((rd_T38 l0 x6_2).f1),.int .i64 ((rd_T38 l0 x6_2).f2.f0),.int .i64 ((rd_T38 l0 x6_2).f2.f1),.int .i64 ((rd_T38 l0 x6_2).f3)]) ?_ 2 _ rfl;(with_reducible repeat (first|refine blk_drewN ?_ _|refine blk_drew ?_|refine blk_alloc ?_ _));exact BK517.out) hg (Kd.R_away HO_5.out (fun _ hk=>hk.2)));have n1_:=am (hb);have n2_:=am (ho);clear BK517 HB HO_5;have BK517:=n0_;have HB:=n1_;have HO522:=n2_;clear n0_ n1_ n2_;clear ho hb hg hat))
       go_roundg k2
       case measure=>have:=HJ2.out;have:=HK2.out;omega
       case rel=>exact ⟨(y520),(wrap64 (x6_2 + 1)),Q5,H',⟨by have:=HJ2.out;have:=HK2.out;omega⟩,⟨by (with_reducible repeat (first|apply Kd.R_alloc|apply Kd.R_drewN|apply Kd.R_drew));exact Kd.R_mono HO522.out (fun _ hk=>trivial)⟩,⟨Q96⟩⟩
      ·rw [if_neg c13] at H
       have c13b0 : decide (x6_2 < (l0.length : Int)) = false:=decide_eq_false c13
       clear c13
       replace H:=Option.bind_eq_some_iff.mp H
       obtain ⟨t523,A220,H⟩:=H
       replace H : ((spec_l2Fit.f k2 t523).bind fun t526=>(some t526)) = some r:=H
       have A22:=Aside0.mk A220
       clear A220
       replace H:=Option.bind_eq_some_iff.mp H
       obtain ⟨t526,A230,H⟩:=H
       replace H : (some t526) = some r:=H
       have A23:=Aside0.mk A230
       clear A230
       obtain rfl:=Option.some.inj H
       obtain ⟨Ao24,co24,eo24⟩:=Kd.R_slice HO_5.out
       subst eo24
       go_wp2_with (first|((with_reducible refine gate_callee (f:=58) rfl ?_);refine goesL_ (some 38) rfl rfl Try.func58 Q1 rfl #[.slice Ao24 x5_2.length co24] rfl Q74 ?_;(with_reducible refine (spec_l2Sum.calls k2 _ _ x5_2 t523 _ ?side1 ?side2 A22.out).mono ?_);(case side1=>exact (by repeat (first|exact (Kd.R_reads' HO_5.out).2.2|(with_reducible refine Kd.C_alloc ?_ _)|(with_reducible refine Kd.C_drewN ?_ _)|(with_reducible refine Kd.C_drew ?_))));(case side2=>exact (Kd.R_reads' HO_5.out).2.1);rintro e w25 ⟨v524,rfl,ho0,hb⟩;refine ⟨_,rfl,?_⟩;have n0_:=am (Kd.R_elder' Q19 (Kd.R_base ho0) hb);have n1_:=am (Kd.R_lower (Kd.R_new' ho0 (Kd.R_lt Q19)) (below_size Q72));have n2_:=am (below_step Q72 hb);clear HO_5 HB;have HO_5:=n0_;have HO525:=n1_;have HB:=n2_;clear n0_ n1_ n2_;(try clear hb);(try clear hb2);(try clear hk);(try clear hi);(try clear ho0);obtain ⟨Ao26,co26,eo26⟩:=Kd.R_slice HO525.out;subst eo26)|((with_reducible refine gate_callee (f:=57) rfl ?_);refine goesL_ (some 39) rfl rfl Try.func57 Q1 rfl #[.slice Ao26 t523.length co26] rfl Q74 ?_;(with_reducible refine (spec_l2Fit.calls k2 (fun k_=>some k_ = (.slice Ao26 t523.length co26 : Value).ownBlock) (.slice Ao26 t523.length co26) t523 t526 w _ ?side1 ?side2 A23.out).mono ?_);(case side1=>exact Q72);(case side2=>exact Kd.R_tight rfl HO525.out);rintro e w27 ⟨v527,rfl,ho0,hb,hkp⟩;refine ⟨_,rfl,?_⟩;have n0_:=am (Kd.R_mono (ok':=fun k_=>some k_ ≠ (v527 : Value).ownBlock) (Kd.R_keptB (HO_5.out) hkp (fun k_ hk_ hs_=>(hk_.2) hs_)) (fun k_ hk_=>fun e_=>Or.elim (ho0.1 k_ e_.symm) (fun hs_=>hk_.2.1 hs_) (fun hn_=>Nat.not_le.2 hk_.2.2 hn_)));have n1_:=am (Kd.R_mono (ok':=fun k_=>some k_ ≠ (.slice Ao24 x5_2.length co24 : Value).ownBlock) ho0 (fun k_ hk_=>Or.elim hk_ (fun hs_=>fun e_=>(((HO_5.out).1 k_ e_.symm).2) hs_) (fun hn_=>(Kd.fresh' (Kd.R_lt Q19) k_ hn_))));have n2_:=am (hb);clear HO_5 HB HO525;have HO_5:=n0_;have HO528:=n1_;have HB:=n2_;clear n0_ n1_ n2_;(try clear hb);(try clear hkp);(try clear ho0)))
       go_ret
       exact ⟨_,Q16,by (with_reducible repeat (first|apply Kd.R_alloc|apply Kd.R_drewN|apply Kd.R_drew));exact Kd.R_mono HO528.out (fun _ hk=>trivial),Q72⟩
def impl_below.f (a0_0 : Int) (a0_1 : Int) (a1_0 : Int) (a1_1 : Int) : Option (Bool) := if a0_0 ≤ a1_0 then (some (decide (a0_1 ≤ a1_1))) else (some false)
set_option maxHeartbeats 8000000 in
set_option maxRecDepth 100000 in
theorem impl_below.calls (a0_0 : Int) (a0_1 : Int) (a1_0 : Int) (a1_1 : Int) (r : Bool) (w : World) (h : impl_below.f a0_0 a0_1 a1_0 a1_1 = some r) :
  Calls Try.prog 90 #[.agg #[.int .i64 a0_0,.int .i64 a0_1],.agg #[.int .i64 a1_0,.int .i64 a1_1]] w fun e w'=>e = .returned (.bool r) ∧ Below w.heap.size w w':=by
 have hu36:=Try.underlying36
 have HB:=am (Below.refl w.heap.size w)
 have H : (if a0_0 ≤ a1_0 then (some (decide (a0_1 ≤ a1_1))) else (some false)) = some r:=h
 clear h
 by_cases c3 : a0_0 ≤ a1_0
 ·rw [if_pos c3] at H
  have c3b0 : decide (a0_0 ≤ a1_0) = true:=decide_eq_true c3
  clear c3
  obtain rfl:=Option.some.inj H
  go_enter Try.func90,Try.ntmps90
  go_wp2_with (first|((with_reducible refine gate_dst (N:=2) rfl ?_);refine box_event ?hg (N:=2) ?hd (cs:=#[.int .i64 a0_0,.int .i64 a0_1]) (t:=36) ?hr ?_;(case hd=>rfl);(case hg=>rfl);(case hr=>first|(go_simp;done)|(go_simp;rfl));intro gb529 hg w4 hbox hb;have n0_:=am (below_step Q72 hb);have n1_:=am (hbox);have n2_:=am ((Q158 : w.heap.size ≤ gb529));have n3_:=n2_;clear HB;have HB:=n0_;have BK529:=n1_;have GW529:=n2_;have GE529:=n3_;clear n0_ n1_ n2_ n3_;clear hb hbox hg)|((with_reducible refine gate_dst (N:=3) rfl ?_);refine box_event ?hg (N:=3) ?hd (cs:=#[.int .i64 a1_0,.int .i64 a1_1]) (t:=36) ?hr ?_;(case hd=>rfl);(case hg=>rfl);(case hr=>first|(go_simp;done)|(go_simp;rfl));intro gb530 hg w5 hbox hb;have n0_:=am (blk_below (g:=gb529) (o:=.cells #[.int .i64 a0_0,.int .i64 a0_1] 36 (0,0)) Q68 hb);have n1_:=am (below_step Q97 hb);have n2_:=am (hbox);have n3_:=am ((by rw [hg];exact (below_size Q97) : w.heap.size ≤ gb530));have n4_:=n3_;have n5_:=am ((by rw [hg];exact Nat.ne_of_lt (blk_lt (g:=gb529) (o:=.cells #[.int .i64 a0_0,.int .i64 a0_1] 36 (0,0)) Q68) : gb529 ≠ gb530));have n6_:=am ((by rw [hg];exact Nat.ne_of_gt (blk_lt (g:=gb529) (o:=.cells #[.int .i64 a0_0,.int .i64 a0_1] 36 (0,0)) Q68) : gb530 ≠ gb529));clear BK529 HB;have BK529:=n0_;have HB:=n1_;have BK530:=n2_;have GW530:=n3_;have GE530:=n4_;have NB529_530:=n5_;have NB530_529:=n6_;clear n0_ n1_ n2_ n3_ n4_ n5_ n6_;clear hb hbox hg;have hnb6:=NB529_530.out;have hnc6:=NB530_529.out;obtain ⟨hcz7_0,hcz7_1,hfz7_0,hfz7_1⟩:=bx2_ BK529;obtain ⟨hcz8_0,hcz8_1,hfz8_0,hfz8_1⟩:=bx2_ BK530))
  go_ret
  exact ⟨Q16,by repeat (first|(with_reducible first|exact HB.out|apply below_alloc|apply pw_below_drewN|apply below_drew1|refine below_set ?_ GE529.out|refine below_set ?_ GE530.out)|exact HB.out)⟩
 ·rw [if_neg c3] at H
  have c3b0 : decide (a0_0 ≤ a1_0) = false:=decide_eq_false c3
  clear c3
  obtain rfl:=Option.some.inj H
  go_enter Try.func90,Try.ntmps90
  go_wp2_with (first|((with_reducible refine gate_dst (N:=2) rfl ?_);refine box_event ?hg (N:=2) ?hd (cs:=#[.int .i64 a0_0,.int .i64 a0_1]) (t:=36) ?hr ?_;(case hd=>rfl);(case hg=>rfl);(case hr=>first|(go_simp;done)|(go_simp;rfl));intro gb529 hg w9 hbox hb;have n0_:=am (below_step Q72 hb);have n1_:=am (hbox);have n2_:=am ((Q158 : w.heap.size ≤ gb529));have n3_:=n2_;clear HB;have HB:=n0_;have BK529:=n1_;have GW529:=n2_;have GE529:=n3_;clear n0_ n1_ n2_ n3_;clear hb hbox hg)|((with_reducible refine gate_dst (N:=3) rfl ?_);refine box_event ?hg (N:=3) ?hd (cs:=#[.int .i64 a1_0,.int .i64 a1_1]) (t:=36) ?hr ?_;(case hd=>rfl);(case hg=>rfl);(case hr=>first|(go_simp;done)|(go_simp;rfl));intro gb530 hg w10 hbox hb;have n0_:=am (blk_below (g:=gb529) (o:=.cells #[.int .i64 a0_0,.int .i64 a0_1] 36 (0,0)) Q68 hb);have n1_:=am (below_step Q97 hb);have n2_:=am (hbox);have n3_:=am ((by rw [hg];exact (below_size Q97) : w.heap.size ≤ gb530));have n4_:=n3_;have n5_:=am ((by rw [hg];exact Nat.ne_of_lt (blk_lt (g:=gb529) (o:=.cells #[.int .i64 a0_0,.int .i64 a0_1] 36 (0,0)) Q68) : gb529 ≠ gb530));have n6_:=am ((by rw [hg];exact Nat.ne_of_gt (blk_lt (g:=gb529) (o:=.cells #[.int .i64 a0_0,.int .i64 a0_1] 36 (0,0)) Q68) : gb530 ≠ gb529));clear BK529 HB;have BK529:=n0_;have HB:=n1_;have BK530:=n2_;have GW530:=n3_;have GE530:=n4_;have NB529_530:=n5_;have NB530_529:=n6_;clear n0_ n1_ n2_ n3_ n4_ n5_ n6_;clear hb hbox hg;have hnb11:=NB529_530.out;have hnc11:=NB530_529.out;obtain ⟨hcz12_0,hcz12_1,hfz12_0,hfz12_1⟩:=bx2_ BK529;obtain ⟨hcz13_0,hcz13_1,hfz13_0,hfz13_1⟩:=bx2_ BK530))
  go_ret
  exact ⟨Q16,by repeat (first|(with_reducible first|exact HB.out|apply below_alloc|apply pw_below_drewN|apply below_drew1|refine below_set ?_ GE529.out|refine below_set ?_ GE530.out)|exact HB.out)⟩
def impl_beyond.l0 : Nat → List (S36) → Int → Int → Int → Int → Option (Bool)
 | 0, _, _, _, _, _ => none
 | k + 1, x7, x8, x9, x532000, x532001 => if x9 < x8 then (if 0 ≤ x9 then (if x9 < (x7.length : Int) then ((impl_below.f ((rd_T36 x7 x9).f0) ((rd_T36 x7 x9).f1) x532000 x532001).bind fun t534 => (if t534 = true then (some true) else (impl_beyond.l0 k x7 x8 (wrap64 (x9 + 1)) x532000 x532001))) else (none)) else (none)) else (some false)
def impl_beyond.f (k : Nat) (l0 : List (S36)) (a1_0 : Int) (a1_1 : Int) : Option (Bool) := impl_beyond.l0 k l0 (l0.length : Int) 0 a1_0 a1_1
set_option maxHeartbeats 8000000 in
set_option maxRecDepth 100000 in
theorem impl_beyond.calls (k : Nat) (A0 : Option Addr) (c0 : Nat) (l0 : List (S36)) (a1_0 : Int) (a1_1 : Int) (r : Bool) (w : World) (hr0 : Kd.C k36 w A0 l0.length l0) (hc0 : l0.length ≤ c0) (h : impl_beyond.f k l0 a1_0 a1_1 = some r) :
  Calls Try.prog 63 #[.slice A0 l0.length c0,.agg #[.int .i64 a1_0,.int .i64 a1_1]] w fun e w'=>e = .returned (.bool r) ∧ Below w.heap.size w w':=by
 have hu36:=Try.underlying36
 have HR0:=Aside0.mk hr0
 have HC0:=Aside0.mk hc0
 clear hr0 hc0
 have HB:=am (Below.refl w.heap.size w)
 have H : (impl_beyond.l0 k l0 (l0.length : Int) 0 a1_0 a1_1) = some r:=h
 clear h
 have H':=Aside0.mk H
 clear H
 go_enter Try.func63,Try.ntmps63
 go_wp2_with (first|((with_reducible refine gate_dst (N:=3) rfl ?_);refine box_event ?hg (N:=3) ?hd (cs:=#[.int .i64 a1_0,.int .i64 a1_1]) (t:=36) ?hr ?_;(case hd=>rfl);(case hg=>rfl);(case hr=>first|(go_simp;done)|(go_simp;rfl));intro gb531 hg w3 hbox hb;have n0_:=am (below_step Q72 hb);have n1_:=am (hbox);have n2_:=am ((Q158 : w.heap.size ≤ gb531));have n3_:=n2_;clear HB;have HB:=n0_;have BK531:=n1_;have GW531:=n2_;have GE531:=n3_;clear n0_ n1_ n2_ n3_;clear hb hbox hg))
 go_loopg [9] k (fun kq v9 w'=>∃ (x9_1 : Int),v9 = .int .i64 x9_1 ∧ Aside0 (impl_beyond.l0 kq l0 (l0.length : Int) x9_1 a1_0 a1_1 = some r) ∧ Aside0 (kq ≤ k) ∧ Aside0 (w'.heap[gb531]? = some (.cells #[.int .i64 a1_0,.int .i64 a1_1] 36 (0,0))) ∧ Aside0 (Below w.heap.size w w'))
 case atStart=>exact ⟨(0),Q5,H',⟨Nat.le_refl _⟩,⟨Q69⟩,⟨Q98⟩⟩
 case round =>
  clear H'
  try clear p2
  obtain ⟨x9_1,rfl,HA,HK1,BK531,HB⟩:=hrel
  cases gk with
  | zero=>exact absurd HA.out (by simp [impl_beyond.l0])
  | succ k1 =>
   have H:=HA.out
   clear HA
   simp only [impl_beyond.l0] at H
   by_cases c4 : x9_1 < (l0.length : Int)
   ·rw [if_pos c4] at H
    have c4b0 : decide (x9_1 < (l0.length : Int)) = true:=decide_eq_true c4
    clear c4
    have c5 : 0 ≤ x9_1:=nn_ H
    rw [if_pos c5] at H
    have c5b0 : decide (0 ≤ x9_1) = true:=decide_eq_true c5
    clear c5
    have c6 : x9_1 < (l0.length : Int):=nn_ H
    rw [if_pos c6] at H
    have c6b0 : decide (x9_1 < (l0.length : Int)) = true:=decide_eq_true c6
    clear c6
    replace H:=Option.bind_eq_some_iff.mp H
    obtain ⟨t534,A70,H⟩:=H
    replace H : (if t534 = true then (some true) else (impl_beyond.l0 k1 l0 (l0.length : Int) (wrap64 (x9_1 + 1)) a1_0 a1_1)) = some r:=H
    have A7:=Aside0.mk A70
    clear A70
    by_cases c8 : t534 = true
    ·subst c8
     have H1 : (some true) = some r:=by rw [if_pos rfl] at H;exact H
     clear H
     have H:=H1
     clear H1
     obtain rfl:=Option.some.inj H
     have p532 : 0 ≤ (x9_1 : Int):=of_decide_eq_true Q6
     have q532 : x9_1 < (l0.length : Int):=of_decide_eq_true Q6
     obtain ⟨ad532,e532,hx532_0,hx532_1⟩:=at_T36 HR0.out x9_1 p532 q532
     cases e532
     replace hx532_0:=cb_ HB hx532_0
     replace hx532_1:=cb_ HB hx532_1
     replace p532:=eq_true p532
     replace q532:=eq_true q532
     go_wp2_with (first|((with_reducible refine gate_dst (N:=6) rfl ?_);refine box_event ?hg (N:=6) ?hd (cs:=#[.int .i64 0,.int .i64 0]) (t:=36) ?hr ?_;(case hd=>rfl);(case hg=>rfl);(case hr=>first|(go_simp;done)|(go_simp;rfl));intro gb533 hg w9 hbox hb;have n0_:=am (blk_below (g:=gb531) (o:=.cells #[.int .i64 a1_0,.int .i64 a1_1] 36 (0,0)) Q69 hb);have n1_:=am (below_step Q98 hb);have n2_:=am (hbox);have n3_:=am ((by rw [hg];exact (below_size Q98) : w.heap.size ≤ gb533));have n4_:=n3_;have n5_:=am ((by rw [hg];exact Nat.ne_of_lt (blk_lt (g:=gb531) (o:=.cells #[.int .i64 a1_0,.int .i64 a1_1] 36 (0,0)) Q69) : gb531 ≠ gb533));have n6_:=am ((by rw [hg];exact Nat.ne_of_gt (blk_lt (g:=gb531) (o:=.cells #[.int .i64 a1_0,.int .i64 a1_1] 36 (0,0)) Q69) : gb533 ≠ gb531));clear BK531 HB;have BK531:=n0_;have HB:=n1_;have BK533:=n2_;have GW533:=n3_;have GE533:=n4_;have NB531_533:=n5_;have NB533_531:=n6_;clear n0_ n1_ n2_ n3_ n4_ n5_ n6_;clear hb hbox hg;have hnb10:=NB533_531.out;have hnc10:=NB531_533.out;obtain ⟨hcz11_0,hcz11_1,hfz11_0,hfz11_1⟩:=bx2_ BK533;obtain ⟨hcz12_0,hcz12_1,hfz12_0,hfz12_1⟩:=bx2_ BK531)|((with_reducible refine gate_callee (f:=90) rfl ?_);refine goesL_ (some 15) rfl rfl Try.func90 Q1 rfl #[.agg #[.int .i64 ((rd_T36 l0 x9_1).f0),.int .i64 ((rd_T36 l0 x9_1).f1)],.agg #[.int .i64 a1_0,.int .i64 a1_1]] rfl Q74 ?_;(with_reducible refine (impl_below.calls ((rd_T36 l0 x9_1).f0) ((rd_T36 l0 x9_1).f1) a1_0 a1_1 true _ A7.out).mono ?_);rintro e w13 ⟨rfl,hb⟩;refine ⟨_,rfl,?_⟩;have n0_:=am (blk_below (g:=gb531) (o:=.cells #[.int .i64 a1_0,.int .i64 a1_1] 36 (0,0)) (by (with_reducible repeat (first|refine blk_drewN ?_ _|refine blk_drew ?_|refine blk_alloc ?_ _));refine blk_far ?_ NB531_533.out _;(with_reducible repeat (first|refine blk_drewN ?_ _|refine blk_drew ?_|refine blk_alloc ?_ _));refine blk_far ?_ NB531_533.out _;(with_reducible repeat (first|refine blk_drewN ?_ _|refine blk_drew ?_|refine blk_alloc ?_ _));exact BK531.out) hb);have n1_:=am (blk_below (g:=gb533) (o:=.cells #[.int .i64 ((rd_T36 l0 x9_1).f0),.int .i64 ((rd_T36 l0 x9_1).f1)] 36 (0,0)) (by (with_reducible repeat (first|refine blk_drewN ?_ _|refine blk_drew ?_|refine blk_alloc ?_ _));refine blk_put (cs:=#[.int .i64 ((rd_T36 l0 x9_1).f0),.int .i64 0]) ?_ 1 _ rfl;(with_reducible repeat (first|refine blk_drewN ?_ _|refine blk_drew ?_|refine blk_alloc ?_ _));refine blk_put (cs:=#[.int .i64 0,.int .i64 0]) ?_ 0 _ rfl;(with_reducible repeat (first|refine blk_drewN ?_ _|refine blk_drew ?_|refine blk_alloc ?_ _));exact BK533.out) hb);have n2_:=am (below_step Q128 hb);clear BK531 BK533 HB;have BK531:=n0_;have BK533:=n1_;have HB:=n2_;clear n0_ n1_ n2_;(try clear hb);(try clear hb2);(try clear hk);(try clear hi)))
     go_ret
     exact ⟨Q16,Q128⟩
    ·replace c8:=Bool.eq_false_iff.mpr c8
     subst c8
     have H1 : (impl_beyond.l0 k1 l0 (l0.length : Int) (wrap64 (x9_1 + 1)) a1_0 a1_1) = some r:=by rw [if_neg (show ¬ (false = true) by decide)] at H;exact H
     clear H
     have H:=H1
     clear H1
     have H':=Aside0.mk H
     clear H
     have p532 : 0 ≤ (x9_1 : Int):=of_decide_eq_true Q6
     have q532 : x9_1 < (l0.length : Int):=of_decide_eq_true Q6
     obtain ⟨ad532,e532,hx532_0,hx532_1⟩:=at_T36 HR0.out x9_1 p532 q532
     cases e532
     replace hx532_0:=cb_ HB hx532_0
     replace hx532_1:=cb_ HB hx532_1
     replace p532:=eq_true p532
     replace q532:=eq_true q532
     go_wp2_with (first|((with_reducible refine gate_dst (N:=6) rfl ?_);refine box_event ?hg (N:=6) ?hd (cs:=#[.int .i64 0,.int .i64 0]) (t:=36) ?hr ?_;(case hd=>rfl);(case hg=>rfl);(case hr=>first|(go_simp;done)|(go_simp;rfl));intro gb533 hg w14 hbox hb;have n0_:=am (blk_below (g:=gb531) (o:=.cells #[.int .i64 a1_0,.int .i64 a1_1] 36 (0,0)) Q69 hb);have n1_:=am (below_step Q98 hb);have n2_:=am (hbox);have n3_:=am ((by rw [hg];exact (below_size Q98) : w.heap.size ≤ gb533));have n4_:=n3_;have n5_:=am ((by rw [hg];exact Nat.ne_of_lt (blk_lt (g:=gb531) (o:=.cells #[.int .i64 a1_0,.int .i64 a1_1] 36 (0,0)) Q69) : gb531 ≠ gb533));have n6_:=am ((by rw [hg];exact Nat.ne_of_gt (blk_lt (g:=gb531) (o:=.cells #[.int .i64 a1_0,.int .i64 a1_1] 36 (0,0)) Q69) : gb533 ≠ gb531));clear BK531 HB;have BK531:=n0_;have HB:=n1_;have BK533:=n2_;have GW533:=n3_;have GE533:=n4_;have NB531_533:=n5_;have NB533_531:=n6_;clear n0_ n1_ n2_ n3_ n4_ n5_ n6_;clear hb hbox hg;have hnb15:=NB533_531.out;have hnc15:=NB531_533.out;obtain ⟨hcz16_0,hcz16_1,hfz16_0,hfz16_1⟩:=bx2_ BK533;obtain ⟨hcz17_0,hcz17_1,hfz17_0,hfz17_1⟩:=bx2_ BK531)|((with_reducible refine gate_callee (f:=90) rfl ?_);refine goesL_ (some 15) rfl rfl Try.func90 Q1 rfl #[.agg #[.int .i64 ((rd_T36 l0 x9_1).f0),.int .i64 ((rd_T36 l0 x9_1).f1)],.agg #[.int .i64 a1_0,.int .i64 a1_1]] rfl Q74 ?_;(with_reducible refine (impl_below.calls ((rd_T36 l0 x9_1).f0) ((rd_T36 l0 x9_1).f1) a1_0 a1_1 false _ A7.out).mono ?_);rintro e w18 ⟨rfl,hb⟩;refine ⟨_,rfl,?_⟩;have n0_:=am (blk_below (g:=gb531) (o:=.cells #[.int .i64 a1_0,.int .i64 a1_1] 36 (0,0)) (by (with_reducible repeat (first|refine blk_drewN ?_ _|refine blk_drew ?_|refine blk_alloc ?_ _));refine blk_far ?_ NB531_533.out _;(with_reducible repeat (first|refine blk_drewN ?_ _|refine blk_drew ?_|refine blk_alloc ?_ _));refine blk_far ?_ NB531_533.out _;(with_reducible repeat (first|refine blk_drewN ?_ _|refine blk_drew ?_|refine blk_alloc ?_ _));exact BK531.out) hb);have n1_:=am (blk_below (g:=gb533) (o:=.cells #[.int .i64 ((rd_T36 l0 x9_1).f0),.int .i64 ((rd_T36 l0 x9_1).f1)] 36 (0,0)) (by (with_reducible repeat (first|refine blk_drewN ?_ _|refine blk_drew ?_|refine blk_alloc ?_ _));refine blk_put (cs:=#[.int .i64 ((rd_T36 l0 x9_1).f0),.int .i64 0]) ?_ 1 _ rfl;(with_reducible repeat (first|refine blk_drewN ?_ _|refine blk_drew ?_|refine blk_alloc ?_ _));refine blk_put (cs:=#[.int .i64 0,.int .i64 0]) ?_ 0 _ rfl;(with_reducible repeat (first|refine blk_drewN ?_ _|refine blk_drew ?_|refine blk_alloc ?_ _));exact BK533.out) hb);have n2_:=am (below_step Q128 hb);clear BK531 BK533 HB;have BK531:=n0_;have BK533:=n1_;have HB:=n2_;clear n0_ n1_ n2_;(try clear hb);(try clear hb2);(try clear hk);(try clear hi)))
     go_roundg k1
     case measure=>have:=HK1.out;omega
     case rel=>exact ⟨(wrap64 (x9_1 + 1)),Q5,H',⟨Q2⟩,⟨Q69⟩,⟨Q128⟩⟩
   ·rw [if_neg c4] at H
    have c4b0 : decide (x9_1 < (l0.length : Int)) = false:=decide_eq_false c4
    clear c4
    obtain rfl:=Option.some.inj H
    go_wp2
    go_ret
    exact ⟨Q16,Q98⟩
def impl_FrontCovers.f (k : Nat) (l0 : List (S36)) (a1_0 : Int) (a1_1 : Int) : Option (Bool) := (impl_FrontOk.f k l0).bind fun t536 => (if t536 = true then ((impl_TimeOk.f a1_0 a1_1).bind fun t537 => (if t537 = true then ((impl_beyond.f k l0 a1_0 a1_1).bind fun t538 => (some t538)) else (some false))) else (some false))
set_option maxHeartbeats 8000000 in
set_option maxRecDepth 100000 in
theorem impl_FrontCovers.calls (k : Nat) (A0 : Option Addr) (c0 : Nat) (l0 : List (S36)) (a1_0 : Int) (a1_1 : Int) (r : Bool) (w : World) (hr0 : Kd.C k36 w A0 l0.length l0) (hc0 : l0.length ≤ c0) (h : impl_FrontCovers.f k l0 a1_0 a1_1 = some r) :
  Calls Try.prog 23 #[.slice A0 l0.length c0,.agg #[.int .i64 a1_0,.int .i64 a1_1]] w fun e w'=>e = .returned (.bool r) ∧ Below w.heap.size w w':=by
 have hu36:=Try.underlying36
 have HR0:=Aside0.mk hr0
 have HC0:=Aside0.mk hc0
 clear hr0 hc0
 have HB:=am (Below.refl w.heap.size w)
 have H : ((impl_FrontOk.f k l0).bind fun t536=>(if t536 = true then ((impl_TimeOk.f a1_0 a1_1).bind fun t537=>(if t537 = true then ((impl_beyond.f k l0 a1_0 a1_1).bind fun t538=>(some t538)) else (some false))) else (some false))) = some r:=h
 clear h
 replace H:=Option.bind_eq_some_iff.mp H
 obtain ⟨t536,A30,H⟩:=H
 replace H : (if t536 = true then ((impl_TimeOk.f a1_0 a1_1).bind fun t537=>(if t537 = true then ((impl_beyond.f k l0 a1_0 a1_1).bind fun t538=>(some t538)) else (some false))) else (some false)) = some r:=H
 have A3:=Aside0.mk A30
 clear A30
 by_cases c4 : t536 = true
 ·subst c4
  have H1 : ((impl_TimeOk.f a1_0 a1_1).bind fun t537=>(if t537 = true then ((impl_beyond.f k l0 a1_0 a1_1).bind fun t538=>(some t538)) else (some false))) = some r:=by rw [if_pos rfl] at H;exact H
  clear H
  have H:=H1
  clear H1
  replace H:=Option.bind_eq_some_iff.mp H
  obtain ⟨t537,A50,H⟩:=H
  replace H : (if t537 = true then ((impl_beyond.f k l0 a1_0 a1_1).bind fun t538=>(some t538)) else (some false)) = some r:=H
  have A5:=Aside0.mk A50
  clear A50
  by_cases c6 : t537 = true
  ·subst c6
   have H1 : ((impl_beyond.f k l0 a1_0 a1_1).bind fun t538=>(some t538)) = some r:=by rw [if_pos rfl] at H;exact H
   clear H
   have H:=H1
   clear H1
   replace H:=Option.bind_eq_some_iff.mp H
   obtain ⟨t538,A70,H⟩:=H
   replace H : (some t538) = some r:=H
   have A7:=Aside0.mk A70
   clear A70
   obtain rfl:=Option.some.inj H
   go_enter Try.func23,Try.ntmps23
   go_wp2_with (first|((with_reducible refine gate_dst (N:=3) rfl ?_);refine box_event ?hg (N:=3) ?hd (cs:=#[.int .i64 a1_0,.int .i64 a1_1]) (t:=36) ?hr ?_;(case hd=>rfl);(case hg=>rfl);(case hr=>first|(go_simp;done)|(go_simp;rfl));intro gb535 hg w8 hbox hb;have n0_:=am (below_step Q72 hb);have n1_:=am (hbox);have n2_:=am ((Q158 : w.heap.size ≤ gb535));have n3_:=n2_;clear HB;have HB:=n0_;have BK535:=n1_;have GW535:=n2_;have GE535:=n3_;clear n0_ n1_ n2_ n3_;clear hb hbox hg)|((with_reducible refine gate_callee (f:=53) rfl ?_);refine goesL_ (some 6) rfl rfl Try.func53 Q1 rfl #[.slice A0 l0.length c0] rfl Q74 ?_;(with_reducible refine (impl_FrontOk.calls k _ _ l0 true _ ?side1 ?side2 A3.out).mono ?_);(case side1=>exact Q101);(case side2=>exact HC0.out);rintro e w9 ⟨rfl,hb⟩;refine ⟨_,rfl,?_⟩;have n0_:=am (blk_below (g:=gb535) (o:=.cells #[.int .i64 a1_0,.int .i64 a1_1] 36 (0,0)) Q70 hb);have n1_:=am (below_step Q99 hb);clear BK535 HB;have BK535:=n0_;have HB:=n1_;clear n0_ n1_;(try clear hb);(try clear hb2);(try clear hk);(try clear hi);obtain ⟨hcz10_0,hcz10_1,hfz10_0,hfz10_1⟩:=bx2_ BK535)|(go_at_call 62;(with_reducible refine (impl_TimeOk.calls a1_0 a1_1 true _ A5.out).mono ?_);rintro e w11 ⟨rfl,hb⟩;have n0_:=am (blk_below (g:=gb535) (o:=.cells #[.int .i64 a1_0,.int .i64 a1_1] 36 (0,0)) Q70 hb);have n1_:=am (below_step Q99 hb);clear BK535 HB;have BK535:=n0_;have HB:=n1_;clear n0_ n1_;(try clear hb);(try clear hb2);(try clear hk);(try clear hi);obtain ⟨hcz12_0,hcz12_1,hfz12_0,hfz12_1⟩:=bx2_ BK535)|(go_at_call 63;(with_reducible refine (impl_beyond.calls k _ _ l0 a1_0 a1_1 t538 _ ?side1 ?side2 A7.out).mono ?_);(case side1=>exact Q101);(case side2=>exact HC0.out);rintro e w13 ⟨rfl,hb⟩;have n0_:=am (blk_below (g:=gb535) (o:=.cells #[.int .i64 a1_0,.int .i64 a1_1] 36 (0,0)) Q70 hb);have n1_:=am (below_step Q99 hb);clear BK535 HB;have BK535:=n0_;have HB:=n1_;clear n0_ n1_;(try clear hb);(try clear hb2);(try clear hk);(try clear hi)))
   go_ret
   exact ⟨Q16,Q99⟩
  ·replace c6:=Bool.eq_false_iff.mpr c6
   subst c6
   have H1 : (some false) = some r:=by rw [if_neg (show ¬ (false = true) by decide)] at H;exact H
   clear H
   have H:=H1
   clear H1
   obtain rfl:=Option.some.inj H
   go_enter Try.func23,Try.ntmps23
   go_wp2_with (first|((with_reducible refine gate_dst (N:=3) rfl ?_);refine box_event ?hg (N:=3) ?hd (cs:=#[.int .i64 a1_0,.int .i64 a1_1]) (t:=36) ?hr ?_;(case hd=>rfl);(case hg=>rfl);(case hr=>first|(go_simp;done)|(go_simp;rfl));intro gb535 hg w14 hbox hb;have n0_:=am (below_step Q72 hb);have n1_:=am (hbox);have n2_:=am ((Q158 : w.heap.size ≤ gb535));have n3_:=n2_;clear HB;have HB:=n0_;have BK535:=n1_;have GW535:=n2_;have GE535:=n3_;clear n0_ n1_ n2_ n3_;clear hb hbox hg)|((with_reducible refine gate_callee (f:=53) rfl ?_);refine goesL_ (some 6) rfl rfl Try.func53 Q1 rfl #[.slice A0 l0.length c0] rfl Q74 ?_;(with_reducible refine (impl_FrontOk.calls k _ _ l0 true _ ?side1 ?side2 A3.out).mono ?_);(case side1=>exact Q101);(case side2=>exact HC0.out);rintro e w15 ⟨rfl,hb⟩;refine ⟨_,rfl,?_⟩;have n0_:=am (blk_below (g:=gb535) (o:=.cells #[.int .i64 a1_0,.int .i64 a1_1] 36 (0,0)) Q70 hb);have n1_:=am (below_step Q99 hb);clear BK535 HB;have BK535:=n0_;have HB:=n1_;clear n0_ n1_;(try clear hb);(try clear hb2);(try clear hk);(try clear hi);obtain ⟨hcz16_0,hcz16_1,hfz16_0,hfz16_1⟩:=bx2_ BK535)|(go_at_call 62;(with_reducible refine (impl_TimeOk.calls a1_0 a1_1 false _ A5.out).mono ?_);rintro e w17 ⟨rfl,hb⟩;have n0_:=am (blk_below (g:=gb535) (o:=.cells #[.int .i64 a1_0,.int .i64 a1_1] 36 (0,0)) Q70 hb);have n1_:=am (below_step Q99 hb);clear BK535 HB;have BK535:=n0_;have HB:=n1_;clear n0_ n1_;(try clear hb);(try clear hb2);(try clear hk);(try clear hi)))
   go_ret
   exact ⟨Q16,Q99⟩
 ·replace c4:=Bool.eq_false_iff.mpr c4
  subst c4
  have H1 : (some false) = some r:=by rw [if_neg (show ¬ (false = true) by decide)] at H;exact H
  clear H
  have H:=H1
  clear H1
  obtain rfl:=Option.some.inj H
  go_enter Try.func23,Try.ntmps23
  go_wp2_with (first|((with_reducible refine gate_dst (N:=3) rfl ?_);refine box_event ?hg (N:=3) ?hd (cs:=#[.int .i64 a1_0,.int .i64 a1_1]) (t:=36) ?hr ?_;(case hd=>rfl);(case hg=>rfl);(case hr=>first|(go_simp;done)|(go_simp;rfl));intro gb535 hg w18 hbox hb;have n0_:=am (below_step Q72 hb);have n1_:=am (hbox);have n2_:=am ((Q158 : w.heap.size ≤ gb535));have n3_:=n2_;clear HB;have HB:=n0_;have BK535:=n1_;have GW535:=n2_;have GE535:=n3_;clear n0_ n1_ n2_ n3_;clear hb hbox hg)|((with_reducible refine gate_callee (f:=53) rfl ?_);refine goesL_ (some 6) rfl rfl Try.func53 Q1 rfl #[.slice A0 l0.length c0] rfl Q74 ?_;(with_reducible refine (impl_FrontOk.calls k _ _ l0 false _ ?side1 ?side2 A3.out).mono ?_);(case side1=>exact Q101);(case side2=>exact HC0.out);rintro e w19 ⟨rfl,hb⟩;refine ⟨_,rfl,?_⟩;have n0_:=am (blk_below (g:=gb535) (o:=.cells #[.int .i64 a1_0,.int .i64 a1_1] 36 (0,0)) Q70 hb);have n1_:=am (below_step Q99 hb);clear BK535 HB;have BK535:=n0_;have HB:=n1_;clear n0_ n1_;(try clear hb);(try clear hb2);(try clear hk);(try clear hi)))
  go_ret
  exact ⟨Q16,Q99⟩
mutual
def laws_FnBatchMoveTwice.j0 : Nat → List (S38) → List (S36) → List (S38) → Bool → Option (Bool)
 | 0, _, _, _, _ => none
 | k + 1, x3, x4, x5, x31 => if x31 = true then (some false) else (laws_FnBatchMoveTwice.l0 k x3 x4 x5 0)
def laws_FnBatchMoveTwice.l0 : Nat → List (S38) → List (S36) → List (S38) → Int → Option (Bool)
 | 0, _, _, _, _ => none
 | k + 1, x3, x4, x5, x6 => if x6 < (x5.length : Int) then (laws_FnBatchMoveTwice.j2 k x3 x4 x5 x6 ((x4.length : Int) == 1)) else (laws_FnBatchMoveTwice.j2 k x3 x4 x5 x6 false)
def laws_FnBatchMoveTwice.j2 : Nat → List (S38) → List (S36) → List (S38) → Int → Bool → Option (Bool)
 | 0, _, _, _, _, _ => none
 | k + 1, x3, x4, x5, x6, x40 => if x40 = true then (if 0 ≤ x6 then (if x6 < (x5.length : Int) then ((impl_FrontCovers.f k x4 ((rd_T38 x5 x6).f2.f0) ((rd_T38 x5 x6).f2.f1)).bind fun t557 => (if t557 = true then (laws_FnBatchMoveTwice.l0 k x3 x4 x5 (wrap64 (x6 + 1))) else (some false))) else (none)) else (none)) else (some (decide ((x5.length : Int) ≤ (x3.length : Int))))
end
noncomputable def laws_FnBatchMoveTwice.f (k : Nat) (l0 : List Int) : Option (Bool) := if (l0.length : Int) > 1048576 then (some true) else ((spec_DrawBatchMove.f k l0).bind fun bt539 => ((impl_BatchMove.f k bt539.1 bt539.2).bind fun t545 => ((spec_BatchMove.f k bt539.1 bt539.2).bind fun t548 => ((laws_lwRows.f k t545 t548).bind fun t551 => (if t551 = true then ((impl_BatchMove.f k t545 bt539.2).bind fun t552 => ((laws_lwRows.f k t552 t545).bind fun t555 => (laws_FnBatchMoveTwice.j0 k bt539.1 bt539.2 t545 (!t555)))) else (laws_FnBatchMoveTwice.j0 k bt539.1 bt539.2 t545 true))))))
set_option maxHeartbeats 8000000 in
set_option maxRecDepth 100000 in
theorem laws_FnBatchMoveTwice.calls (k : Nat) (A0 : Option Addr) (c0 : Nat) (l0 : List Int) (r : Bool) (w : World) (hr0 : Kd.C (Kd.int .u8) w A0 l0.length l0) (hc0 : l0.length ≤ c0) (h : laws_FnBatchMoveTwice.f k l0 = some r) (hr_ : r = true) :
  Calls Try.prog 4 #[.slice A0 l0.length c0] w fun e w'=>e = .returned (.bool r) ∧ Below w.heap.size w w':=by
 have hu36:=Try.underlying36
 have HR0:=Aside0.mk hr0
 have HC0:=Aside0.mk hc0
 clear hr0 hc0
 have HB:=am (Below.refl w.heap.size w)
 have hq_:=Aside0.mk hr_
 clear hr_
 have H : (if (l0.length : Int) > 1048576 then (some true) else ((spec_DrawBatchMove.f k l0).bind fun bt539=>((impl_BatchMove.f k bt539.1 bt539.2).bind fun t545=>((spec_BatchMove.f k bt539.1 bt539.2).bind fun t548=>((laws_lwRows.f k t545 t548).bind fun t551=>(if t551 = true then ((impl_BatchMove.f k t545 bt539.2).bind fun t552=>((laws_lwRows.f k t552 t545).bind fun t555=>(laws_FnBatchMoveTwice.j0 k bt539.1 bt539.2 t545 (!t555)))) else (laws_FnBatchMoveTwice.j0 k bt539.1 bt539.2 t545 true))))))) = some r:=h
 clear h
 by_cases c2 : (l0.length : Int) > 1048576
 ·rw [if_pos c2] at H
  have c2b0 : decide (1048576 < (l0.length : Int)) = true:=decide_eq_true c2
  have c2b1 : decide (1048576 < l0.length) = true:=decide_eq_true (by omega)
  clear c2
  obtain rfl:=Option.some.inj H
  go_enter Try.func4,Try.ntmps4
  go_wp2
  go_ret
  exact ⟨by first|rfl|(rw [hq_.out];done)|(simp [errW_none,errW_some] <;> rfl)|(simp [*,errW_none,errW_some] <;> rfl),Q72⟩
 ·rw [if_neg c2] at H
  have c2b0 : decide (1048576 < (l0.length : Int)) = false:=decide_eq_false c2
  have c2b1 : decide (1048576 < l0.length) = false:=decide_eq_false (by omega)
  clear c2
  replace H:=Option.bind_eq_some_iff.mp H
  obtain ⟨⟨t539,t540⟩,A30,H⟩:=H
  replace H : ((impl_BatchMove.f k t539 t540).bind fun t545=>((spec_BatchMove.f k t539 t540).bind fun t548=>((laws_lwRows.f k t545 t548).bind fun t551=>(if t551 = true then ((impl_BatchMove.f k t545 t540).bind fun t552=>((laws_lwRows.f k t552 t545).bind fun t555=>(laws_FnBatchMoveTwice.j0 k t539 t540 t545 (!t555)))) else (laws_FnBatchMoveTwice.j0 k t539 t540 t545 true))))) = some r:=H
  have A3:=Aside0.mk A30
  clear A30
  replace H:=Option.bind_eq_some_iff.mp H
  obtain ⟨t545,A40,H⟩:=H
  replace H : ((spec_BatchMove.f k t539 t540).bind fun t548=>((laws_lwRows.f k t545 t548).bind fun t551=>(if t551 = true then ((impl_BatchMove.f k t545 t540).bind fun t552=>((laws_lwRows.f k t552 t545).bind fun t555=>(laws_FnBatchMoveTwice.j0 k t539 t540 t545 (!t555)))) else (laws_FnBatchMoveTwice.j0 k t539 t540 t545 true)))) = some r:=H
  have A4:=Aside0.mk A40
  clear A40
  have HC5:=Aside0.mk H
  clear H
  go_enter Try.func4,Try.ntmps4
  go_upto_region 5 with (first|((with_reducible refine gate_callee (f:=15) rfl ?_);refine goesL_ (some 12) rfl rfl Try.func15 Q1 rfl #[.slice A0 l0.length c0] rfl Q74 ?_;(with_reducible refine (spec_DrawBatchMove.calls k _ _ l0 t539 t540 _ ?side1 ?side2 A3.out).mono ?_);(case side1=>exact Q78);(case side2=>exact HC0.out);rintro e w6 ⟨v541,v543,rfl,ho0,ho1,hb⟩;refine ⟨_,rfl,?_⟩;have n0_:=am (Kd.R_lower ho0 (below_size Q72));have n1_:=am (Kd.R_lower ho1 (below_size Q72));have n2_:=am (below_step Q72 hb);clear HB;have HO542:=n0_;have HO544:=n1_;have HB:=n2_;clear n0_ n1_ n2_;(try clear hb);(try clear hb2);(try clear hk);(try clear hi);(try clear ho0);(try clear ho1);obtain ⟨Ao7,co7,eo7⟩:=Kd.R_slice HO542.out;subst eo7;obtain ⟨Ao8,co8,eo8⟩:=Kd.R_slice HO544.out;subst eo8)|((with_reducible refine gate_callee (f:=17) rfl ?_);refine goesL_ (some 17) rfl rfl Try.func17 Q1 rfl #[.slice Ao7 t539.length co7,.slice Ao8 t540.length co8] rfl Q74 ?_;(with_reducible refine (impl_BatchMove.calls k _ _ t539 _ _ t540 t545 _ ?side1 ?side2 ?side3 ?side4 A4.out).mono ?_);(case side1=>exact Q103);(case side2=>exact (Kd.R_reads' HO542.out).2.1);(case side3=>exact Q104);(case side4=>exact (Kd.R_reads' HO544.out).2.1);rintro e w9 ⟨v546,rfl,ho0,hb⟩;refine ⟨_,rfl,?_⟩;have n0_:=am (Kd.R_elder' Q30 (Kd.R_base ho0) hb);have n1_:=am (Kd.R_below Q31 hb);have n2_:=am (Kd.R_lower (Kd.R_new' ho0 (Kd.R_lt Q30)) (below_size Q72));have n3_:=am (below_step Q72 hb);clear HO542 HO544 HB;have HO542:=n0_;have HO544:=n1_;have HO547:=n2_;have HB:=n3_;clear n0_ n1_ n2_ n3_;(try clear hb);(try clear hb2);(try clear hk);(try clear hi);(try clear ho0)))
  (try simp only [Act.put,sA_,sZ_,sS_])
  go_cut [31] (fun v31 wc=>∃ (kq : Nat) (x31_4 : Bool),v31 = .bool x31_4 ∧ Aside0 (laws_FnBatchMoveTwice.j0 kq t539 t540 t545 x31_4 = some r) ∧ Aside0 (kq ≤ k) ∧ Aside0 (Kd.R k38 38 wc w.heap.size (fun k_=>some k_ ≠ (v546 : Value).ownBlock) (.slice Ao7 t539.length co7) t539) ∧ Aside0 (Kd.R k36 36 wc w.heap.size (fun _=>True) (.slice Ao8 t540.length co8) t540) ∧ Aside0 (Kd.R k38 38 wc w.heap.size (fun k_=>some k_ ≠ ((.slice Ao7 t539.length co7) : Value).ownBlock) v546 t545) ∧ Aside0 (Below w.heap.size w wc))
  case first =>
   have H:=HC5.out
   clear HC5
   replace H:=Option.bind_eq_some_iff.mp H
   obtain ⟨t548,A100,H⟩:=H
   replace H : ((laws_lwRows.f k t545 t548).bind fun t551=>(if t551 = true then ((impl_BatchMove.f k t545 t540).bind fun t552=>((laws_lwRows.f k t552 t545).bind fun t555=>(laws_FnBatchMoveTwice.j0 k t539 t540 t545 (!t555)))) else (laws_FnBatchMoveTwice.j0 k t539 t540 t545 true))) = some r:=H
   have A10:=Aside0.mk A100
   clear A100
   replace H:=Option.bind_eq_some_iff.mp H
   obtain ⟨t551,A110,H⟩:=H
   replace H : (if t551 = true then ((impl_BatchMove.f k t545 t540).bind fun t552=>((laws_lwRows.f k t552 t545).bind fun t555=>(laws_FnBatchMoveTwice.j0 k t539 t540 t545 (!t555)))) else (laws_FnBatchMoveTwice.j0 k t539 t540 t545 true)) = some r:=H
   have A11:=Aside0.mk A110
   clear A110
   by_cases c12 : t551 = true
   ·subst c12
    have H1 : ((impl_BatchMove.f k t545 t540).bind fun t552=>((laws_lwRows.f k t552 t545).bind fun t555=>(laws_FnBatchMoveTwice.j0 k t539 t540 t545 (!t555)))) = some r:=by rw [if_pos rfl] at H;exact H
    clear H
    have H:=H1
    clear H1
    replace H:=Option.bind_eq_some_iff.mp H
    obtain ⟨t552,A130,H⟩:=H
    replace H : ((laws_lwRows.f k t552 t545).bind fun t555=>(laws_FnBatchMoveTwice.j0 k t539 t540 t545 (!t555))) = some r:=H
    have A13:=Aside0.mk A130
    clear A130
    replace H:=Option.bind_eq_some_iff.mp H
    obtain ⟨t555,A140,H⟩:=H
    replace H : (laws_FnBatchMoveTwice.j0 k t539 t540 t545 (!t555)) = some r:=H
    have A14:=Aside0.mk A140
    clear A140
    have H':=Aside0.mk H
    clear H
    go_wp2_with (first|((with_reducible refine gate_callee (f:=19) rfl ?_);refine goesL_ (some 21) rfl rfl Try.func19 Q1 rfl #[.slice Ao7 t539.length co7,.slice Ao8 t540.length co8] rfl Q74 ?_;(with_reducible refine (spec_BatchMove.calls k _ _ t539 _ _ t540 t548 _ ?side1 ?side2 ?side3 ?side4 A10.out).mono ?_);(case side1=>exact Q103);(case side2=>exact (Kd.R_reads' HO542.out).2.1);(case side3=>exact Q104);(case side4=>exact (Kd.R_reads' HO544.out).2.1);rintro e w15 ⟨v549,rfl,ho0,hb⟩;refine ⟨_,rfl,?_⟩;have n0_:=am (Kd.R_elder' Q30 (Kd.R_base ho0) hb);have n1_:=am (Kd.R_below Q31 hb);have n2_:=am (Kd.R_elder' Q32 (Kd.R_base ho0) hb);have n3_:=am (Kd.R_lower (Kd.R_new' (Kd.R_new' ho0 (Kd.R_lt Q30)) (Kd.R_lt Q32)) (below_size Q72));have n4_:=am (below_step Q72 hb);clear HO542 HO544 HO547 HB;have HO542:=n0_;have HO544:=n1_;have HO547:=n2_;have HO550:=n3_;have HB:=n4_;clear n0_ n1_ n2_ n3_ n4_;(try clear hb);(try clear hb2);(try clear hk);(try clear hi);(try clear ho0);obtain ⟨Ao16,co16,eo16⟩:=Kd.R_slice HO547.out;subst eo16;obtain ⟨Ao17,co17,eo17⟩:=Kd.R_slice HO550.out;subst eo17)|((with_reducible refine gate_callee (f:=18) rfl ?_);refine goesL_ (some 22) rfl rfl Try.func18 Q1 rfl #[.slice Ao16 t545.length co16,.slice Ao17 t548.length co17] rfl Q74 ?_;(with_reducible refine (laws_lwRows.calls k _ _ t545 _ _ t548 true _ ?side1 ?side2 ?side3 ?side4 A11.out).mono ?_);(case side1=>exact Q105);(case side2=>exact (Kd.R_reads' HO547.out).2.1);(case side3=>exact (by repeat (first|exact (Kd.R_reads' HO550.out).2.2|(with_reducible refine Kd.C_alloc ?_ _)|(with_reducible refine Kd.C_drewN ?_ _)|(with_reducible refine Kd.C_drew ?_))));(case side4=>exact (Kd.R_reads' HO550.out).2.1);rintro e w' ⟨rfl,⟨nd,rfl⟩⟩;refine ⟨_,rfl,?_⟩)|(go_at_call 17;(with_reducible refine (impl_BatchMove.calls k _ _ t545 _ _ t540 t552 _ ?side1 ?side2 ?side3 ?side4 A13.out).mono ?_);(case side1=>exact Q105);(case side2=>exact (Kd.R_reads' HO547.out).2.1);(case side3=>exact Q104);(case side4=>exact (Kd.R_reads' HO544.out).2.1);rintro e w18 ⟨v553,rfl,ho0,hb⟩;have n0_:=am (Kd.R_elder' Q30 (Kd.R_base ho0) hb);have n1_:=am (Kd.R_below Q31 hb);have n2_:=am (Kd.R_elder' Q32 (Kd.R_base ho0) hb);have n3_:=am (Kd.R_elder' (by (with_reducible repeat (first|apply Kd.R_alloc|apply Kd.R_drewN|apply Kd.R_drew));exact HO550.out) (Kd.R_base ho0) hb);have n4_:=am (Kd.R_lower (Kd.R_new' (Kd.R_new' (Kd.R_new' ho0 (Kd.R_lt Q30)) (Kd.R_lt Q32)) (Kd.R_lt (by (with_reducible repeat (first|apply Kd.R_alloc|apply Kd.R_drewN|apply Kd.R_drew));exact HO550.out))) (below_size Q72));have n5_:=am (below_step Q72 hb);clear HO542 HO544 HO547 HO550 HB;have HO542:=n0_;have HO544:=n1_;have HO547:=n2_;have HO550:=n3_;have HO554:=n4_;have HB:=n5_;clear n0_ n1_ n2_ n3_ n4_ n5_;(try clear hb);(try clear hb2);(try clear hk);(try clear hi);(try clear ho0);obtain ⟨Ao19,co19,eo19⟩:=Kd.R_slice HO554.out;subst eo19)|(go_at_call 18;(with_reducible refine (laws_lwRows.calls k _ _ t552 _ _ t545 t555 _ ?side1 ?side2 ?side3 ?side4 A14.out).mono ?_);(case side1=>exact (by repeat (first|exact (Kd.R_reads' HO554.out).2.2|(with_reducible refine Kd.C_alloc ?_ _)|(with_reducible refine Kd.C_drewN ?_ _)|(with_reducible refine Kd.C_drew ?_))));(case side2=>exact (Kd.R_reads' HO554.out).2.1);(case side3=>exact Q105);(case side4=>exact (Kd.R_reads' HO547.out).2.1);rintro e w' ⟨rfl,⟨nd,rfl⟩⟩))
    go_meet
    case rel=>exact ⟨_,(!t555),Q5,H',⟨Q3⟩,⟨by (with_reducible repeat (first|apply Kd.R_alloc|apply Kd.R_drewN|apply Kd.R_drew));exact Kd.R_mono HO542.out (fun _ hk=>hk.1.1.2)⟩,⟨Q31⟩,⟨by (with_reducible repeat (first|apply Kd.R_alloc|apply Kd.R_drewN|apply Kd.R_drew));exact Kd.R_mono HO547.out (fun _ hk=>hk.1.1.2)⟩,⟨Q72⟩⟩
   ·replace c12:=Bool.eq_false_iff.mpr c12
    subst c12
    have H1 : (laws_FnBatchMoveTwice.j0 k t539 t540 t545 true) = some r:=by rw [if_neg (show ¬ (false = true) by decide)] at H;exact H
    clear H
    have H:=H1
    clear H1
    have H':=Aside0.mk H
    clear H
    go_wp2_with (first|((with_reducible refine gate_callee (f:=19) rfl ?_);refine goesL_ (some 21) rfl rfl Try.func19 Q1 rfl #[.slice Ao7 t539.length co7,.slice Ao8 t540.length co8] rfl Q74 ?_;(with_reducible refine (spec_BatchMove.calls k _ _ t539 _ _ t540 t548 _ ?side1 ?side2 ?side3 ?side4 A10.out).mono ?_);(case side1=>exact Q103);(case side2=>exact (Kd.R_reads' HO542.out).2.1);(case side3=>exact Q104);(case side4=>exact (Kd.R_reads' HO544.out).2.1);rintro e w20 ⟨v549,rfl,ho0,hb⟩;refine ⟨_,rfl,?_⟩;have n0_:=am (Kd.R_elder' Q30 (Kd.R_base ho0) hb);have n1_:=am (Kd.R_below Q31 hb);have n2_:=am (Kd.R_elder' Q32 (Kd.R_base ho0) hb);have n3_:=am (Kd.R_lower (Kd.R_new' (Kd.R_new' ho0 (Kd.R_lt Q30)) (Kd.R_lt Q32)) (below_size Q72));have n4_:=am (below_step Q72 hb);clear HO542 HO544 HO547 HB;have HO542:=n0_;have HO544:=n1_;have HO547:=n2_;have HO550:=n3_;have HB:=n4_;clear n0_ n1_ n2_ n3_ n4_;(try clear hb);(try clear hb2);(try clear hk);(try clear hi);(try clear ho0);obtain ⟨Ao21,co21,eo21⟩:=Kd.R_slice HO547.out;subst eo21;obtain ⟨Ao22,co22,eo22⟩:=Kd.R_slice HO550.out;subst eo22)|((with_reducible refine gate_callee (f:=18) rfl ?_);refine goesL_ (some 22) rfl rfl Try.func18 Q1 rfl #[.slice Ao21 t545.length co21,.slice Ao22 t548.length co22] rfl Q74 ?_;(with_reducible refine (laws_lwRows.calls k _ _ t545 _ _ t548 false _ ?side1 ?side2 ?side3 ?side4 A11.out).mono ?_);(case side1=>exact Q105);(case side2=>exact (Kd.R_reads' HO547.out).2.1);(case side3=>exact (by repeat (first|exact (Kd.R_reads' HO550.out).2.2|(with_reducible refine Kd.C_alloc ?_ _)|(with_reducible refine Kd.C_drewN ?_ _)|(with_reducible refine Kd.C_drew ?_))));(case side4=>exact (Kd.R_reads' HO550.out).2.1);rintro e w' ⟨rfl,⟨nd,rfl⟩⟩;refine ⟨_,rfl,?_⟩))
    go_meet
    case rel=>exact ⟨_,(true),Q5,H',⟨Q3⟩,⟨by (with_reducible repeat (first|apply Kd.R_alloc|apply Kd.R_drewN|apply Kd.R_drew));exact Kd.R_mono HO542.out (fun _ hk=>hk.1.2)⟩,⟨Q31⟩,⟨by (with_reducible repeat (first|apply Kd.R_alloc|apply Kd.R_drewN|apply Kd.R_drew));exact Kd.R_mono HO547.out (fun _ hk=>hk.1.2)⟩,⟨Q72⟩⟩
  case rest =>
   clear HC5
   try clear c1
   try clear c2
   try clear c2b0
   try clear c2b1
   try clear p2
   try clear c4
   try clear c12
   try clear c15
   try clear c17
   try clear c18
   try clear c19
   obtain ⟨kq,x31_4,rfl,HA,HJ4,HO_3,HO_4,HO_5,HB⟩:=hcut
   cases kq with
   | zero=>exact absurd HA.out (by simp [laws_FnBatchMoveTwice.j0])
   | succ kj4 =>
    have H:=HA.out
    clear HA
    simp only [laws_FnBatchMoveTwice.j0] at H
    by_cases c23 : x31_4 = true
    ·subst c23
     have H1 : (some false) = some r:=by rw [if_pos rfl] at H;exact H
     clear H
     have H:=H1
     clear H1
     exact absurd ((Option.some.inj H).trans hq_.out) Q0
    ·replace c23:=Bool.eq_false_iff.mpr c23
     subst c23
     have H1 : (laws_FnBatchMoveTwice.l0 kj4 t539 t540 t545 0) = some r:=by rw [if_neg (show ¬ (false = true) by decide)] at H;exact H
     clear H
     have H:=H1
     clear H1
     have H':=Aside0.mk H
     clear H
     go_wp2
     go_loopg [6] kj4 (fun kq v6 w'=>∃ (x6_2 : Int),v6 = .int .i64 x6_2 ∧ Aside0 (laws_FnBatchMoveTwice.l0 kq t539 t540 t545 x6_2 = some r) ∧ Aside0 (kq ≤ kj4) ∧ Aside0 (Kd.R k38 38 w' w.heap.size (fun k_=>some k_ ≠ (v546 : Value).ownBlock) (.slice Ao7 t539.length co7) t539) ∧ Aside0 (Kd.R k36 36 w' w.heap.size (fun _=>True) (.slice Ao8 t540.length co8) t540) ∧ Aside0 (Kd.R k38 38 w' w.heap.size (fun k_=>some k_ ≠ ((.slice Ao7 t539.length co7) : Value).ownBlock) v546 t545) ∧ Aside0 (Below w.heap.size w w'))
     case atStart=>exact ⟨(0),Q5,H',⟨Nat.le_refl _⟩,⟨Q20⟩,⟨Q21⟩,⟨Q19⟩,⟨Q72⟩⟩
     case round =>
      clear H'
      try clear c1
      try clear c2
      try clear c2b0
      try clear c2b1
      try clear p2
      try clear c4
      try clear c12
      try clear c15
      try clear c17
      try clear c18
      try clear c19
      try clear c23
      try clear p2
      obtain ⟨x6_2,rfl,HA,HK2,HO_3,HO_4,HO_5,HB⟩:=hrel
      cases gk with
      | zero=>exact absurd HA.out (by simp [laws_FnBatchMoveTwice.l0])
      | succ k2 =>
       have H:=HA.out
       clear HA
       simp only [laws_FnBatchMoveTwice.l0] at H
       have HC24:=Aside0.mk H
       clear H
       go_upto_region 8 with (fail)
       go_cut [40] (fun v40 wc=>∃ (kq : Nat) (x40_23 : Bool),v40 = .bool x40_23 ∧ Aside0 (laws_FnBatchMoveTwice.j2 kq t539 t540 t545 x6_2 x40_23 = some r) ∧ Aside0 (kq ≤ k2) ∧ Aside0 (Kd.R k38 38 wc w.heap.size (fun k_=>some k_ ≠ (v546 : Value).ownBlock) (.slice Ao7 t539.length co7) t539) ∧ Aside0 (Kd.R k36 36 wc w.heap.size (fun _=>True) (.slice Ao8 t540.length co8) t540) ∧ Aside0 (Kd.R k38 38 wc w.heap.size (fun k_=>some k_ ≠ ((.slice Ao7 t539.length co7) : Value).ownBlock) v546 t545) ∧ Aside0 (Below w.heap.size w wc))
       case first =>
        have H:=HC24.out
        clear HC24
        by_cases c25 : x6_2 < (t545.length : Int)
        ·rw [if_pos c25] at H
         have c25b0 : decide (x6_2 < (t545.length : Int)) = true:=decide_eq_true c25
         clear c25
         (first|rw [c25b0]|(simp only [i64_w,i32_w];rw [c25b0])|skip)
         have H':=Aside0.mk H
         clear H
         obtain ⟨Ao26,co26,eo26⟩:=Kd.R_slice HO_5.out
         subst eo26
         go_wp2
         go_meet
         case rel=>exact ⟨_,(((t540.length : Int) == 1)),Q5,H',⟨by have:=HJ4.out;have:=HK2.out;first|omega|exact Nat.le_refl _⟩,⟨Q20⟩,⟨Q21⟩,⟨Q19⟩,⟨Q72⟩⟩
        ·rw [if_neg c25] at H
         have c25b0 : decide (x6_2 < (t545.length : Int)) = false:=decide_eq_false c25
         clear c25
         (first|rw [c25b0]|(simp only [i64_w,i32_w];rw [c25b0])|skip)
         have H':=Aside0.mk H
         clear H
         obtain ⟨Ao27,co27,eo27⟩:=Kd.R_slice HO_5.out
         subst eo27
         go_wp2
         go_meet
         case rel=>exact ⟨_,(false),Q5,H',⟨by have:=HJ4.out;have:=HK2.out;first|omega|exact Nat.le_refl _⟩,⟨Q20⟩,⟨Q21⟩,⟨Q19⟩,⟨Q72⟩⟩
       case rest =>
        clear HC24
        try clear c1
        try clear c2
        try clear c2b0
        try clear c2b1
        try clear p2
        try clear c4
        try clear c12
        try clear c15
        try clear c17
        try clear c18
        try clear c19
        try clear c23
        try clear c25
        try clear c25b0
        try clear p2
        obtain ⟨kq,x40_23,rfl,HA,HJ23,HO_3,HO_4,HO_5,HB⟩:=hcut
        cases kq with
        | zero=>exact absurd HA.out (by simp [laws_FnBatchMoveTwice.j2])
        | succ kj23 =>
         have H:=HA.out
         clear HA
         simp only [laws_FnBatchMoveTwice.j2] at H
         by_cases c28 : x40_23 = true
         ·subst c28
          have H1 : (if 0 ≤ x6_2 then (if x6_2 < (t545.length : Int) then ((impl_FrontCovers.f kj23 t540 ((rd_T38 t545 x6_2).f2.f0) ((rd_T38 t545 x6_2).f2.f1)).bind fun t557=>(if t557 = true then (laws_FnBatchMoveTwice.l0 kj23 t539 t540 t545 (wrap64 (x6_2 + 1))) else (some false))) else (none)) else (none)) = some r:=by rw [if_pos rfl] at H;exact H
          clear H
          have H:=H1
          clear H1
          have c29 : 0 ≤ x6_2:=nn_ H
          rw [if_pos c29] at H
          have c29b0 : decide (0 ≤ x6_2) = true:=decide_eq_true c29
          clear c29
          have c30 : x6_2 < (t545.length : Int):=nn_ H
          rw [if_pos c30] at H
          have c30b0 : decide (x6_2 < (t545.length : Int)) = true:=decide_eq_true c30
          clear c30
          replace H:=Option.bind_eq_some_iff.mp H
          obtain ⟨t557,A310,H⟩:=H
          replace H : (if t557 = true then (laws_FnBatchMoveTwice.l0 kj23 t539 t540 t545 (wrap64 (x6_2 + 1))) else (some false)) = some r:=H
          have A31:=Aside0.mk A310
          clear A310
          by_cases c32 : t557 = true
          ·subst c32
           have H1 : (laws_FnBatchMoveTwice.l0 kj23 t539 t540 t545 (wrap64 (x6_2 + 1))) = some r:=by rw [if_pos rfl] at H;exact H
           clear H
           have H:=H1
           clear H1
           have H':=Aside0.mk H
           clear H
           obtain ⟨Ao33,co33,eo33⟩:=Kd.R_slice HO_5.out
           subst eo33
           have p556 : 0 ≤ (x6_2 : Int):=of_decide_eq_true Q6
           have q556 : x6_2 < (t545.length : Int):=of_decide_eq_true Q6
           obtain ⟨ad556,e556,hx556_0,hx556_1,hx556_2,hx556_3,hx556_4⟩:=at_T38 (Kd.R_reads' HO_5.out).2.2 x6_2 p556 q556
           cases e556
           replace p556:=eq_true p556
           replace q556:=eq_true q556
           go_wp2_with (first|((with_reducible refine gate_callee (f:=23) rfl ?_);refine goesL_ (some 49) rfl rfl Try.func23 Q1 rfl #[.slice Ao8 t540.length co8,.agg #[.int .i64 ((rd_T38 t545 x6_2).f2.f0),.int .i64 ((rd_T38 t545 x6_2).f2.f1)]] rfl Q74 ?_;(with_reducible refine (impl_FrontCovers.calls kj23 _ _ t540 ((rd_T38 t545 x6_2).f2.f0) ((rd_T38 t545 x6_2).f2.f1) true _ ?side1 ?side2 A31.out).mono ?_);(case side1=>exact (by repeat (first|exact (Kd.R_reads' HO_4.out).2.2|(with_reducible refine Kd.C_alloc ?_ _)|(with_reducible refine Kd.C_drewN ?_ _)|(with_reducible refine Kd.C_drew ?_))));(case side2=>exact (Kd.R_reads' HO_4.out).2.1);rintro e w34 ⟨rfl,hb⟩;refine ⟨_,rfl,?_⟩;have n0_:=am (Kd.R_below Q20 hb);have n1_:=am (Kd.R_below Q21 hb);have n2_:=am (Kd.R_below Q19 hb);have n3_:=am (below_step Q72 hb);clear HO_3 HO_4 HO_5 HB;have HO_3:=n0_;have HO_4:=n1_;have HO_5:=n2_;have HB:=n3_;clear n0_ n1_ n2_ n3_;(try clear hb);(try clear hb2);(try clear hk);(try clear hi)))
           go_roundg kj23
           case measure=>have:=HJ4.out;have:=HK2.out;have:=HJ23.out;omega
           case rel=>exact ⟨(wrap64 (x6_2 + 1)),Q5,H',⟨by have:=HJ4.out;have:=HK2.out;have:=HJ23.out;omega⟩,⟨Q20⟩,⟨Q21⟩,⟨Q19⟩,⟨Q72⟩⟩
          ·replace c32:=Bool.eq_false_iff.mpr c32
           subst c32
           have H1 : (some false) = some r:=by rw [if_neg (show ¬ (false = true) by decide)] at H;exact H
           clear H
           have H:=H1
           clear H1
           exact absurd ((Option.some.inj H).trans hq_.out) Q0
         ·replace c28:=Bool.eq_false_iff.mpr c28
          subst c28
          have H1 : (some (decide ((t545.length : Int) ≤ (t539.length : Int)))) = some r:=by rw [if_neg (show ¬ (false = true) by decide)] at H;exact H
          clear H
          have H:=H1
          clear H1
          obtain rfl:=Option.some.inj H
          obtain ⟨Ao35,co35,eo35⟩:=Kd.R_slice HO_5.out
          subst eo35
          go_wp2
          go_ret
          exact ⟨by first|rfl|(rw [hq_.out];done)|(simp [errW_none,errW_some] <;> rfl)|(simp [*,errW_none,errW_some] <;> rfl),Q72⟩
noncomputable def laws_FnBatchMoveTwice.Pure : Prop := ∀ (l0 : List Int), l0.length ≤ maxLen → l0.length * 1 ≤ 140737488351232 → (∀ x ∈ l0, (Lit.int .u8 x).wf = true) → ∃ k, laws_FnBatchMoveTwice.f k l0 = some true
end Go.Proofs.Ytjlkffmdmifahaa.PFnBatchMoveTwice
