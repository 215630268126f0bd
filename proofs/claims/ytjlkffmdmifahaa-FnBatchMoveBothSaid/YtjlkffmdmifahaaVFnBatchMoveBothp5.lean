/- Functions that the law comes to: each as a plain Lean function, with the contract of the Go function. -/
import Derived.Test.YtjlkffmdmifahaaVFnBatchMoveBothw
import Derived.Test.YtjlkffmdmifahaaVFnBatchMoveBothp0
import Derived.Test.YtjlkffmdmifahaaVFnBatchMoveBothp2
import Derived.Test.YtjlkffmdmifahaaVFnBatchMoveBothp3
import Derived.Test.YtjlkffmdmifahaaVFnBatchMoveBothp4
namespace Go.Proofs.Ytjlkffmdmifahaa.PFnBatchMoveBoth
open Go.RowKit Go.Proofs.YtjlkffmdmifahaaW.PrintWords Go.Proofs.YtjlkffmdmifahaaW.PrintLast Go.Proofs.YtjlkffmdmifahaaW.PrintMore
attribute [local go_sem] max2_int min2_int max_two min_two max_three min_three max_four min_four
set_option linter.unusedVariables false
set_option linter.unusedSimpArgs false
attribute [local go_sem high] eqA36 eqA38
set_option maxHeartbeats 8000000 in
set_option maxRecDepth 100000 in
theorem spec_l2Put.calls (k : Nat) (A0 : Option Addr) (c0 : Nat) (l0 : List (S38)) (a1_0 : Int) (a1_1 : Int) (a1_2 : Int) (a1_3 : Int) (a1_4 : Int) (r : List (S38)) (w : World) (hr0 : Kd.C k38 w A0 l0.length l0) (hc0 : l0.length ≤ c0) (h : spec_l2Put.f k l0 a1_0 a1_1 a1_2 a1_3 a1_4 = some r) :
  Calls Try.prog 88 #[.slice A0 l0.length c0,.agg #[.int .i64 a1_0,.int .i64 a1_1,.int .i64 a1_2,.int .i64 a1_3,.int .i64 a1_4]] w fun e w'=>∃ v0_ : Value,e = .returned (v0_) ∧ Kd.R k38 38 w' w.heap.size (fun _=>True) v0_ r ∧ Below w.heap.size w w':=by
 have hu38:=Try.underlying38
 have HR0:=Aside0.mk hr0
 have HC0:=Aside0.mk hc0
 clear hr0 hc0
 have HB:=am (Below.refl w.heap.size w)
 have H : (spec_l2Put.l0 k l0 (([] : List (S38))) false 0 a1_0 a1_1 a1_2 a1_3 a1_4) = some r:=h
 clear h
 obtain ⟨y476,hy_⟩ : ∃ y_ : List (S38),y_ = (([] : List (S38))):=⟨_,rfl⟩
 replace H : (spec_l2Put.l0 k l0 y476 false 0 a1_0 a1_1 a1_2 a1_3 a1_4) = some r:=Q156
 have Ny476:=Aside0.mk hy_
 clear hy_
 have H':=Aside0.mk H
 clear H
 go_enter Try.func88,Try.ntmps88
 go_wp2_with (first|((with_reducible refine gate_dst (N:=3) rfl ?_);refine box_event ?hg (N:=3) ?hd (cs:=#[.int .i64 a1_0,.int .i64 a1_1,.int .i64 a1_2,.int .i64 a1_3,.int .i64 a1_4]) (t:=38) ?hr ?_;(case hd=>rfl);(case hg=>rfl);(case hr=>first|(go_simp;done)|(go_simp;rfl));intro gb475 hg w3 hbox hb;have n0_:=am (below_step Q77 hb);have n1_:=am (hbox);have n2_:=am ((Q167 : w.heap.size ≤ gb475));have n3_:=n2_;clear HB;have HB:=n0_;have BK475:=n1_;have GW475:=n2_;have GE475:=n3_;clear n0_ n1_ n2_ n3_;clear hb hbox hg)|((with_reducible refine gate_dst (N:=9) rfl ?_);refine Kd.R_lit k38 _ 38 ?hg (N:=9) ?hd (xs:=([] : List (S38))) (inner:=[]) (ok:=fun _=>True) (okp:=fun _=>True) ?hr ?hp (fun _ hk=>hk) trivial (Below.refl _ _) (Nat.le_refl _) (by simp) ?_;(case hd=>rfl);(case hg=>rfl);(case hr=>first|(go_simp;done)|(go_simp;rfl));(case hp=>exact (Reps.none _ _));intro v477 w4 ho5 hb hg_ hnew_;clear hg_ hnew_;(first|rw [← Ny476.out] at ho5|(simp only [Int.reduceToNat] at ho5;rw [← Ny476.out] at ho5));have n0_:=am (Kd.R_lower (Kd.R_newB ho5 (g:=gb475) (o:=.cells #[.int .i64 a1_0,.int .i64 a1_1,.int .i64 a1_2,.int .i64 a1_3,.int .i64 a1_4] 38 (0,0)) Q74) (below_size Q104));have n1_:=am (blk_below (g:=gb475) (o:=.cells #[.int .i64 a1_0,.int .i64 a1_1,.int .i64 a1_2,.int .i64 a1_3,.int .i64 a1_4] 38 (0,0)) Q74 hb);have n2_:=am (below_step Q104 hb);clear BK475 HB;have HO478:=n0_;have BK475:=n1_;have HB:=n2_;clear n0_ n1_ n2_;clear hb ho5))
 go_loopg [5,6,7] k (fun kq v5 v6 v7 w'=>∃ (x5_1 : List (S38)) (x6_1 : Bool) (x7_1 : Int) (x476004_1 : Int),v6 = .bool x6_1 ∧ v7 = .int .i64 x7_1 ∧ Aside0 (spec_l2Put.l0 kq l0 x5_1 x6_1 x7_1 a1_0 a1_1 a1_2 a1_3 x476004_1 = some r) ∧ Aside0 (kq ≤ k) ∧ Aside0 (Kd.R k38 38 w' w.heap.size (fun k_=>k_ ≠ gb475) v5 x5_1) ∧ Aside0 (w'.heap[gb475]? = some (.cells #[.int .i64 a1_0,.int .i64 a1_1,.int .i64 a1_2,.int .i64 a1_3,.int .i64 x476004_1] 38 (0,0))) ∧ Aside0 (Below w.heap.size w w'))
 case atStart=>exact ⟨(y476),(false),(0),(a1_4),Q5,Q5,H',⟨Nat.le_refl _⟩,⟨by (with_reducible repeat (first|apply Kd.R_alloc|apply Kd.R_drewN|apply Kd.R_drew));exact Kd.R_mono HO478.out (fun _ hk=>hk.2)⟩,⟨Q74⟩,⟨Q104⟩⟩
 case round =>
  clear H'
  try clear p2
  obtain ⟨x5_1,x6_1,x7_1,x476004_1,rfl,rfl,HA,HK1,HO_5,BK475,HB⟩:=hrel
  cases gk with
  | zero=>exact absurd HA.out (by simp [spec_l2Put.l0])
  | succ k1 =>
   have H:=HA.out
   clear HA
   simp only [spec_l2Put.l0] at H
   by_cases c6 : x7_1 < (l0.length : Int)
   ·rw [if_pos c6] at H
    have c6b0 : decide (x7_1 < (l0.length : Int)) = true:=decide_eq_true c6
    clear c6
    have c7 : 0 ≤ x7_1:=nn_ H
    rw [if_pos c7] at H
    have c7b0 : decide (0 ≤ x7_1) = true:=decide_eq_true c7
    clear c7
    replace H:=Option.bind_eq_some_iff.mp H
    obtain ⟨t483,A80,H⟩:=H
    replace H : (if x6_1 = true then (spec_l2Put.j1 k1 l0 x5_1 x6_1 x7_1 t483 false a1_0 a1_1 a1_2 a1_3 x476004_1) else (spec_l2Put.j1 k1 l0 x5_1 x6_1 x7_1 t483 (decide (t483 > 0)) a1_0 a1_1 a1_2 a1_3 x476004_1)) = some r:=H
    have A8:=Aside0.mk A80
    clear A80
    have HC9:=Aside0.mk H
    clear H
    try go_wp2
    have n0_:=am (Kd.R_drew HO_5.out)
    have n1_:=am (blk_drew BK475.out)
    have n2_:=am (below_drew1 HB.out)
    clear HO_5
    clear BK475
    clear HB
    have HO_5:=n0_
    have BK475:=n1_
    have HB:=n2_
    clear n0_ n1_ n2_
    have p482 : 0 ≤ (x7_1 : Int):=of_decide_eq_true Q6
    have q482 : x7_1 < (l0.length : Int):=of_decide_eq_true Q6
    obtain ⟨ad482,e482,hx482_0,hx482_1,hx482_2,hx482_3,hx482_4⟩:=at_T38 HR0.out x7_1 p482 q482
    have hw482_4:=hx482_4
    have hw482_3:=hx482_3
    have hw482_2:=hx482_2
    have hw482_1:=hx482_1
    have hw482_0:=hx482_0
    cases e482
    replace hx482_0:=cb_ HB hx482_0
    replace hx482_1:=cb_ HB hx482_1
    replace hx482_2:=cb_ HB hx482_2
    replace hx482_3:=cb_ HB hx482_3
    replace hx482_4:=cb_ HB hx482_4
    replace p482:=eq_true p482
    replace q482:=eq_true q482
    refine start_ (n:=7) (S:=fun w'=>w'.cell? ⟨gb475,0,none⟩ = some (.int .i64 a1_0) ∧ w'.cell? ⟨gb475,1,none⟩ = some (.int .i64 a1_1) ∧ w'.cell? ⟨gb475,2,none⟩ = some (.int .i64 a1_2) ∧ w'.cell? ⟨gb475,3,none⟩ = some (.int .i64 a1_3) ∧ w'.cell? ⟨gb475,4,none⟩ = some (.int .i64 x476004_1) ∧ w'.cell? (ad482.add ((x7_1).toNat * 5)) = some (.int .i64 ((rd_T38 l0 x7_1).f0)) ∧ w'.cell? ⟨(ad482.add ((x7_1).toNat * 5)).block,(ad482.add ((x7_1).toNat * 5)).off + 1,none⟩ = some (.int .i64 ((rd_T38 l0 x7_1).f1)) ∧ w'.cell? ⟨(ad482.add ((x7_1).toNat * 5)).block,(ad482.add ((x7_1).toNat * 5)).off + 2,none⟩ = some (.int .i64 ((rd_T38 l0 x7_1).f2.f0)) ∧ w'.cell? ⟨(ad482.add ((x7_1).toNat * 5)).block,(ad482.add ((x7_1).toNat * 5)).off + 3,none⟩ = some (.int .i64 ((rd_T38 l0 x7_1).f2.f1)) ∧ w'.cell? ⟨(ad482.add ((x7_1).toNat * 5)).block,(ad482.add ((x7_1).toNat * 5)).off + 4,none⟩ = some (.int .i64 ((rd_T38 l0 x7_1).f3))) (ds:=[]) b7_0 Q1 rfl rfl ⟨(blk_cell BK475.out 0).trans rfl,(blk_cell BK475.out 1).trans rfl,(blk_cell BK475.out 2).trans rfl,(blk_cell BK475.out 3).trans rfl,(blk_cell BK475.out 4).trans rfl,(cb_ HB hw482_0:),(cb_ HB hw482_1:),(cb_ HB hw482_2:),(cb_ HB hw482_3:),(cb_ HB hw482_4:)⟩ (fun hHeld=>?_)
    generalize wr.drew = w10 at HO_5 BK475 HB hx482_0 hx482_1 hx482_2 hx482_3 hx482_4 hHeld ⊢
    refine pU_ 0 16 b7_1 ?_
    refine pU_ 1 17 b7_2 ?_
    refine pU_ 2 18 b7_3 ?_
    refine tU_ 3 19 b7_4 hHeld ?_
    refine tU_ 4 20 b7_5 hHeld ?_
    refine one_ (i:=5) (N:=some 21) b7_6 rfl rfl Q1 Q0 (fun K hK=>?_)
    refine goes_ Try.func71 Q1 rfl #[.agg #[.int .i64 ((rd_T38 l0 x7_1).f0),.int .i64 ((rd_T38 l0 x7_1).f1),.int .i64 ((rd_T38 l0 x7_1).f2.f0),.int .i64 ((rd_T38 l0 x7_1).f2.f1),.int .i64 ((rd_T38 l0 x7_1).f3)],.agg #[.int .i64 a1_0,.int .i64 a1_1,.int .i64 a1_2,.int .i64 a1_3,.int .i64 x476004_1]] (by rfl) rfl rfl Q79 ?_
    with_reducible refine (spec_l2Comp.calls k1 ((rd_T38 l0 x7_1).f0) ((rd_T38 l0 x7_1).f1) ((rd_T38 l0 x7_1).f2.f0) ((rd_T38 l0 x7_1).f2.f1) ((rd_T38 l0 x7_1).f3) a1_0 a1_1 a1_2 a1_3 x476004_1 t483 _ A8.out).mono ?_
    rintro e w11 ⟨rfl,hb⟩
    refine ⟨_,rfl,?_⟩
    have n0_:=am (Kd.R_below Q20 hb)
    have n1_:=am (blk_below (g:=gb475) (o:=.cells #[.int .i64 a1_0,.int .i64 a1_1,.int .i64 a1_2,.int .i64 a1_3,.int .i64 x476004_1] 38 (0,0)) Q74 hb)
    have n2_:=am (below_step Q104 hb)
    clear HO_5
    clear BK475
    clear HB
    have HO_5:=n0_
    have BK475:=n1_
    have HB:=n2_
    clear n0_ n1_ n2_
    (try clear hb)
    (try clear hb2)
    (try clear hk)
    (try clear hi)
    refine hK.out _ _ ⟨(blk_cell BK475.out 0).trans rfl,(blk_cell BK475.out 1).trans rfl,(blk_cell BK475.out 2).trans rfl,(blk_cell BK475.out 3).trans rfl,(blk_cell BK475.out 4).trans rfl,(cb_ HB hw482_0:),(cb_ HB hw482_1:),(cb_ HB hw482_2:),(cb_ HB hw482_3:),(cb_ HB hw482_4:)⟩ (fun hHeld=>?_)
    clear hK K
    refine norm_ (a':=?_) ?_ ?_
    rotate_left
    ·show Act.put _ (some 21) _ = _
     simp only [Act.put,sA_,sZ_,sS_,i64_w,i32_w]
     rfl
    refine pU_ 6 8 b7_7 ?_
    refine done_ Q1 ?_
    go_upto_region 7 with (fail)
    go_cut [27] (fun v27 wc=>∃ (kq : Nat) (x27_8 : Bool),v27 = .bool x27_8 ∧ Aside0 (spec_l2Put.j1 kq l0 x5_1 x6_1 x7_1 t483 x27_8 a1_0 a1_1 a1_2 a1_3 x476004_1 = some r) ∧ Aside0 (kq ≤ k1) ∧ Aside0 (Kd.R k38 38 wc w.heap.size (fun k_=>k_ ≠ gb475) u5 x5_1) ∧ Aside0 (wc.heap[gb475]? = some (.cells #[.int .i64 a1_0,.int .i64 a1_1,.int .i64 a1_2,.int .i64 a1_3,.int .i64 x476004_1] 38 (0,0))) ∧ Aside0 (Below w.heap.size w wc))
    case first =>
     have H:=HC9.out
     clear HC9
     by_cases c12 : x6_1 = true
     ·subst c12
      have H1 : (spec_l2Put.j1 k1 l0 x5_1 true x7_1 t483 false a1_0 a1_1 a1_2 a1_3 x476004_1) = some r:=by rw [if_pos rfl] at H;exact H
      clear H
      have H:=H1
      clear H1
      have H':=Aside0.mk H
      clear H
      go_wp2
      go_meet
      case rel=>exact ⟨_,(false),Q5,H',⟨Q7⟩,⟨Q20⟩,⟨Q74⟩,⟨Q104⟩⟩
     ·replace c12:=Bool.eq_false_iff.mpr c12
      subst c12
      have H1 : (spec_l2Put.j1 k1 l0 x5_1 false x7_1 t483 (decide (t483 > 0)) a1_0 a1_1 a1_2 a1_3 x476004_1) = some r:=by rw [if_neg (show ¬ (false = true) by decide)] at H;exact H
      clear H
      have H:=H1
      clear H1
      have H':=Aside0.mk H
      clear H
      go_wp2
      go_meet
      case rel=>exact ⟨_,(decide (t483 > 0)),Q5,H',⟨Q7⟩,⟨Q20⟩,⟨Q74⟩,⟨Q104⟩⟩
    case rest =>
     clear HC9
     try clear c1
     try clear p2
     try clear p4
     try clear q4
     try clear hx4
     try clear c6
     try clear c6b0
     try clear c7
     try clear c7b0
     try clear c8
     try clear c12
     try clear hx482_0
     try clear hx482_1
     try clear hx482_2
     try clear hx482_3
     try clear hx482_4
     try clear p2
     try clear p482
     try clear q482
     obtain ⟨kq,x27_8,rfl,HA,HJ8,HO_5,BK475,HB⟩:=hcut
     cases kq with
     | zero=>exact absurd HA.out (by simp [spec_l2Put.j1])
     | succ kj8 =>
      have H:=HA.out
      clear HA
      simp only [spec_l2Put.j1] at H
      by_cases c13 : x27_8 = true
      ·subst c13
       have H1 : (if x5_1.length < 3518437208883 then ((some (x5_1 ++ [(⟨a1_0,a1_1,(⟨a1_2,a1_3⟩ : S36),x476004_1⟩ : S38)] : List (S38))).bind fun y484=>(if 0 ≤ x7_1 then (if x7_1 < (l0.length : Int) then (if y484.length < 3518437208883 then (spec_l2Put.l0 kj8 l0 (y484 ++ [(⟨(rd_T38 l0 x7_1).f0,(rd_T38 l0 x7_1).f1,(⟨(rd_T38 l0 x7_1).f2.f0,(rd_T38 l0 x7_1).f2.f1⟩ : S36),(rd_T38 l0 x7_1).f3⟩ : S38)]) true (wrap64 (x7_1 + 1)) a1_0 a1_1 a1_2 a1_3 x476004_1) else (none)) else (none)) else (none))) else (none)) = some r:=by rw [if_pos rfl] at H;exact H
       clear H
       have H:=H1
       clear H1
       have c14 : x5_1.length < 3518437208883:=nn_ H
       rw [if_pos c14] at H
       have LMc14:=Aside0.mk c14
       clear c14
       obtain ⟨y484,hy_⟩ : ∃ y_ : List (S38),y_ = (x5_1 ++ [(⟨a1_0,a1_1,(⟨a1_2,a1_3⟩ : S36),x476004_1⟩ : S38)]):=⟨_,rfl⟩
       replace H : (if 0 ≤ x7_1 then (if x7_1 < (l0.length : Int) then (if y484.length < 3518437208883 then (spec_l2Put.l0 kj8 l0 (y484 ++ [(⟨(rd_T38 l0 x7_1).f0,(rd_T38 l0 x7_1).f1,(⟨(rd_T38 l0 x7_1).f2.f0,(rd_T38 l0 x7_1).f2.f1⟩ : S36),(rd_T38 l0 x7_1).f3⟩ : S38)]) true (wrap64 (x7_1 + 1)) a1_0 a1_1 a1_2 a1_3 x476004_1) else (none)) else (none)) else (none)) = some r:=Q156
       have Ny484:=Aside0.mk hy_
       clear hy_
       have c15 : 0 ≤ x7_1:=nn_ H
       rw [if_pos c15] at H
       have c15b0 : decide (0 ≤ x7_1) = true:=decide_eq_true c15
       clear c15
       have c16 : x7_1 < (l0.length : Int):=nn_ H
       rw [if_pos c16] at H
       have c16b0 : decide (x7_1 < (l0.length : Int)) = true:=decide_eq_true c16
       clear c16
       have c17 : y484.length < 3518437208883:=nn_ H
       rw [if_pos c17] at H
       have LMc17:=Aside0.mk c17
       clear c17
       obtain ⟨y488,hy_⟩ : ∃ y_ : List (S38),y_ = (y484 ++ [(⟨(rd_T38 l0 x7_1).f0,(rd_T38 l0 x7_1).f1,(⟨(rd_T38 l0 x7_1).f2.f0,(rd_T38 l0 x7_1).f2.f1⟩ : S36),(rd_T38 l0 x7_1).f3⟩ : S38)]):=⟨_,rfl⟩
       replace H : (spec_l2Put.l0 kj8 l0 y488 true (wrap64 (x7_1 + 1)) a1_0 a1_1 a1_2 a1_3 x476004_1) = some r:=Q156
       have Ny488:=Aside0.mk hy_
       clear hy_
       have H':=Aside0.mk H
       clear H
       have hcz18_0 : wc.cell? ⟨gb475,0,none⟩ = some (.int .i64 a1_0):=(blk_cell BK475.out 0).trans rfl
       have hcz18_1 : wc.cell? ⟨gb475,1,none⟩ = some (.int .i64 a1_1):=(blk_cell BK475.out 1).trans rfl
       have hcz18_2 : wc.cell? ⟨gb475,2,none⟩ = some (.int .i64 a1_2):=(blk_cell BK475.out 2).trans rfl
       have hcz18_3 : wc.cell? ⟨gb475,3,none⟩ = some (.int .i64 a1_3):=(blk_cell BK475.out 3).trans rfl
       have hcz18_4 : wc.cell? ⟨gb475,4,none⟩ = some (.int .i64 x476004_1):=(blk_cell BK475.out 4).trans rfl
       have hfz18_0:=blk_frozen BK475.out 0
       have hfz18_1:=blk_frozen BK475.out 1
       have hfz18_2:=blk_frozen BK475.out 2
       have hfz18_3:=blk_frozen BK475.out 3
       have hfz18_4:=blk_frozen BK475.out 4
       go_wp2_with (first|((with_reducible refine gate_builtin (b:=.append) (xs:=#[.tmp 28,.tmp 30]) rfl ?_);at_builtin;refine Kd.R_append k38 (w0:=w) w.heap.size rfl (.tmp 28) (.tmp 30) 23 38 (.agg #[(.int .i64 0),(.int .i64 0),(.int .i64 0),(.int .i64 0),(.int .i64 0)]) 40 rfl Try.underlying23 info38 rfl Q0 (by omega) u5 x5_1 (⟨a1_0,a1_1,(⟨a1_2,a1_3⟩ : S36),x476004_1⟩ : S38) [.int .i64 a1_0,.int .i64 a1_1,.int .i64 a1_2,.int .i64 a1_3,.int .i64 x476004_1] (fun k_=>k_ ≠ gb475) (fun _=>False) rfl rfl ?aP (fun _ hk=>hk.elim) ?aF ?aO ?aB ?aS ?aL ?_;(case aP=>exact k38_mkM _ _ _ (⟨a1_0,a1_1,(⟨a1_2,a1_3⟩ : S36),x476004_1⟩ : S38));(case aB=>exact Q104);(case aF=>exact (fun k_ hk=>Kd.freshB (g:=gb475) (o:=.cells #[.int .i64 a1_0,.int .i64 a1_1,.int .i64 a1_2,.int .i64 a1_3,.int .i64 x476004_1] 38 (0,0)) Q74 k_ hk));(case aO=>exact Q20);(case aS=>exact (below_size Q104));(case aL=>have:=LMc14.out;omega);intro v485 w19 ho hb hg hat;rw [← Ny484.out] at ho;have n0_:=am (blk_grown (g:=gb475) (o:=.cells #[.int .i64 a1_0,.int .i64 a1_1,.int .i64 a1_2,.int .i64 a1_3,.int .i64 x476004_1] 38 (0,0)) Q74 hg (Kd.R_away HO_5.out (fun _ hk=>hk)));have n1_:=am (hb);have n2_:=am (ho);clear BK475 HB HO_5;have BK475:=n0_;have HB:=n1_;have HO486:=n2_;clear n0_ n1_ n2_;clear ho hb hg hat;have p487 : 0 ≤ (x7_1 : Int):=of_decide_eq_true Q6;have q487 : x7_1 < (l0.length : Int):=of_decide_eq_true Q6;obtain ⟨ad487,e487,hx487_0,hx487_1,hx487_2,hx487_3,hx487_4⟩:=at_T38 HR0.out x7_1 p487 q487;obtain rfl : ad482 = ad487:=(by injection e487);replace hx487_0:=cb_ HB hx487_0;replace hx487_1:=cb_ HB hx487_1;replace hx487_2:=cb_ HB hx487_2;replace hx487_3:=cb_ HB hx487_3;replace hx487_4:=cb_ HB hx487_4;replace p487:=eq_true p487;replace q487:=eq_true q487)|((with_reducible refine gate_builtin (b:=.append) (xs:=#[.tmp 51,.tmp 56]) rfl ?_);at_builtin;refine Kd.R_append k38 (w0:=w) w.heap.size rfl (.tmp 51) (.tmp 56) 23 38 (.agg #[(.int .i64 0),(.int .i64 0),(.int .i64 0),(.int .i64 0),(.int .i64 0)]) 40 rfl Try.underlying23 info38 rfl Q0 (by omega) v485 y484 (⟨(rd_T38 l0 x7_1).f0,(rd_T38 l0 x7_1).f1,(⟨(rd_T38 l0 x7_1).f2.f0,(rd_T38 l0 x7_1).f2.f1⟩ : S36),(rd_T38 l0 x7_1).f3⟩ : S38) [.int .i64 ((rd_T38 l0 x7_1).f0),.int .i64 ((rd_T38 l0 x7_1).f1),.int .i64 ((rd_T38 l0 x7_1).f2.f0),.int .i64 ((rd_T38 l0 x7_1).f2.f1),.int .i64 ((rd_T38 l0 x7_1).f3)] (fun k_=>k_ ≠ gb475) (fun _=>False) rfl rfl ?aP (fun _ hk=>hk.elim) ?aF ?aO ?aB ?aS ?aL ?_;(case aP=>exact k38_mkM _ _ _ (⟨(rd_T38 l0 x7_1).f0,(rd_T38 l0 x7_1).f1,(⟨(rd_T38 l0 x7_1).f2.f0,(rd_T38 l0 x7_1).f2.f1⟩ : S36),(rd_T38 l0 x7_1).f3⟩ : S38));(case aB=>exact Q104);(case aF=>exact (fun k_ hk=>Kd.freshB (g:=gb475) (o:=.cells #[.int .i64 a1_0,.int .i64 a1_1,.int .i64 a1_2,.int .i64 a1_3,.int .i64 x476004_1] 38 (0,0)) Q74 k_ hk));(case aO=>exact (by (with_reducible repeat (first|apply Kd.R_alloc|apply Kd.R_drewN|apply Kd.R_drew));exact HO486.out));(case aS=>exact (below_size Q104));(case aL=>have:=LMc17.out;omega);intro v489 w20 ho hb hg hat;rw [← Ny488.out] at ho;have n0_:=am (blk_grown (g:=gb475) (o:=.cells #[.int .i64 a1_0,.int .i64 a1_1,.int .i64 a1_2,.int .i64 a1_3,.int .i64 x476004_1] 38 (0,0)) Q74 hg (Kd.R_away HO486.out (fun _ hk=>hk)));have n1_:=am (hb);have n2_:=am (ho);clear BK475 HB HO486;have BK475:=n0_;have HB:=n1_;have HO490:=n2_;clear n0_ n1_ n2_;clear ho hb hg hat))
       go_roundg kj8
       case measure=>have:=HK1.out;have:=HJ8.out;omega
       case rel=>exact ⟨(y488),(true),(wrap64 (x7_1 + 1)),(x476004_1),Q5,Q5,H',⟨Q4⟩,⟨by (with_reducible repeat (first|apply Kd.R_alloc|apply Kd.R_drewN|apply Kd.R_drew));exact HO490.out⟩,⟨Q74⟩,⟨Q104⟩⟩
      ·replace c13:=Bool.eq_false_iff.mpr c13
       subst c13
       have H1 : (if x6_1 = true then (if 0 ≤ x7_1 then (if x7_1 < (l0.length : Int) then (if x5_1.length < 3518437208883 then (spec_l2Put.l0 kj8 l0 (x5_1 ++ [(⟨(rd_T38 l0 x7_1).f0,(rd_T38 l0 x7_1).f1,(⟨(rd_T38 l0 x7_1).f2.f0,(rd_T38 l0 x7_1).f2.f1⟩ : S36),(rd_T38 l0 x7_1).f3⟩ : S38)]) x6_1 (wrap64 (x7_1 + 1)) a1_0 a1_1 a1_2 a1_3 x476004_1) else (none)) else (none)) else (none)) else (if t483 = 0 then (if 0 ≤ x7_1 then (if x7_1 < (l0.length : Int) then (if x5_1.length < 3518437208883 then (spec_l2Put.l0 kj8 l0 (x5_1 ++ [(⟨a1_0,a1_1,(⟨a1_2,a1_3⟩ : S36),wrap64 (x476004_1 + ((rd_T38 l0 x7_1).f3))⟩ : S38)]) true (wrap64 (x7_1 + 1)) a1_0 a1_1 a1_2 a1_3 (wrap64 (x476004_1 + ((rd_T38 l0 x7_1).f3)))) else (none)) else (none)) else (none)) else (if 0 ≤ x7_1 then (if x7_1 < (l0.length : Int) then (if x5_1.length < 3518437208883 then (spec_l2Put.l0 kj8 l0 (x5_1 ++ [(⟨(rd_T38 l0 x7_1).f0,(rd_T38 l0 x7_1).f1,(⟨(rd_T38 l0 x7_1).f2.f0,(rd_T38 l0 x7_1).f2.f1⟩ : S36),(rd_T38 l0 x7_1).f3⟩ : S38)]) x6_1 (wrap64 (x7_1 + 1)) a1_0 a1_1 a1_2 a1_3 x476004_1) else (none)) else (none)) else (none)))) = some r:=by rw [if_neg (show ¬ (false = true) by decide)] at H;exact H
       clear H
       have H:=H1
       clear H1
       by_cases c21 : x6_1 = true
       ·subst c21
        have H1 : (if 0 ≤ x7_1 then (if x7_1 < (l0.length : Int) then (if x5_1.length < 3518437208883 then (spec_l2Put.l0 kj8 l0 (x5_1 ++ [(⟨(rd_T38 l0 x7_1).f0,(rd_T38 l0 x7_1).f1,(⟨(rd_T38 l0 x7_1).f2.f0,(rd_T38 l0 x7_1).f2.f1⟩ : S36),(rd_T38 l0 x7_1).f3⟩ : S38)]) true (wrap64 (x7_1 + 1)) a1_0 a1_1 a1_2 a1_3 x476004_1) else (none)) else (none)) else (none)) = some r:=by rw [if_pos rfl] at H;exact H
        clear H
        have H:=H1
        clear H1
        have c22 : 0 ≤ x7_1:=nn_ H
        rw [if_pos c22] at H
        have c22b0 : decide (0 ≤ x7_1) = true:=decide_eq_true c22
        clear c22
        have c23 : x7_1 < (l0.length : Int):=nn_ H
        rw [if_pos c23] at H
        have c23b0 : decide (x7_1 < (l0.length : Int)) = true:=decide_eq_true c23
        clear c23
        have c24 : x5_1.length < 3518437208883:=nn_ H
        rw [if_pos c24] at H
        have LMc24:=Aside0.mk c24
        clear c24
        obtain ⟨y492,hy_⟩ : ∃ y_ : List (S38),y_ = (x5_1 ++ [(⟨(rd_T38 l0 x7_1).f0,(rd_T38 l0 x7_1).f1,(⟨(rd_T38 l0 x7_1).f2.f0,(rd_T38 l0 x7_1).f2.f1⟩ : S36),(rd_T38 l0 x7_1).f3⟩ : S38)]):=⟨_,rfl⟩
        replace H : (spec_l2Put.l0 kj8 l0 y492 true (wrap64 (x7_1 + 1)) a1_0 a1_1 a1_2 a1_3 x476004_1) = some r:=Q156
        have Ny492:=Aside0.mk hy_
        clear hy_
        have H':=Aside0.mk H
        clear H
        have p491 : 0 ≤ (x7_1 : Int):=of_decide_eq_true Q6
        have q491 : x7_1 < (l0.length : Int):=of_decide_eq_true Q6
        obtain ⟨ad491,e491,hx491_0,hx491_1,hx491_2,hx491_3,hx491_4⟩:=at_T38 HR0.out x7_1 p491 q491
        obtain rfl : ad482 = ad491:=(by injection e491)
        replace hx491_0:=cb_ HB hx491_0
        replace hx491_1:=cb_ HB hx491_1
        replace hx491_2:=cb_ HB hx491_2
        replace hx491_3:=cb_ HB hx491_3
        replace hx491_4:=cb_ HB hx491_4
        replace p491:=eq_true p491
        replace q491:=eq_true q491
        go_wp2_with (first|((with_reducible refine gate_builtin (b:=.append) (xs:=#[.tmp 51,.tmp 56]) rfl ?_);at_builtin;refine Kd.R_append k38 (w0:=w) w.heap.size rfl (.tmp 51) (.tmp 56) 23 38 (.agg #[(.int .i64 0),(.int .i64 0),(.int .i64 0),(.int .i64 0),(.int .i64 0)]) 40 rfl Try.underlying23 info38 rfl Q0 (by omega) u5 x5_1 (⟨(rd_T38 l0 x7_1).f0,(rd_T38 l0 x7_1).f1,(⟨(rd_T38 l0 x7_1).f2.f0,(rd_T38 l0 x7_1).f2.f1⟩ : S36),(rd_T38 l0 x7_1).f3⟩ : S38) [.int .i64 ((rd_T38 l0 x7_1).f0),.int .i64 ((rd_T38 l0 x7_1).f1),.int .i64 ((rd_T38 l0 x7_1).f2.f0),.int .i64 ((rd_T38 l0 x7_1).f2.f1),.int .i64 ((rd_T38 l0 x7_1).f3)] (fun k_=>k_ ≠ gb475) (fun _=>False) rfl rfl ?aP (fun _ hk=>hk.elim) ?aF ?aO ?aB ?aS ?aL ?_;(case aP=>exact k38_mkM _ _ _ (⟨(rd_T38 l0 x7_1).f0,(rd_T38 l0 x7_1).f1,(⟨(rd_T38 l0 x7_1).f2.f0,(rd_T38 l0 x7_1).f2.f1⟩ : S36),(rd_T38 l0 x7_1).f3⟩ : S38));(case aB=>exact Q104);(case aF=>exact (fun k_ hk=>Kd.freshB (g:=gb475) (o:=.cells #[.int .i64 a1_0,.int .i64 a1_1,.int .i64 a1_2,.int .i64 a1_3,.int .i64 x476004_1] 38 (0,0)) Q74 k_ hk));(case aO=>exact Q20);(case aS=>exact (below_size Q104));(case aL=>have:=LMc24.out;omega);intro v493 w25 ho hb hg hat;rw [← Ny492.out] at ho;have n0_:=am (blk_grown (g:=gb475) (o:=.cells #[.int .i64 a1_0,.int .i64 a1_1,.int .i64 a1_2,.int .i64 a1_3,.int .i64 x476004_1] 38 (0,0)) Q74 hg (Kd.R_away HO_5.out (fun _ hk=>hk)));have n1_:=am (hb);have n2_:=am (ho);clear BK475 HB HO_5;have BK475:=n0_;have HB:=n1_;have HO494:=n2_;clear n0_ n1_ n2_;clear ho hb hg hat))
        go_roundg kj8
        case measure=>have:=HK1.out;have:=HJ8.out;omega
        case rel=>exact ⟨(y492),(true),(wrap64 (x7_1 + 1)),(x476004_1),Q5,Q5,H',⟨Q4⟩,⟨by (with_reducible repeat (first|apply Kd.R_alloc|apply Kd.R_drewN|apply Kd.R_drew));exact HO494.out⟩,⟨Q74⟩,⟨Q104⟩⟩
       ·replace c21:=Bool.eq_false_iff.mpr c21
        subst c21
        have H1 : (if t483 = 0 then (if 0 ≤ x7_1 then (if x7_1 < (l0.length : Int) then (if x5_1.length < 3518437208883 then (spec_l2Put.l0 kj8 l0 (x5_1 ++ [(⟨a1_0,a1_1,(⟨a1_2,a1_3⟩ : S36),wrap64 (x476004_1 + ((rd_T38 l0 x7_1).f3))⟩ : S38)]) true (wrap64 (x7_1 + 1)) a1_0 a1_1 a1_2 a1_3 (wrap64 (x476004_1 + ((rd_T38 l0 x7_1).f3)))) else (none)) else (none)) else (none)) else (if 0 ≤ x7_1 then (if x7_1 < (l0.length : Int) then (if x5_1.length < 3518437208883 then (spec_l2Put.l0 kj8 l0 (x5_1 ++ [(⟨(rd_T38 l0 x7_1).f0,(rd_T38 l0 x7_1).f1,(⟨(rd_T38 l0 x7_1).f2.f0,(rd_T38 l0 x7_1).f2.f1⟩ : S36),(rd_T38 l0 x7_1).f3⟩ : S38)]) false (wrap64 (x7_1 + 1)) a1_0 a1_1 a1_2 a1_3 x476004_1) else (none)) else (none)) else (none))) = some r:=by rw [if_neg (show ¬ (false = true) by decide)] at H;exact H
        clear H
        have H:=H1
        clear H1
        by_cases c26 : t483 = 0
        ·rw [if_pos c26] at H
         have c26b0 : (t483 == 0) = true:=beq_iff_eq.mpr c26
         have c26b1 : (t483 != 0) = false:=bne_eq_false_iff_eq.mpr c26
         clear c26
         have c27 : 0 ≤ x7_1:=nn_ H
         rw [if_pos c27] at H
         have c27b0 : decide (0 ≤ x7_1) = true:=decide_eq_true c27
         clear c27
         have c28 : x7_1 < (l0.length : Int):=nn_ H
         rw [if_pos c28] at H
         have c28b0 : decide (x7_1 < (l0.length : Int)) = true:=decide_eq_true c28
         clear c28
         have c29 : x5_1.length < 3518437208883:=nn_ H
         rw [if_pos c29] at H
         have LMc29:=Aside0.mk c29
         clear c29
         obtain ⟨y496,hy_⟩ : ∃ y_ : List (S38),y_ = (x5_1 ++ [(⟨a1_0,a1_1,(⟨a1_2,a1_3⟩ : S36),wrap64 (x476004_1 + ((rd_T38 l0 x7_1).f3))⟩ : S38)]):=⟨_,rfl⟩
         replace H : (spec_l2Put.l0 kj8 l0 y496 true (wrap64 (x7_1 + 1)) a1_0 a1_1 a1_2 a1_3 (wrap64 (x476004_1 + ((rd_T38 l0 x7_1).f3)))) = some r:=Q156
         have Ny496:=Aside0.mk hy_
         clear hy_
         have H':=Aside0.mk H
         clear H
         try go_wp2
         have n0_:=am (Kd.R_drew HO_5.out)
         have n1_:=am (blk_drew BK475.out)
         have n2_:=am (below_drew1 HB.out)
         clear HO_5
         clear BK475
         clear HB
         have HO_5:=n0_
         have BK475:=n1_
         have HB:=n2_
         clear n0_ n1_ n2_
         have p495 : 0 ≤ (x7_1 : Int):=of_decide_eq_true Q6
         have q495 : x7_1 < (l0.length : Int):=of_decide_eq_true Q6
         obtain ⟨ad495,e495,hx495_0,hx495_1,hx495_2,hx495_3,hx495_4⟩:=at_T38 HR0.out x7_1 p495 q495
         have hw495_4:=hx495_4
         have hw495_3:=hx495_3
         have hw495_2:=hx495_2
         have hw495_1:=hx495_1
         have hw495_0:=hx495_0
         obtain rfl : ad482 = ad495:=(by injection e495)
         replace hx495_0:=cb_ HB hx495_0
         replace hx495_1:=cb_ HB hx495_1
         replace hx495_2:=cb_ HB hx495_2
         replace hx495_3:=cb_ HB hx495_3
         replace hx495_4:=cb_ HB hx495_4
         replace p495:=eq_true p495
         replace q495:=eq_true q495
         refine start_ (n:=10) (S:=fun w'=>w'.cell? ⟨gb475,0,none⟩ = some (.int .i64 a1_0) ∧ w'.cell? ⟨gb475,1,none⟩ = some (.int .i64 a1_1) ∧ w'.cell? ⟨gb475,2,none⟩ = some (.int .i64 a1_2) ∧ w'.cell? ⟨gb475,3,none⟩ = some (.int .i64 a1_3) ∧ w'.cell? ⟨gb475,4,none⟩ = some (.int .i64 x476004_1) ∧ w'.cell? (ad482.add ((x7_1).toNat * 5)) = some (.int .i64 ((rd_T38 l0 x7_1).f0)) ∧ w'.cell? ⟨(ad482.add ((x7_1).toNat * 5)).block,(ad482.add ((x7_1).toNat * 5)).off + 1,none⟩ = some (.int .i64 ((rd_T38 l0 x7_1).f1)) ∧ w'.cell? ⟨(ad482.add ((x7_1).toNat * 5)).block,(ad482.add ((x7_1).toNat * 5)).off + 2,none⟩ = some (.int .i64 ((rd_T38 l0 x7_1).f2.f0)) ∧ w'.cell? ⟨(ad482.add ((x7_1).toNat * 5)).block,(ad482.add ((x7_1).toNat * 5)).off + 3,none⟩ = some (.int .i64 ((rd_T38 l0 x7_1).f2.f1)) ∧ w'.cell? ⟨(ad482.add ((x7_1).toNat * 5)).block,(ad482.add ((x7_1).toNat * 5)).off + 4,none⟩ = some (.int .i64 ((rd_T38 l0 x7_1).f3))) (ds:=[9]) b10_0 Q1 rfl rfl ⟨(blk_cell BK475.out 0).trans rfl,(blk_cell BK475.out 1).trans rfl,(blk_cell BK475.out 2).trans rfl,(blk_cell BK475.out 3).trans rfl,(blk_cell BK475.out 4).trans rfl,(cb_ HB hw495_0:),(cb_ HB hw495_1:),(cb_ HB hw495_2:),(cb_ HB hw495_3:),(cb_ HB hw495_4:)⟩ (fun hHeld=>?_);refine with_tabW spec_l2Put.tab11 spec_l2Put.bits11 (fun HT_ HW_=>?_)
         generalize wc.drew = w30 at HO_5 BK475 HB hx495_0 hx495_1 hx495_2 hx495_3 hx495_4 hHeld ⊢
         refine pU_ 0 38 b10_1 ?_
         refine pU_ 2 40 c177 ?_
         refine pU_ 3 41 c178 ?_
         refine pU_ 4 42 c179 ?_
         refine pU_ 5 43 c180 ?_
         refine tU_ 1 39 b10_6 hHeld ?_
         refine tU_ 6 44 b10_7 hHeld ?_
         refine pU_ 7 45 b10_8 ?_
         refine pU_ 8 46 b10_9 ?_
         refine last_ (i:=9) (N:=none) b10_10 rfl rfl (one_of HT_.out Q1) Q0 (fun K hK=>?_)
         have hs31 : w30.cell? ⟨gb475,4,none⟩ = some (.int .i64 x476004_1):=(blk_cell BK475.out 4).trans rfl
         have hfs31:=blk_frozen BK475.out 4
         refine skip_ (w1:=?_) (by rfl) rfl ?_ ?_
         rotate_left
         ·go_simp
          rfl
         refine hK.out _ _ ?_
         clear hK K
         refine done_ (done_of HT_.out Q1) ?_
         have hcz32_0 : w30.cell? ⟨gb475,0,none⟩ = some (.int .i64 a1_0):=(blk_cell BK475.out 0).trans rfl
         have hcz32_1 : w30.cell? ⟨gb475,1,none⟩ = some (.int .i64 a1_1):=(blk_cell BK475.out 1).trans rfl
         have hcz32_2 : w30.cell? ⟨gb475,2,none⟩ = some (.int .i64 a1_2):=(blk_cell BK475.out 2).trans rfl
         have hcz32_3 : w30.cell? ⟨gb475,3,none⟩ = some (.int .i64 a1_3):=(blk_cell BK475.out 3).trans rfl
         have hcz32_4 : w30.cell? ⟨gb475,4,none⟩ = some (.int .i64 x476004_1):=(blk_cell BK475.out 4).trans rfl
         have hfz32_0:=blk_frozen BK475.out 0
         have hfz32_1:=blk_frozen BK475.out 1
         have hfz32_2:=blk_frozen BK475.out 2
         have hfz32_3:=blk_frozen BK475.out 3
         have hfz32_4:=blk_frozen BK475.out 4
         try go_wp2_with (first|((with_reducible refine gate_builtin (b:=.append) (xs:=#[.tmp 47,.tmp 49]) rfl ?_);at_builtin;refine Kd.R_append k38 (w0:=w) w.heap.size rfl (.tmp 47) (.tmp 49) 23 38 (.agg #[(.int .i64 0),(.int .i64 0),(.int .i64 0),(.int .i64 0),(.int .i64 0)]) 40 rfl Try.underlying23 info38 rfl Q0 (by omega) u5 x5_1 (⟨a1_0,a1_1,(⟨a1_2,a1_3⟩ : S36),wrap64 (x476004_1 + ((rd_T38 l0 x7_1).f3))⟩ : S38) [.int .i64 a1_0,.int .i64 a1_1,.int .i64 a1_2,.int .i64 a1_3,.int .i64 (wrap64 (x476004_1 + ((rd_T38 l0 x7_1).f3)))] (fun k_=>k_ ≠ gb475) (fun _=>False) rfl (by first|(go_simp;done)|(go_simp;rfl)) ?aP (fun _ hk=>hk.elim) ?aF ?aO ?aB ?aS ?aL ?_;(case aP=>exact k38_mkM _ _ _ (⟨a1_0,a1_1,(⟨a1_2,a1_3⟩ : S36),wrap64 (x476004_1 + ((rd_T38 l0 x7_1).f3))⟩ : S38));(case aB=>exact Q104);(case aF=>exact (fun k_ hk=>Kd.freshB (g:=gb475) (o:=.cells #[.int .i64 a1_0,.int .i64 a1_1,.int .i64 a1_2,.int .i64 a1_3,.int .i64 (wrap64 (x476004_1 + ((rd_T38 l0 x7_1).f3)))] 38 (0,0)) (by (with_reducible repeat (first|refine blk_drewN ?_ _|refine blk_drew ?_|refine blk_alloc ?_ _));refine blk_put (cs:=#[.int .i64 a1_0,.int .i64 a1_1,.int .i64 a1_2,.int .i64 a1_3,.int .i64 x476004_1]) ?_ 4 _ rfl;(with_reducible repeat (first|refine blk_drewN ?_ _|refine blk_drew ?_|refine blk_alloc ?_ _));exact BK475.out) k_ hk));(case aO=>exact (by (with_reducible repeat (first|apply Kd.R_alloc|apply Kd.R_drewN|apply Kd.R_drew));exact Kd.R_mono (Kd.R_far (p:=⟨gb475,4,none⟩) (Kd.R_mono HO_5.out (fun k_ hk=>(⟨hk,hk⟩ : _ ∧ k_ ≠ gb475))) (fun _ hk=>hk.2) (.int .i64 (wrap64 (x476004_1 + ((rd_T38 l0 x7_1).f3))))) (fun _ hk=>hk.1)));(case aS=>exact (below_size Q104));(case aL=>have:=LMc29.out;omega);intro v497 w33 ho hb hg hat;rw [← Ny496.out] at ho;have n0_:=am (blk_grown (g:=gb475) (o:=.cells #[.int .i64 a1_0,.int .i64 a1_1,.int .i64 a1_2,.int .i64 a1_3,.int .i64 (wrap64 (x476004_1 + ((rd_T38 l0 x7_1).f3)))] 38 (0,0)) (by (with_reducible repeat (first|refine blk_drewN ?_ _|refine blk_drew ?_|refine blk_alloc ?_ _));refine blk_put (cs:=#[.int .i64 a1_0,.int .i64 a1_1,.int .i64 a1_2,.int .i64 a1_3,.int .i64 x476004_1]) ?_ 4 _ rfl;(with_reducible repeat (first|refine blk_drewN ?_ _|refine blk_drew ?_|refine blk_alloc ?_ _));exact BK475.out) hg (Kd.R_away HO_5.out (fun _ hk=>hk)));have n1_:=am (hb);have n2_:=am (ho);clear BK475 HB HO_5;have BK475:=n0_;have HB:=n1_;have HO498:=n2_;clear n0_ n1_ n2_;clear ho hb hg hat))
         go_roundg kj8
         case measure=>have:=HK1.out;have:=HJ8.out;omega
         case rel=>exact ⟨(y496),(true),(wrap64 (x7_1 + 1)),(wrap64 (x476004_1 + ((rd_T38 l0 x7_1).f3))),Q5,Q5,H',⟨Q4⟩,⟨by (with_reducible repeat (first|apply Kd.R_alloc|apply Kd.R_drewN|apply Kd.R_drew));exact HO498.out⟩,⟨Q74⟩,⟨Q104⟩⟩
        ·rw [if_neg c26] at H
         have c26b0 : (t483 == 0) = false:=beq_eq_false_iff_ne.mpr c26
         have c26b1 : (t483 != 0) = true:=bne_iff_ne.mpr c26
         have c34 : 0 ≤ x7_1:=nn_ H
         rw [if_pos c34] at H
         have c34b0 : decide (0 ≤ x7_1) = true:=decide_eq_true c34
         clear c34
         have c35 : x7_1 < (l0.length : Int):=nn_ H
         rw [if_pos c35] at H
         have c35b0 : decide (x7_1 < (l0.length : Int)) = true:=decide_eq_true c35
         clear c35
         have c36 : x5_1.length < 3518437208883:=nn_ H
         rw [if_pos c36] at H
         have LMc36:=Aside0.mk c36
         clear c36
         obtain ⟨y500,hy_⟩ : ∃ y_ : List (S38),y_ = (x5_1 ++ [(⟨(rd_T38 l0 x7_1).f0,(rd_T38 l0 x7_1).f1,(⟨(rd_T38 l0 x7_1).f2.f0,(rd_T38 l0 x7_1).f2.f1⟩ : S36),(rd_T38 l0 x7_1).f3⟩ : S38)]):=⟨_,rfl⟩
         replace H : (spec_l2Put.l0 kj8 l0 y500 false (wrap64 (x7_1 + 1)) a1_0 a1_1 a1_2 a1_3 x476004_1) = some r:=Q156
         have Ny500:=Aside0.mk hy_
         clear hy_
         have H':=Aside0.mk H
         clear H
         have p499 : 0 ≤ (x7_1 : Int):=of_decide_eq_true Q6
         have q499 : x7_1 < (l0.length : Int):=of_decide_eq_true Q6
         obtain ⟨ad499,e499,hx499_0,hx499_1,hx499_2,hx499_3,hx499_4⟩:=at_T38 HR0.out x7_1 p499 q499
         obtain rfl : ad482 = ad499:=(by injection e499)
         replace hx499_0:=cb_ HB hx499_0
         replace hx499_1:=cb_ HB hx499_1
         replace hx499_2:=cb_ HB hx499_2
         replace hx499_3:=cb_ HB hx499_3
         replace hx499_4:=cb_ HB hx499_4
         replace p499:=eq_true p499
         replace q499:=eq_true q499
         go_wp2_with (first|((with_reducible refine gate_builtin (b:=.append) (xs:=#[.tmp 51,.tmp 56]) rfl ?_);at_builtin;refine Kd.R_append k38 (w0:=w) w.heap.size rfl (.tmp 51) (.tmp 56) 23 38 (.agg #[(.int .i64 0),(.int .i64 0),(.int .i64 0),(.int .i64 0),(.int .i64 0)]) 40 rfl Try.underlying23 info38 rfl Q0 (by omega) u5 x5_1 (⟨(rd_T38 l0 x7_1).f0,(rd_T38 l0 x7_1).f1,(⟨(rd_T38 l0 x7_1).f2.f0,(rd_T38 l0 x7_1).f2.f1⟩ : S36),(rd_T38 l0 x7_1).f3⟩ : S38) [.int .i64 ((rd_T38 l0 x7_1).f0),.int .i64 ((rd_T38 l0 x7_1).f1),.int .i64 ((rd_T38 l0 x7_1).f2.f0),.int .i64 ((rd_T38 l0 x7_1).f2.f1),.int .i64 ((rd_T38 l0 x7_1).f3)] (fun k_=>k_ ≠ gb475) (fun _=>False) rfl rfl ?aP (fun _ hk=>hk.elim) ?aF ?aO ?aB ?aS ?aL ?_;(case aP=>exact k38_mkM _ _ _ (⟨(rd_T38 l0 x7_1).f0,(rd_T38 l0 x7_1).f1,(⟨(rd_T38 l0 x7_1).f2.f0,(rd_T38 l0 x7_1).f2.f1⟩ : S36),(rd_T38 l0 x7_1).f3⟩ : S38));(case aB=>exact Q104);(case aF=>exact (fun k_ hk=>Kd.freshB (g:=gb475) (o:=.cells #[.int .i64 a1_0,.int .i64 a1_1,.int .i64 a1_2,.int .i64 a1_3,.int .i64 x476004_1] 38 (0,0)) Q74 k_ hk));(case aO=>exact Q20);(case aS=>exact (below_size Q104));(case aL=>have:=LMc36.out;omega);intro v501 w37 ho hb hg hat;rw [← Ny500.out] at ho;have n0_:=am (blk_grown (g:=gb475) (o:=.cells #[.int .i64 a1_0,.int .i64 a1_1,.int .i64 a1_2,.int .i64 a1_3,.int .i64 x476004_1] 38 (0,0)) Q74 hg (Kd.R_away HO_5.out (fun _ hk=>hk)));have n1_:=am (hb);have n2_:=am (ho);clear BK475 HB HO_5;have BK475:=n0_;have HB:=n1_;have HO502:=n2_;clear n0_ n1_ n2_;clear ho hb hg hat))
         go_roundg kj8
         case measure=>have:=HK1.out;have:=HJ8.out;omega
         case rel=>exact ⟨(y500),(false),(wrap64 (x7_1 + 1)),(x476004_1),Q5,Q5,H',⟨Q4⟩,⟨by (with_reducible repeat (first|apply Kd.R_alloc|apply Kd.R_drewN|apply Kd.R_drew));exact HO502.out⟩,⟨Q74⟩,⟨Q104⟩⟩
   ·rw [if_neg c6] at H
    have c6b0 : decide (x7_1 < (l0.length : Int)) = false:=decide_eq_false c6
    clear c6
    by_cases c38 : x6_1 = true
    ·subst c38
     have H1 : (some x5_1) = some r:=by rw [if_pos rfl] at H;exact H
     clear H
     have H:=H1
     clear H1
     obtain rfl:=Option.some.inj H
     go_wp2
     go_ret
     exact ⟨_,Q17,by (with_reducible repeat (first|apply Kd.R_alloc|apply Kd.R_drewN|apply Kd.R_drew));exact Kd.R_mono HO_5.out (fun _ hk=>trivial),Q104⟩
    ·replace c38:=Bool.eq_false_iff.mpr c38
     subst c38
     have H1 : (if x5_1.length < 3518437208883 then (some (x5_1 ++ [(⟨a1_0,a1_1,(⟨a1_2,a1_3⟩ : S36),x476004_1⟩ : S38)])) else (none)) = some r:=by rw [if_neg (show ¬ (false = true) by decide)] at H;exact H
     clear H
     have H:=H1
     clear H1
     have c39 : x5_1.length < 3518437208883:=nn_ H
     rw [if_pos c39] at H
     have LMc39:=Aside0.mk c39
     clear c39
     obtain ⟨y479,hy_⟩ : ∃ y_ : List (S38),y_ = (x5_1 ++ [(⟨a1_0,a1_1,(⟨a1_2,a1_3⟩ : S36),x476004_1⟩ : S38)]):=⟨_,rfl⟩
     replace H : (some y479) = some r:=Q156
     have Ny479:=Aside0.mk hy_
     clear hy_
     obtain rfl:=Option.some.inj H
     have hcz40_0 : wr.cell? ⟨gb475,0,none⟩ = some (.int .i64 a1_0):=(blk_cell BK475.out 0).trans rfl
     have hcz40_1 : wr.cell? ⟨gb475,1,none⟩ = some (.int .i64 a1_1):=(blk_cell BK475.out 1).trans rfl
     have hcz40_2 : wr.cell? ⟨gb475,2,none⟩ = some (.int .i64 a1_2):=(blk_cell BK475.out 2).trans rfl
     have hcz40_3 : wr.cell? ⟨gb475,3,none⟩ = some (.int .i64 a1_3):=(blk_cell BK475.out 3).trans rfl
     have hcz40_4 : wr.cell? ⟨gb475,4,none⟩ = some (.int .i64 x476004_1):=(blk_cell BK475.out 4).trans rfl
     have hfz40_0:=blk_frozen BK475.out 0
     have hfz40_1:=blk_frozen BK475.out 1
     have hfz40_2:=blk_frozen BK475.out 2
     have hfz40_3:=blk_frozen BK475.out 3
     have hfz40_4:=blk_frozen BK475.out 4
     go_wp2_with (first|((with_reducible refine gate_builtin (b:=.append) (xs:=#[.tmp 60,.tmp 62]) rfl ?_);at_builtin;refine Kd.R_append k38 (w0:=w) w.heap.size rfl (.tmp 60) (.tmp 62) 23 38 (.agg #[(.int .i64 0),(.int .i64 0),(.int .i64 0),(.int .i64 0),(.int .i64 0)]) 40 rfl Try.underlying23 info38 rfl Q0 (by omega) u5 x5_1 (⟨a1_0,a1_1,(⟨a1_2,a1_3⟩ : S36),x476004_1⟩ : S38) [.int .i64 a1_0,.int .i64 a1_1,.int .i64 a1_2,.int .i64 a1_3,.int .i64 x476004_1] (fun k_=>k_ ≠ gb475) (fun _=>False) rfl rfl ?aP (fun _ hk=>hk.elim) ?aF ?aO ?aB ?aS ?aL ?_;(case aP=>exact k38_mkM _ _ _ (⟨a1_0,a1_1,(⟨a1_2,a1_3⟩ : S36),x476004_1⟩ : S38));(case aB=>exact Q104);(case aF=>exact (fun k_ hk=>Kd.freshB (g:=gb475) (o:=.cells #[.int .i64 a1_0,.int .i64 a1_1,.int .i64 a1_2,.int .i64 a1_3,.int .i64 x476004_1] 38 (0,0)) Q74 k_ hk));(case aO=>exact Q20);(case aS=>exact (below_size Q104));(case aL=>have:=LMc39.out;omega);intro v480 w41 ho hb hg hat;rw [← Ny479.out] at ho;have n0_:=am (blk_grown (g:=gb475) (o:=.cells #[.int .i64 a1_0,.int .i64 a1_1,.int .i64 a1_2,.int .i64 a1_3,.int .i64 x476004_1] 38 (0,0)) Q74 hg (Kd.R_away HO_5.out (fun _ hk=>hk)));have n1_:=am (hb);have n2_:=am (ho);clear BK475 HB HO_5;have BK475:=n0_;have HB:=n1_;have HO481:=n2_;clear n0_ n1_ n2_;clear ho hb hg hat))
     go_ret
     exact ⟨_,Q17,by (with_reducible repeat (first|apply Kd.R_alloc|apply Kd.R_drewN|apply Kd.R_drew));exact Kd.R_mono HO481.out (fun _ hk=>trivial),Q104⟩
mutual
def spec_l2Sum.l0 : Nat → List (S38) → List (S38) → Int → Option ((List (S38)))
 | 0, _, _, _ => none
 | k + 1, x0, x3, x4 => if x4 < (x0.length : Int) then (if 0 ≤ x4 then ((spec_l2Put.f k x3 ((rd_T38 x0 x4).f0) ((rd_T38 x0 x4).f1) ((rd_T38 x0 x4).f2.f0) ((rd_T38 x0 x4).f2.f1) ((rd_T38 x0 x4).f3)).bind fun t507 => (spec_l2Sum.l0 k x0 t507 (wrap64 (x4 + 1)))) else (none)) else (spec_l2Sum.l1 k x3 (([] : List (S38))) 0)
def spec_l2Sum.l1 : Nat → List (S38) → List (S38) → Int → Option ((List (S38)))
 | 0, _, _, _ => none
 | k + 1, x3, x5, x6 => if x6 < (x3.length : Int) then (if 0 ≤ x6 then (if ((rd_T38 x3 x6).f3) = 0 then (spec_l2Sum.l1 k x3 x5 (wrap64 (x6 + 1))) else (if x5.length < 3518437208883 then (spec_l2Sum.l1 k x3 (x5 ++ [(⟨(rd_T38 x3 x6).f0, (rd_T38 x3 x6).f1, (⟨(rd_T38 x3 x6).f2.f0, (rd_T38 x3 x6).f2.f1⟩ : S36), (rd_T38 x3 x6).f3⟩ : S38)]) (wrap64 (x6 + 1))) else (none))) else (none)) else (some x5)
end
def spec_l2Sum.f (k : Nat) (l0 : List (S38)) : Option ((List (S38))) := spec_l2Sum.l0 k l0 (([] : List (S38))) 0
set_option maxHeartbeats 8000000 in
set_option maxRecDepth 100000 in
theorem spec_l2Sum.calls (k : Nat) (A0 : Option Addr) (c0 : Nat) (l0 : List (S38)) (r : List (S38)) (w : World) (hr0 : Kd.C k38 w A0 l0.length l0) (hc0 : l0.length ≤ c0) (h : spec_l2Sum.f k l0 = some r) :
  Calls Try.prog 58 #[.slice A0 l0.length c0] w fun e w'=>∃ v0_ : Value,e = .returned (v0_) ∧ Kd.R k38 38 w' w.heap.size (fun _=>True) v0_ r ∧ Below w.heap.size w w':=by
 have hu38:=Try.underlying38
 have HR0:=Aside0.mk hr0
 have HC0:=Aside0.mk hc0
 clear hr0 hc0
 have HB:=am (Below.refl w.heap.size w)
 have H : (spec_l2Sum.l0 k l0 (([] : List (S38))) 0) = some r:=h
 clear h
 obtain ⟨y503,hy_⟩ : ∃ y_ : List (S38),y_ = (([] : List (S38))):=⟨_,rfl⟩
 replace H : (spec_l2Sum.l0 k l0 y503 0) = some r:=Q156
 have Ny503:=Aside0.mk hy_
 clear hy_
 have H':=Aside0.mk H
 clear H
 go_enter Try.func58,Try.ntmps58
 go_wp2_with (first|((with_reducible refine gate_dst (N:=7) rfl ?_);refine Kd.R_lit k38 _ 38 ?hg (N:=7) ?hd (xs:=([] : List (S38))) (inner:=[]) (ok:=fun _=>True) (okp:=fun _=>True) ?hr ?hp (fun _ hk=>hk) trivial (Below.refl _ _) (Nat.le_refl _) (by simp) ?_;(case hd=>rfl);(case hg=>rfl);(case hr=>first|(go_simp;done)|(go_simp;rfl));(case hp=>exact (Reps.none _ _));intro v504 w2 ho3 hb hg_ hnew_;clear hg_ hnew_;(first|rw [← Ny503.out] at ho3|(simp only [Int.reduceToNat] at ho3;rw [← Ny503.out] at ho3));have n0_:=am (Kd.R_lower ho3 (below_size Q77));have n1_:=am (below_step Q77 hb);clear HB;have HO505:=n0_;have HB:=n1_;clear n0_ n1_;clear hb ho3))
 go_loopg [3,4] k (fun kq v3 v4 w'=>∃ (x3_1 : List (S38)) (x4_1 : Int),v4 = .int .i64 x4_1 ∧ Aside0 (spec_l2Sum.l0 kq l0 x3_1 x4_1 = some r) ∧ Aside0 (kq ≤ k) ∧ Aside0 (Kd.R k38 38 w' w.heap.size (fun _=>True) v3 x3_1) ∧ Aside0 (Below w.heap.size w w'))
 case atStart=>exact ⟨(y503),(0),Q5,H',⟨Nat.le_refl _⟩,⟨by (with_reducible repeat (first|apply Kd.R_alloc|apply Kd.R_drewN|apply Kd.R_drew));exact HO505.out⟩,⟨Q77⟩⟩
 case round =>
  clear H'
  try clear p2
  obtain ⟨x3_1,x4_1,rfl,HA,HK1,HO_3,HB⟩:=hrel
  cases gk with
  | zero=>exact absurd HA.out (by simp [spec_l2Sum.l0])
  | succ k1 =>
   have H:=HA.out
   clear HA
   simp only [spec_l2Sum.l0] at H
   by_cases c4 : x4_1 < (l0.length : Int)
   ·rw [if_pos c4] at H
    have c4b0 : decide (x4_1 < (l0.length : Int)) = true:=decide_eq_true c4
    clear c4
    have c5 : 0 ≤ x4_1:=nn_ H
    rw [if_pos c5] at H
    have c5b0 : decide (0 ≤ x4_1) = true:=decide_eq_true c5
    clear c5
    replace H:=Option.bind_eq_some_iff.mp H
    obtain ⟨t507,A60,H⟩:=H
    replace H : (spec_l2Sum.l0 k1 l0 t507 (wrap64 (x4_1 + 1))) = some r:=H
    have A6:=Aside0.mk A60
    clear A60
    have H':=Aside0.mk H
    clear H
    have p506 : 0 ≤ (x4_1 : Int):=of_decide_eq_true Q6
    have q506 : x4_1 < (l0.length : Int):=of_decide_eq_true Q6
    obtain ⟨ad506,e506,hx506_0,hx506_1,hx506_2,hx506_3,hx506_4⟩:=at_T38 HR0.out x4_1 p506 q506
    cases e506
    replace hx506_0:=cb_ HB hx506_0
    replace hx506_1:=cb_ HB hx506_1
    replace hx506_2:=cb_ HB hx506_2
    replace hx506_3:=cb_ HB hx506_3
    replace hx506_4:=cb_ HB hx506_4
    replace p506:=eq_true p506
    replace q506:=eq_true q506
    obtain ⟨Ao7,co7,eo7⟩:=Kd.R_slice HO_3.out
    subst eo7
    go_wp2_with (first|((with_reducible refine gate_callee (f:=88) rfl ?_);refine goesL_ (some 19) rfl rfl Try.func88 Q1 rfl #[.slice Ao7 x3_1.length co7,.agg #[.int .i64 ((rd_T38 l0 x4_1).f0),.int .i64 ((rd_T38 l0 x4_1).f1),.int .i64 ((rd_T38 l0 x4_1).f2.f0),.int .i64 ((rd_T38 l0 x4_1).f2.f1),.int .i64 ((rd_T38 l0 x4_1).f3)]] rfl Q79 ?_;(with_reducible refine (spec_l2Put.calls k1 _ _ x3_1 ((rd_T38 l0 x4_1).f0) ((rd_T38 l0 x4_1).f1) ((rd_T38 l0 x4_1).f2.f0) ((rd_T38 l0 x4_1).f2.f1) ((rd_T38 l0 x4_1).f3) t507 _ ?side1 ?side2 A6.out).mono ?_);(case side1=>exact (by repeat (first|exact (Kd.R_reads' HO_3.out).2.2|(with_reducible refine Kd.C_alloc ?_ _)|(with_reducible refine Kd.C_drewN ?_ _)|(with_reducible refine Kd.C_drew ?_))));(case side2=>exact (Kd.R_reads' HO_3.out).2.1);rintro e w8 ⟨v508,rfl,ho0,hb⟩;refine ⟨_,rfl,?_⟩;have n0_:=am (Kd.R_elder' Q21 (Kd.R_base ho0) hb);have n1_:=am (Kd.R_lower (Kd.R_new' ho0 (Kd.R_lt Q21)) (below_size Q77));have n2_:=am (below_step Q77 hb);clear HO_3 HB;have HO_3:=n0_;have HO509:=n1_;have HB:=n2_;clear n0_ n1_ n2_;(try clear hb);(try clear hb2);(try clear hk);(try clear hi);(try clear ho0)))
    go_roundg k1
    case measure=>have:=HK1.out;omega
    case rel=>exact ⟨(t507),(wrap64 (x4_1 + 1)),Q5,H',⟨Q2⟩,⟨by (with_reducible repeat (first|apply Kd.R_alloc|apply Kd.R_drewN|apply Kd.R_drew));exact Kd.R_mono HO509.out (fun _ hk=>trivial)⟩,⟨Q77⟩⟩
   ·rw [if_neg c4] at H
    have c4b0 : decide (x4_1 < (l0.length : Int)) = false:=decide_eq_false c4
    clear c4
    obtain ⟨y510,hy_⟩ : ∃ y_ : List (S38),y_ = (([] : List (S38))):=⟨_,rfl⟩
    replace H : (spec_l2Sum.l1 k1 x3_1 y510 0) = some r:=Q156
    have Ny510:=Aside0.mk hy_
    clear hy_
    have H':=Aside0.mk H
    clear H
    go_wp2_with (first|((with_reducible refine gate_dst (N:=20) rfl ?_);refine Kd.R_lit k38 _ 38 ?hg (N:=20) ?hd (xs:=([] : List (S38))) (inner:=[]) (ok:=fun _=>True) (okp:=fun _=>True) ?hr ?hp (fun _ hk=>hk) trivial (Below.refl _ _) (Nat.le_refl _) (by simp) ?_;(case hd=>rfl);(case hg=>rfl);(case hr=>first|(go_simp;done)|(go_simp;rfl));(case hp=>exact (Reps.none _ _));intro v511 w9 ho10 hb hg_ hnew_;clear hg_ hnew_;(first|rw [← Ny510.out] at ho10|(simp only [Int.reduceToNat] at ho10;rw [← Ny510.out] at ho10));have n0_:=am (Kd.R_elder' Q21 (Kd.R_base ho10) hb);have n1_:=am (Kd.R_lower (Kd.R_new' ho10 (Kd.R_lt Q21)) (below_size Q77));have n2_:=am (below_step Q77 hb);clear HO_3 HB;have HO_3:=n0_;have HO512:=n1_;have HB:=n2_;clear n0_ n1_ n2_;clear hb ho10))
    go_loopg [5,6] k1 (fun kq v5 v6 w'=>∃ (x5_2 : List (S38)) (x6_2 : Int),v6 = .int .i64 x6_2 ∧ Aside0 (spec_l2Sum.l1 kq x3_1 x5_2 x6_2 = some r) ∧ Aside0 (kq ≤ k1) ∧ Aside0 (Kd.R k38 38 w' w.heap.size (fun k_=>some k_ ≠ (v5 : Value).ownBlock) u3 x3_1) ∧ Aside0 (Kd.R k38 38 w' w.heap.size (fun k_=>some k_ ≠ (u3 : Value).ownBlock) v5 x5_2) ∧ Aside0 (Below w.heap.size w w'))
    case atStart=>exact ⟨(y510),(0),Q5,H',⟨Nat.le_refl _⟩,⟨by (with_reducible repeat (first|apply Kd.R_alloc|apply Kd.R_drewN|apply Kd.R_drew));exact Kd.R_mono HO_3.out (fun _ hk=>hk.2)⟩,⟨by (with_reducible repeat (first|apply Kd.R_alloc|apply Kd.R_drewN|apply Kd.R_drew));exact Kd.R_mono HO512.out (fun _ hk=>hk.2)⟩,⟨Q77⟩⟩
    case round =>
     clear H'
     try clear p2
     try clear c4
     try clear c4b0
     try clear c5
     try clear c5b0
     try clear p5
     try clear q5
     try clear hx5
     try clear p6
     try clear c8
     try clear hx506_0
     try clear hx506_1
     try clear hx506_2
     try clear hx506_3
     try clear hx506_4
     try clear p2
     try clear p506
     try clear q506
     obtain ⟨x5_2,x6_2,rfl,HA,HK2,HO_3,HO_5,HB⟩:=hrel
     cases gk with
     | zero=>exact absurd HA.out (by simp [spec_l2Sum.l1])
     | succ k2 =>
      have H:=HA.out
      clear HA
      simp only [spec_l2Sum.l1] at H
      by_cases c11 : x6_2 < (x3_1.length : Int)
      ·rw [if_pos c11] at H
       have c11b0 : decide (x6_2 < (x3_1.length : Int)) = true:=decide_eq_true c11
       clear c11
       have c12 : 0 ≤ x6_2:=nn_ H
       rw [if_pos c12] at H
       have c12b0 : decide (0 ≤ x6_2) = true:=decide_eq_true c12
       clear c12
       by_cases c13 : ((rd_T38 x3_1 x6_2).f3) = 0
       ·rw [if_pos c13] at H
        have c13b0 : (((rd_T38 x3_1 x6_2).f3) == 0) = true:=beq_iff_eq.mpr c13
        have c13b1 : (((rd_T38 x3_1 x6_2).f3) != 0) = false:=bne_eq_false_iff_eq.mpr c13
        clear c13
        have H':=Aside0.mk H
        clear H
        obtain ⟨Ao14,co14,eo14⟩:=Kd.R_slice HO_3.out
        subst eo14
        have p513 : 0 ≤ (x6_2 : Int):=of_decide_eq_true Q6
        have q513 : x6_2 < (x3_1.length : Int):=of_decide_eq_true Q6
        obtain ⟨ad513,e513,hx513_0,hx513_1,hx513_2,hx513_3,hx513_4⟩:=at_T38 (Kd.R_reads' HO_3.out).2.2 x6_2 p513 q513
        cases e513
        replace p513:=eq_true p513
        replace q513:=eq_true q513
        go_wp2
        go_roundg k2
        case measure=>have:=HK1.out;have:=HK2.out;omega
        case rel=>exact ⟨(x5_2),(wrap64 (x6_2 + 1)),Q5,H',⟨by have:=HK1.out;have:=HK2.out;omega⟩,⟨Q21⟩,⟨Q20⟩,⟨Q77⟩⟩
       ·rw [if_neg c13] at H
        have c13b0 : (((rd_T38 x3_1 x6_2).f3) == 0) = false:=beq_eq_false_iff_ne.mpr c13
        have c13b1 : (((rd_T38 x3_1 x6_2).f3) != 0) = true:=bne_iff_ne.mpr c13
        have c15 : x5_2.length < 3518437208883:=nn_ H
        rw [if_pos c15] at H
        have LMc15:=Aside0.mk c15
        clear c15
        obtain ⟨y515,hy_⟩ : ∃ y_ : List (S38),y_ = (x5_2 ++ [(⟨(rd_T38 x3_1 x6_2).f0,(rd_T38 x3_1 x6_2).f1,(⟨(rd_T38 x3_1 x6_2).f2.f0,(rd_T38 x3_1 x6_2).f2.f1⟩ : S36),(rd_T38 x3_1 x6_2).f3⟩ : S38)]):=⟨_,rfl⟩
        replace H : (spec_l2Sum.l1 k2 x3_1 y515 (wrap64 (x6_2 + 1))) = some r:=Q156
        have Ny515:=Aside0.mk hy_
        clear hy_
        have H':=Aside0.mk H
        clear H
        obtain ⟨Ao16,co16,eo16⟩:=Kd.R_slice HO_3.out
        subst eo16
        have p513 : 0 ≤ (x6_2 : Int):=of_decide_eq_true Q6
        have q513 : x6_2 < (x3_1.length : Int):=of_decide_eq_true Q6
        obtain ⟨ad513,e513,hx513_0,hx513_1,hx513_2,hx513_3,hx513_4⟩:=at_T38 (Kd.R_reads' HO_3.out).2.2 x6_2 p513 q513
        cases e513
        replace p513:=eq_true p513
        replace q513:=eq_true q513
        have p514 : 0 ≤ (x6_2 : Int):=of_decide_eq_true Q6
        have q514 : x6_2 < (x3_1.length : Int):=of_decide_eq_true Q6
        obtain ⟨ad514,e514,hx514_0,hx514_1,hx514_2,hx514_3,hx514_4⟩:=at_T38 (Kd.R_reads' HO_3.out).2.2 x6_2 p514 q514
        obtain rfl : ad513 = ad514:=(by injection e514)
        replace p514:=eq_true p514
        replace q514:=eq_true q514
        go_wp2_with (first|((with_reducible refine gate_builtin (b:=.append) (xs:=#[.tmp 33,.tmp 38]) rfl ?_);at_builtin;refine Kd.R_append k38 (w0:=w) w.heap.size rfl (.tmp 33) (.tmp 38) 23 38 (.agg #[(.int .i64 0),(.int .i64 0),(.int .i64 0),(.int .i64 0),(.int .i64 0)]) 40 rfl Try.underlying23 info38 rfl Q0 (by omega) u5 x5_2 (⟨(rd_T38 x3_1 x6_2).f0,(rd_T38 x3_1 x6_2).f1,(⟨(rd_T38 x3_1 x6_2).f2.f0,(rd_T38 x3_1 x6_2).f2.f1⟩ : S36),(rd_T38 x3_1 x6_2).f3⟩ : S38) [.int .i64 ((rd_T38 x3_1 x6_2).f0),.int .i64 ((rd_T38 x3_1 x6_2).f1),.int .i64 ((rd_T38 x3_1 x6_2).f2.f0),.int .i64 ((rd_T38 x3_1 x6_2).f2.f1),.int .i64 ((rd_T38 x3_1 x6_2).f3)] (fun k_=>some k_ ≠ (.slice (some ad513) x3_1.length co16 : Value).ownBlock) (fun _=>False) rfl rfl ?aP (fun _ hk=>hk.elim) ?aF ?aO ?aB ?aS ?aL ?_;(case aP=>exact k38_mkM _ _ _ (⟨(rd_T38 x3_1 x6_2).f0,(rd_T38 x3_1 x6_2).f1,(⟨(rd_T38 x3_1 x6_2).f2.f0,(rd_T38 x3_1 x6_2).f2.f1⟩ : S36),(rd_T38 x3_1 x6_2).f3⟩ : S38));(case aB=>exact Q77);(case aF=>exact (fun k_ hk=>Kd.fresh' (Kd.R_lt Q21) k_ hk));(case aO=>exact Q20);(case aS=>exact (below_size Q77));(case aL=>have:=LMc15.out;omega);intro v516 w17 ho hb hg hat;rw [← Ny515.out] at ho;have n0_:=am (Kd.R_after (ok:=(fun _=>True)) (by (with_reducible repeat (first|apply Kd.R_alloc|apply Kd.R_drewN|apply Kd.R_drew));exact Kd.R_mono HO_3.out (fun _ hk=>⟨trivial,hk⟩)) hg hat);have n1_:=am (hb);have n2_:=am (ho);clear HO_3 HB HO_5;have HO_3:=n0_;have HB:=n1_;have HO517:=n2_;clear n0_ n1_ n2_;clear ho hb hg hat))
        go_roundg k2
        case measure=>have:=HK1.out;have:=HK2.out;omega
        case rel=>exact ⟨(y515),(wrap64 (x6_2 + 1)),Q5,H',⟨by have:=HK1.out;have:=HK2.out;omega⟩,⟨by (with_reducible repeat (first|apply Kd.R_alloc|apply Kd.R_drewN|apply Kd.R_drew));exact Kd.R_mono HO_3.out (fun _ hk=>hk.2)⟩,⟨by (with_reducible repeat (first|apply Kd.R_alloc|apply Kd.R_drewN|apply Kd.R_drew));exact HO517.out⟩,⟨Q77⟩⟩
      ·rw [if_neg c11] at H
       have c11b0 : decide (x6_2 < (x3_1.length : Int)) = false:=decide_eq_false c11
       clear c11
       obtain rfl:=Option.some.inj H
       obtain ⟨Ao18,co18,eo18⟩:=Kd.R_slice HO_3.out
       subst eo18
       go_wp2
       go_ret
       exact ⟨_,Q17,by (with_reducible repeat (first|apply Kd.R_alloc|apply Kd.R_drewN|apply Kd.R_drew));exact Kd.R_mono HO_5.out (fun _ hk=>trivial),Q77⟩
mutual
def spec_BatchMove.j0 : Nat → List (S38) → List (S36) → List (S38) → Bool → Option ((List (S38)))
 | 0, _, _, _, _ => none
 | k + 1, x0, x1, x5, x16 => if x16 = true then (some x5) else (spec_BatchMove.l0 k x0 x1 x5 0)
def spec_BatchMove.l0 : Nat → List (S38) → List (S36) → List (S38) → Int → Option ((List (S38)))
 | 0, _, _, _, _ => none
 | k + 1, x0, x1, x5, x6 => if x6 < (x0.length : Int) then (if 0 ≤ x6 then ((spec_FrontMove.f k x1 ((rd_T38 x0 x6).f2.f0) ((rd_T38 x0 x6).f2.f1)).bind fun bt525 => (if x5.length < 3518437208883 then (spec_BatchMove.l0 k x0 x1 (x5 ++ [(⟨(rd_T38 x0 x6).f0, (rd_T38 x0 x6).f1, (⟨bt525.1, bt525.2⟩ : S36), (rd_T38 x0 x6).f3⟩ : S38)]) (wrap64 (x6 + 1))) else (none))) else (none)) else ((spec_l2Sum.f k x5).bind fun t530 => ((spec_l2Fit.f k t530).bind fun t533 => (some t533)))
end
def spec_BatchMove.f (k : Nat) (l0 : List (S38)) (l1 : List (S36)) : Option ((List (S38))) := (some (([] : List (S38)) : List (S38))).bind fun y518 => ((spec_RowsOk.f k l0).bind fun t521 => (if t521 = true then ((spec_FrontOk.f k l1).bind fun t522 => (spec_BatchMove.j0 k l0 l1 y518 (!t522))) else (spec_BatchMove.j0 k l0 l1 y518 true)))
set_option maxHeartbeats 8000000 in
set_option maxRecDepth 100000 in
theorem spec_BatchMove.calls (k : Nat) (A0 : Option Addr) (c0 : Nat) (l0 : List (S38)) (A1 : Option Addr) (c1 : Nat) (l1 : List (S36)) (r : List (S38)) (w : World) (hr0 : Kd.C k38 w A0 l0.length l0) (hc0 : l0.length ≤ c0) (hr1 : Kd.C k36 w A1 l1.length l1) (hc1 : l1.length ≤ c1) (h : spec_BatchMove.f k l0 l1 = some r) :
  Calls Try.prog 19 #[.slice A0 l0.length c0,.slice A1 l1.length c1] w fun e w'=>∃ v0_ : Value,e = .returned (v0_) ∧ Kd.R k38 38 w' w.heap.size (fun _=>True) v0_ r ∧ Below w.heap.size w w':=by
 have hu38:=Try.underlying38
 have hu36:=Try.underlying36
 have HR0:=Aside0.mk hr0
 have HC0:=Aside0.mk hc0
 clear hr0 hc0
 have HR1:=Aside0.mk hr1
 have HC1:=Aside0.mk hc1
 clear hr1 hc1
 have HB:=am (Below.refl w.heap.size w)
 have H : ((some (([] : List (S38)) : List (S38))).bind fun y518=>((spec_RowsOk.f k l0).bind fun t521=>(if t521 = true then ((spec_FrontOk.f k l1).bind fun t522=>(spec_BatchMove.j0 k l0 l1 y518 (!t522))) else (spec_BatchMove.j0 k l0 l1 y518 true)))) = some r:=h
 clear h
 obtain ⟨y518,hy_⟩ : ∃ y_ : List (S38),y_ = (([] : List (S38))):=⟨_,rfl⟩
 replace H : ((spec_RowsOk.f k l0).bind fun t521=>(if t521 = true then ((spec_FrontOk.f k l1).bind fun t522=>(spec_BatchMove.j0 k l0 l1 y518 (!t522))) else (spec_BatchMove.j0 k l0 l1 y518 true))) = some r:=Q156
 have Ny518:=Aside0.mk hy_
 clear hy_
 have HC3:=Aside0.mk H
 clear H
 go_enter Try.func19,Try.ntmps19
 go_upto_region 2 with (first|((with_reducible refine gate_dst (N:=8) rfl ?_);refine Kd.R_lit k38 _ 38 ?hg (N:=8) ?hd (xs:=([] : List (S38))) (inner:=[]) (ok:=fun _=>True) (okp:=fun _=>True) ?hr ?hp (fun _ hk=>hk) trivial (Below.refl _ _) (Nat.le_refl _) (by simp) ?_;(case hd=>rfl);(case hg=>rfl);(case hr=>first|(go_simp;done)|(go_simp;rfl));(case hp=>exact (Reps.none _ _));intro v519 w4 ho5 hb hg_ hnew_;clear hg_ hnew_;(first|rw [← Ny518.out] at ho5|(simp only [Int.reduceToNat] at ho5;rw [← Ny518.out] at ho5));have n0_:=am (Kd.R_lower ho5 (below_size Q77));have n1_:=am (below_step Q77 hb);clear HB;have HO520:=n0_;have HB:=n1_;clear n0_ n1_;clear hb ho5))
 (try simp only [Act.put,sA_,sZ_,sS_])
 go_cut [16] (fun v16 wc=>∃ (kq : Nat) (x16_2 : Bool),v16 = .bool x16_2 ∧ Aside0 (spec_BatchMove.j0 kq l0 l1 y518 x16_2 = some r) ∧ Aside0 (kq ≤ k) ∧ Aside0 (Kd.R k38 38 wc w.heap.size (fun _=>True) v519 y518) ∧ Aside0 (Below w.heap.size w wc))
 case first =>
  have H:=HC3.out
  clear HC3
  replace H:=Option.bind_eq_some_iff.mp H
  obtain ⟨t521,A60,H⟩:=H
  replace H : (if t521 = true then ((spec_FrontOk.f k l1).bind fun t522=>(spec_BatchMove.j0 k l0 l1 y518 (!t522))) else (spec_BatchMove.j0 k l0 l1 y518 true)) = some r:=H
  have A6:=Aside0.mk A60
  clear A60
  by_cases c7 : t521 = true
  ·subst c7
   have H1 : ((spec_FrontOk.f k l1).bind fun t522=>(spec_BatchMove.j0 k l0 l1 y518 (!t522))) = some r:=by rw [if_pos rfl] at H;exact H
   clear H
   have H:=H1
   clear H1
   replace H:=Option.bind_eq_some_iff.mp H
   obtain ⟨t522,A80,H⟩:=H
   replace H : (spec_BatchMove.j0 k l0 l1 y518 (!t522)) = some r:=H
   have A8:=Aside0.mk A80
   clear A80
   have H':=Aside0.mk H
   clear H
   go_wp2_with (first|((with_reducible refine gate_callee (f:=20) rfl ?_);refine goesL_ (some 10) rfl rfl Try.func20 Q1 rfl #[.slice A0 l0.length c0] rfl Q79 ?_;(with_reducible refine (spec_RowsOk.calls k _ _ l0 true _ ?side1 ?side2 A6.out).mono ?_);(case side1=>exact Q109);(case side2=>exact HC0.out);rintro e w9 ⟨rfl,hb⟩;refine ⟨_,rfl,?_⟩;have n0_:=am (Kd.R_below Q32 hb);have n1_:=am (below_step Q77 hb);clear HO520 HB;have HO520:=n0_;have HB:=n1_;clear n0_ n1_;(try clear hb);(try clear hb2);(try clear hk);(try clear hi))|(go_at_call 21;(with_reducible refine (spec_FrontOk.calls k _ _ l1 t522 _ ?side1 ?side2 A8.out).mono ?_);(case side1=>exact Q110);(case side2=>exact HC1.out);rintro e w10 ⟨rfl,hb⟩;have n0_:=am (Kd.R_below Q32 hb);have n1_:=am (below_step Q77 hb);clear HO520 HB;have HO520:=n0_;have HB:=n1_;clear n0_ n1_;(try clear hb);(try clear hb2);(try clear hk);(try clear hi)))
   go_meet
   case rel=>exact ⟨_,(!t522),Q5,H',⟨Q3⟩,⟨Q32⟩,⟨Q77⟩⟩
  ·replace c7:=Bool.eq_false_iff.mpr c7
   subst c7
   have H1 : (spec_BatchMove.j0 k l0 l1 y518 true) = some r:=by rw [if_neg (show ¬ (false = true) by decide)] at H;exact H
   clear H
   have H:=H1
   clear H1
   have H':=Aside0.mk H
   clear H
   go_wp2_with (first|((with_reducible refine gate_callee (f:=20) rfl ?_);refine goesL_ (some 10) rfl rfl Try.func20 Q1 rfl #[.slice A0 l0.length c0] rfl Q79 ?_;(with_reducible refine (spec_RowsOk.calls k _ _ l0 false _ ?side1 ?side2 A6.out).mono ?_);(case side1=>exact Q109);(case side2=>exact HC0.out);rintro e w11 ⟨rfl,hb⟩;refine ⟨_,rfl,?_⟩;have n0_:=am (Kd.R_below Q32 hb);have n1_:=am (below_step Q77 hb);clear HO520 HB;have HO520:=n0_;have HB:=n1_;clear n0_ n1_;(try clear hb);(try clear hb2);(try clear hk);(try clear hi)))
   go_meet
   case rel=>exact ⟨_,(true),Q5,H',⟨Q3⟩,⟨Q32⟩,⟨Q77⟩⟩
 case rest =>
  clear HC3
  try clear c1
  try clear c2
  try clear p2
  try clear c7
  obtain ⟨kq,x16_2,rfl,HA,HJ2,HO_5,HB⟩:=hcut
  cases kq with
  | zero=>exact absurd HA.out (by simp [spec_BatchMove.j0])
  | succ kj2 =>
   have H:=HA.out
   clear HA
   simp only [spec_BatchMove.j0] at H
   by_cases c12 : x16_2 = true
   ·subst c12
    have H1 : (some y518) = some r:=by rw [if_pos rfl] at H;exact H
    clear H
    have H:=H1
    clear H1
    obtain rfl:=Option.some.inj H
    go_wp2
    go_ret
    exact ⟨_,Q17,Q20,Q77⟩
   ·replace c12:=Bool.eq_false_iff.mpr c12
    subst c12
    have H1 : (spec_BatchMove.l0 kj2 l0 l1 y518 0) = some r:=by rw [if_neg (show ¬ (false = true) by decide)] at H;exact H
    clear H
    have H:=H1
    clear H1
    have H':=Aside0.mk H
    clear H
    go_wp2
    go_loopg [5,6] kj2 (fun kq v5 v6 w'=>∃ (x5_2 : List (S38)) (x6_2 : Int),v6 = .int .i64 x6_2 ∧ Aside0 (spec_BatchMove.l0 kq l0 l1 x5_2 x6_2 = some r) ∧ Aside0 (kq ≤ kj2) ∧ Aside0 (Kd.R k38 38 w' w.heap.size (fun _=>True) v5 x5_2) ∧ Aside0 (Below w.heap.size w w'))
    case atStart=>exact ⟨(y518),(0),Q5,H',⟨Nat.le_refl _⟩,⟨Q20⟩,⟨Q77⟩⟩
    case round =>
     clear H'
     try clear c1
     try clear c2
     try clear p2
     try clear c7
     try clear c12
     try clear p2
     obtain ⟨x5_2,x6_2,rfl,HA,HK2,HO_5,HB⟩:=hrel
     cases gk with
     | zero=>exact absurd HA.out (by simp [spec_BatchMove.l0])
     | succ k2 =>
      have H:=HA.out
      clear HA
      simp only [spec_BatchMove.l0] at H
      by_cases c13 : x6_2 < (l0.length : Int)
      ·rw [if_pos c13] at H
       have c13b0 : decide (x6_2 < (l0.length : Int)) = true:=decide_eq_true c13
       clear c13
       have c14 : 0 ≤ x6_2:=nn_ H
       rw [if_pos c14] at H
       have c14b0 : decide (0 ≤ x6_2) = true:=decide_eq_true c14
       clear c14
       replace H:=Option.bind_eq_some_iff.mp H
       obtain ⟨⟨t525,t526⟩,A150,H⟩:=H
       replace H : (if x5_2.length < 3518437208883 then (spec_BatchMove.l0 k2 l0 l1 (x5_2 ++ [(⟨(rd_T38 l0 x6_2).f0,(rd_T38 l0 x6_2).f1,(⟨t525,t526⟩ : S36),(rd_T38 l0 x6_2).f3⟩ : S38)]) (wrap64 (x6_2 + 1))) else (none)) = some r:=H
       have A15:=Aside0.mk A150
       clear A150
       have c16 : x5_2.length < 3518437208883:=nn_ H
       rw [if_pos c16] at H
       have LMc16:=Aside0.mk c16
       clear c16
       obtain ⟨y527,hy_⟩ : ∃ y_ : List (S38),y_ = (x5_2 ++ [(⟨(rd_T38 l0 x6_2).f0,(rd_T38 l0 x6_2).f1,(⟨t525,t526⟩ : S36),(rd_T38 l0 x6_2).f3⟩ : S38)]):=⟨_,rfl⟩
       replace H : (spec_BatchMove.l0 k2 l0 l1 y527 (wrap64 (x6_2 + 1))) = some r:=Q156
       have Ny527:=Aside0.mk hy_
       clear hy_
       have H':=Aside0.mk H
       clear H
       have p523 : 0 ≤ (x6_2 : Int):=of_decide_eq_true Q6
       have q523 : x6_2 < (l0.length : Int):=of_decide_eq_true Q6
       obtain ⟨ad523,e523,hx523_0,hx523_1,hx523_2,hx523_3,hx523_4⟩:=at_T38 HR0.out x6_2 p523 q523
       cases e523
       replace hx523_0:=cb_ HB hx523_0
       replace hx523_1:=cb_ HB hx523_1
       replace hx523_2:=cb_ HB hx523_2
       replace hx523_3:=cb_ HB hx523_3
       replace hx523_4:=cb_ HB hx523_4
       replace p523:=eq_true p523
       replace q523:=eq_true q523
       go_wp2_with (first|((with_reducible refine gate_dst (N:=7) rfl ?_);refine box_event ?hg (N:=7) ?hd (cs:=#[.int .i64 0,.int .i64 0,.int .i64 0,.int .i64 0,.int .i64 0]) (t:=38) ?hr ?_;(case hd=>rfl);(case hg=>rfl);(case hr=>first|(go_simp;done)|(go_simp;rfl));intro gb524 hg w17 hbox hb;have n0_:=am (Kd.R_below (Kd.R_elderB Q20 gb524 (Nat.le_of_eq hg.symm)) hb);have n1_:=am (below_step Q77 hb);have n2_:=am (hbox);have n3_:=am ((Q167 : w.heap.size ≤ gb524));have n4_:=n3_;clear HO_5 HB;have HO_5:=n0_;have HB:=n1_;have BK524:=n2_;have GW524:=n3_;have GE524:=n4_;clear n0_ n1_ n2_ n3_ n4_;clear hb hbox hg;obtain ⟨hcz18_0,hcz18_1,hcz18_2,hcz18_3,hcz18_4,hfz18_0,hfz18_1,hfz18_2,hfz18_3,hfz18_4⟩:=bx5_ BK524)|((with_reducible refine gate_callee (f:=56) rfl ?_);refine goesL_ (some 31) rfl rfl Try.func56 Q1 rfl #[.slice A1 l1.length c1,.agg #[.int .i64 ((rd_T38 l0 x6_2).f2.f0),.int .i64 ((rd_T38 l0 x6_2).f2.f1)]] rfl Q79 ?_;(with_reducible refine (spec_FrontMove.calls k2 _ _ l1 ((rd_T38 l0 x6_2).f2.f0) ((rd_T38 l0 x6_2).f2.f1) t525 t526 _ ?side1 ?side2 A15.out).mono ?_);(case side1=>exact Kd.C_below HR1.out Q105);(case side2=>exact HC1.out);rintro e w19 ⟨rfl,hb⟩;refine ⟨_,rfl,?_⟩;have n0_:=am (Kd.R_below (by (with_reducible repeat (first|apply Kd.R_alloc|apply Kd.R_drewN|apply Kd.R_drew));exact (Kd.R_mono (Kd.R_far (p:=⟨gb524,4,none⟩) (Kd.R_far (p:=⟨gb524,3,none⟩) (Kd.R_far (p:=⟨gb524,2,none⟩) (Kd.R_far (p:=⟨gb524,1,none⟩) (Kd.R_far (p:=⟨gb524,0,none⟩) (Kd.R_mono HO_5.out (fun k_ hk=>(⟨hk,hk.2⟩ : _ ∧ k_ ≠ gb524))) (fun _ hk=>hk.2) (.int .i64 ((rd_T38 l0 x6_2).f0))) (fun _ hk=>hk.2) (.int .i64 ((rd_T38 l0 x6_2).f1))) (fun _ hk=>hk.2) (.int .i64 ((rd_T38 l0 x6_2).f2.f0))) (fun _ hk=>hk.2) (.int .i64 ((rd_T38 l0 x6_2).f2.f1))) (fun _ hk=>hk.2) (.int .i64 ((rd_T38 l0 x6_2).f3))) (fun _ h_=>h_.1))) hb);have n1_:=am (blk_below (g:=gb524) (o:=.cells #[.int .i64 ((rd_T38 l0 x6_2).f0),.int .i64 ((rd_T38 l0 x6_2).f1),.int .i64 ((rd_T38 l0 x6_2).f2.f0),.int .i64 ((rd_T38 l0 x6_2).f2.f1),.int .i64 ((rd_T38 l0 x6_2).f3)] 38 (0,0)) (by (with_reducible repeat (first|refine blk_drewN ?_ _|refine blk_drew ?_|refine blk_alloc ?_ _));refine blk_put (cs:=#[.int .i64 ((rd_T38 l0 x6_2).f0),.int .i64 ((rd_T38 l0 x6_2).f1),.int .i64 ((rd_T38 l0 x6_2).f2.f0),.int .i64 ((rd_T38 l0 x6_2).f2.f1),.int .i64 0]) ?_ 4 _ rfl;(with_reducible repeat (first|refine blk_drewN ?_ _|refine blk_drew ?_|refine blk_alloc ?_ _));refine blk_put (cs:=#[.int .i64 ((rd_T38 l0 x6_2).f0),.int .i64 ((rd_T38 l0 x6_2).f1),.int .i64 ((rd_T38 l0 x6_2).f2.f0),.int .i64 0,.int .i64 0]) ?_ 3 _ rfl;(with_reducible repeat (first|refine blk_drewN ?_ _|refine blk_drew ?_|refine blk_alloc ?_ _));refine blk_put (cs:=#[.int .i64 ((rd_T38 l0 x6_2).f0),.int .i64 ((rd_T38 l0 x6_2).f1),.int .i64 0,.int .i64 0,.int .i64 0]) ?_ 2 _ rfl;(with_reducible repeat (first|refine blk_drewN ?_ _|refine blk_drew ?_|refine blk_alloc ?_ _));refine blk_put (cs:=#[.int .i64 ((rd_T38 l0 x6_2).f0),.int .i64 0,.int .i64 0,.int .i64 0,.int .i64 0]) ?_ 1 _ rfl;(with_reducible repeat (first|refine blk_drewN ?_ _|refine blk_drew ?_|refine blk_alloc ?_ _));refine blk_put (cs:=#[.int .i64 0,.int .i64 0,.int .i64 0,.int .i64 0,.int .i64 0]) ?_ 0 _ rfl;(with_reducible repeat (first|refine blk_drewN ?_ _|refine blk_drew ?_|refine blk_alloc ?_ _));exact BK524.out) hb);have n2_:=am (below_step Q105 hb);clear HO_5 BK524 HB;have HO_5:=n0_;have BK524:=n1_;have HB:=n2_;clear n0_ n1_ n2_;(try clear hb);(try clear hb2);(try clear hk);(try clear hi);obtain ⟨hcz20_0,hcz20_1,hcz20_2,hcz20_3,hcz20_4,hfz20_0,hfz20_1,hfz20_2,hfz20_3,hfz20_4⟩:=bx5_ BK524)|((with_reducible refine gate_builtin (b:=.append) (xs:=#[.tmp 33,.tmp 35]) rfl ?_);at_builtin;refine Kd.R_append k38 (w0:=w) w.heap.size rfl (.tmp 33) (.tmp 35) 23 38 (.agg #[(.int .i64 0),(.int .i64 0),(.int .i64 0),(.int .i64 0),(.int .i64 0)]) 40 rfl Try.underlying23 info38 rfl Q0 (by omega) u5 x5_2 (⟨(rd_T38 l0 x6_2).f0,(rd_T38 l0 x6_2).f1,(⟨t525,t526⟩ : S36),(rd_T38 l0 x6_2).f3⟩ : S38) [.int .i64 ((rd_T38 l0 x6_2).f0),.int .i64 ((rd_T38 l0 x6_2).f1),.int .i64 t525,.int .i64 t526,.int .i64 ((rd_T38 l0 x6_2).f3)] (fun k_=>k_ ≠ gb524) (fun _=>False) rfl (by first|(go_simp;done)|(go_simp;rfl)) ?aP (fun _ hk=>hk.elim) ?aF ?aO ?aB ?aS ?aL ?_;(case aP=>exact k38_mkM _ _ _ (⟨(rd_T38 l0 x6_2).f0,(rd_T38 l0 x6_2).f1,(⟨t525,t526⟩ : S36),(rd_T38 l0 x6_2).f3⟩ : S38));(case aB=>exact Q105);(case aF=>exact (fun k_ hk=>Kd.freshB (g:=gb524) (o:=.cells #[.int .i64 ((rd_T38 l0 x6_2).f0),.int .i64 ((rd_T38 l0 x6_2).f1),.int .i64 t525,.int .i64 t526,.int .i64 ((rd_T38 l0 x6_2).f3)] 38 (0,0)) (by (with_reducible repeat (first|refine blk_drewN ?_ _|refine blk_drew ?_|refine blk_alloc ?_ _));refine blk_put (cs:=#[.int .i64 ((rd_T38 l0 x6_2).f0),.int .i64 ((rd_T38 l0 x6_2).f1),.int .i64 t525,.int .i64 ((rd_T38 l0 x6_2).f2.f1),.int .i64 ((rd_T38 l0 x6_2).f3)]) ?_ 3 _ rfl;(with_reducible repeat (first|refine blk_drewN ?_ _|refine blk_drew ?_|refine blk_alloc ?_ _));refine blk_put (cs:=#[.int .i64 ((rd_T38 l0 x6_2).f0),.int .i64 ((rd_T38 l0 x6_2).f1),.int .i64 ((rd_T38 l0 x6_2).f2.f0),.int .i64 ((rd_T38 l0 x6_2).f2.f1),.int .i64 ((rd_T38 l0 x6_2).f3)]) ?_ 2 _ rfl;(with_reducible repeat (first|refine blk_drewN ?_ _|refine blk_drew ?_|refine blk_alloc ?_ _));exact BK524.out) k_ hk));(case aO=>exact (by (with_reducible repeat (first|apply Kd.R_alloc|apply Kd.R_drewN|apply Kd.R_drew));exact Kd.R_mono (Kd.R_far (p:=⟨gb524,3,none⟩) (Kd.R_far (p:=⟨gb524,2,none⟩) (Kd.R_mono HO_5.out (fun k_ hk=>(⟨hk,hk.2⟩ : _ ∧ k_ ≠ gb524))) (fun _ hk=>hk.2) (.int .i64 t525)) (fun _ hk=>hk.2) (.int .i64 t526)) (fun _ hk=>hk.1.2)));(case aS=>exact (below_size Q105));(case aL=>have:=LMc16.out;omega);intro v528 w21 ho hb hg hat;rw [← Ny527.out] at ho;have n0_:=am (blk_grown (g:=gb524) (o:=.cells #[.int .i64 ((rd_T38 l0 x6_2).f0),.int .i64 ((rd_T38 l0 x6_2).f1),.int .i64 t525,.int .i64 t526,.int .i64 ((rd_T38 l0 x6_2).f3)] 38 (0,0)) (by (with_reducible repeat (first|refine blk_drewN ?_ _|refine blk_drew ?_|refine blk_alloc ?_ _));refine blk_put (cs:=#[.int .i64 ((rd_T38 l0 x6_2).f0),.int .i64 ((rd_T38 l0 x6_2).f1),.int .i64 t525,.int .i64 ((rd_T38 l0 x6_2).f2.f1),.int .i64 ((rd_T38 l0 x6_2).f3)]) ?_ 3 _ rfl;(with_reducible repeat (first|refine blk_drewN ?_ _|refine blk_drew ?_|refine blk_alloc ?_ _));refine blk_put (cs:=#[.int .i64 ((rd_T38 l0 x6_2).f0),.int .i64 ((rd_T38 l0 x6_2).f1),.int .i64 ((rd_T38 l0 x6_2).f2.f0),.int .i64 ((rd_T38 l0 x6_2).f2.f1),.int .i64 ((rd_T38 l0 x6_2).f3)]) ?_ 2 _ rfl;(with_reducible repeat (first|refine blk_drewN ?_ _|refine blk_drew ?_|refine blk_alloc ?_ _));exact BK524.out) hg (Kd.R_away HO_5.out (fun _ hk=>hk.2)));have n1_:=am (hb);have n2_:=am (ho);clear BK524 HB HO_5;have BK524:=n0_;have HB:=n1_;have HO529:=n2_;clear n0_ n1_ n2_;clear ho hb hg hat))
       go_roundg k2
       case measure=>have:=HJ2.out;have:=HK2.out;omega
       case rel=>exact ⟨(y527),(wrap64 (x6_2 + 1)),Q5,H',⟨by have:=HJ2.out;have:=HK2.out;omega⟩,⟨by (with_reducible repeat (first|apply Kd.R_alloc|apply Kd.R_drewN|apply Kd.R_drew));exact Kd.R_mono HO529.out (fun _ hk=>trivial)⟩,⟨Q105⟩⟩
      ·rw [if_neg c13] at H
       have c13b0 : decide (x6_2 < (l0.length : Int)) = false:=decide_eq_false c13
       clear c13
       replace H:=Option.bind_eq_some_iff.mp H
       obtain ⟨t530,A220,H⟩:=H
       replace H : ((spec_l2Fit.f k2 t530).bind fun t533=>(some t533)) = some r:=H
       have A22:=Aside0.mk A220
       clear A220
       replace H:=Option.bind_eq_some_iff.mp H
       obtain ⟨t533,A230,H⟩:=H
       replace H : (some t533) = some r:=H
       have A23:=Aside0.mk A230
       clear A230
       obtain rfl:=Option.some.inj H
       obtain ⟨Ao24,co24,eo24⟩:=Kd.R_slice HO_5.out
       subst eo24
       go_wp2_with (first|((with_reducible refine gate_callee (f:=58) rfl ?_);refine goesL_ (some 38) rfl rfl Try.func58 Q1 rfl #[.slice Ao24 x5_2.length co24] rfl Q79 ?_;(with_reducible refine (spec_l2Sum.calls k2 _ _ x5_2 t530 _ ?side1 ?side2 A22.out).mono ?_);(case side1=>exact Q106);(case side2=>exact (Kd.R_reads' HO_5.out).2.1);rintro e w25 ⟨v531,rfl,ho0,hb⟩;refine ⟨_,rfl,?_⟩;have n0_:=am (Kd.R_elder' Q20 (Kd.R_base ho0) hb);have n1_:=am (Kd.R_lower (Kd.R_new' ho0 (Kd.R_lt Q20)) (below_size Q77));have n2_:=am (below_step Q77 hb);clear HO_5 HB;have HO_5:=n0_;have HO532:=n1_;have HB:=n2_;clear n0_ n1_ n2_;(try clear hb);(try clear hb2);(try clear hk);(try clear hi);(try clear ho0);obtain ⟨Ao26,co26,eo26⟩:=Kd.R_slice HO532.out;subst eo26)|((with_reducible refine gate_callee (f:=57) rfl ?_);refine goesL_ (some 39) rfl rfl Try.func57 Q1 rfl #[.slice Ao26 t530.length co26] rfl Q79 ?_;(with_reducible refine (spec_l2Fit.calls k2 (fun k_=>some k_ = (.slice Ao26 t530.length co26 : Value).ownBlock) (.slice Ao26 t530.length co26) t530 t533 w _ ?side1 ?side2 A23.out).mono ?_);(case side1=>exact Q77);(case side2=>exact Kd.R_tight rfl HO532.out);rintro e w27 ⟨v534,rfl,ho0,hb,hkp⟩;refine ⟨_,rfl,?_⟩;have n0_:=am (Kd.R_mono (ok':=fun k_=>some k_ ≠ (v534 : Value).ownBlock) (Kd.R_keptB (HO_5.out) hkp (fun k_ hk_ hs_=>(hk_.2) hs_)) (fun k_ hk_=>fun e_=>Or.elim (ho0.1 k_ e_.symm) (fun hs_=>hk_.2.1 hs_) (fun hn_=>Nat.not_le.2 hk_.2.2 hn_)));have n1_:=am (Kd.R_mono (ok':=fun k_=>some k_ ≠ (.slice Ao24 x5_2.length co24 : Value).ownBlock) ho0 (fun k_ hk_=>Or.elim hk_ (fun hs_=>fun e_=>(((HO_5.out).1 k_ e_.symm).2) hs_) (fun hn_=>(Kd.fresh' (Kd.R_lt Q20) k_ hn_))));have n2_:=am (hb);clear HO_5 HB HO532;have HO_5:=n0_;have HO535:=n1_;have HB:=n2_;clear n0_ n1_ n2_;(try clear hb);(try clear hkp);(try clear ho0)))
       go_ret
       exact ⟨_,Q17,by (with_reducible repeat (first|apply Kd.R_alloc|apply Kd.R_drewN|apply Kd.R_drew));exact Kd.R_mono HO535.out (fun _ hk=>trivial),Q77⟩
def impl_together.f (l0 : List (S38)) (l1 : List (S38)) : Option ((List (S38))) := (some (([] : List (S38)) : List (S38))).bind fun y536 => (if y536.length + l0.length < 3518437208883 then ((some (y536 ++ l0 : List (S38))).bind fun y539 => (if y539.length + l1.length < 3518437208883 then (some (y539 ++ l1)) else (none))) else (none))
set_option maxHeartbeats 8000000 in
set_option maxRecDepth 100000 in
theorem impl_together.calls (A0 : Option Addr) (c0 : Nat) (l0 : List (S38)) (A1 : Option Addr) (c1 : Nat) (l1 : List (S38)) (r : List (S38)) (w : World) (hr0 : Kd.C k38 w A0 l0.length l0) (hc0 : l0.length ≤ c0) (hr1 : Kd.C k38 w A1 l1.length l1) (hc1 : l1.length ≤ c1) (h : impl_together.f l0 l1 = some r) :
  Calls Try.prog 61 #[.slice A0 l0.length c0,.slice A1 l1.length c1] w fun e w'=>∃ v0_ : Value,e = .returned (v0_) ∧ Kd.R k38 38 w' w.heap.size (fun _=>True) v0_ r ∧ Below w.heap.size w w':=by
 have HR0:=Aside0.mk hr0
 have HC0:=Aside0.mk hc0
 clear hr0 hc0
 have HR1:=Aside0.mk hr1
 have HC1:=Aside0.mk hc1
 clear hr1 hc1
 have HB:=am (Below.refl w.heap.size w)
 have H : ((some (([] : List (S38)) : List (S38))).bind fun y536=>(if y536.length + l0.length < 3518437208883 then ((some (y536 ++ l0 : List (S38))).bind fun y539=>(if y539.length + l1.length < 3518437208883 then (some (y539 ++ l1)) else (none))) else (none))) = some r:=h
 clear h
 obtain ⟨y536,hy_⟩ : ∃ y_ : List (S38),y_ = (([] : List (S38))):=⟨_,rfl⟩
 replace H : (if y536.length + l0.length < 3518437208883 then ((some (y536 ++ l0 : List (S38))).bind fun y539=>(if y539.length + l1.length < 3518437208883 then (some (y539 ++ l1)) else (none))) else (none)) = some r:=Q156
 have Ny536:=Aside0.mk hy_
 clear hy_
 have c3 : y536.length + l0.length < 3518437208883:=nn_ H
 rw [if_pos c3] at H
 have LMc3:=Aside0.mk c3
 clear c3
 obtain ⟨y539,hy_⟩ : ∃ y_ : List (S38),y_ = (y536 ++ l0):=⟨_,rfl⟩
 replace H : (if y539.length + l1.length < 3518437208883 then (some (y539 ++ l1)) else (none)) = some r:=Q156
 have Ny539:=Aside0.mk hy_
 clear hy_
 have c4 : y539.length + l1.length < 3518437208883:=nn_ H
 rw [if_pos c4] at H
 have LMc4:=Aside0.mk c4
 clear c4
 obtain ⟨y542,hy_⟩ : ∃ y_ : List (S38),y_ = (y539 ++ l1):=⟨_,rfl⟩
 replace H : (some y542) = some r:=Q156
 have Ny542:=Aside0.mk hy_
 clear hy_
 obtain rfl:=Option.some.inj H
 go_enter Try.func61,Try.ntmps61
 go_wp2_with (first|((with_reducible refine gate_dst (N:=5) rfl ?_);refine Kd.R_lit k38 _ 38 ?hg (N:=5) ?hd (xs:=([] : List (S38))) (inner:=[]) (ok:=fun _=>True) (okp:=fun _=>True) ?hr ?hp (fun _ hk=>hk) trivial (Below.refl _ _) (Nat.le_refl _) (by simp) ?_;(case hd=>rfl);(case hg=>rfl);(case hr=>first|(go_simp;done)|(go_simp;rfl));(case hp=>exact (Reps.none _ _));intro v537 w5 ho6 hb hg_ hnew_;clear hg_ hnew_;(first|rw [← Ny536.out] at ho6|(simp only [Int.reduceToNat] at ho6;rw [← Ny536.out] at ho6));have n0_:=am (Kd.R_lower ho6 (below_size Q77));have n1_:=am (below_step Q77 hb);clear HB;have HO538:=n0_;have HB:=n1_;clear n0_ n1_;clear hb ho6)|((with_reducible refine gate_builtin (b:=.append) (xs:=#[.tmp 5,.tmp 6]) rfl ?_);at_builtin;refine Kd.R_append_rows k38 (w0:=w) w.heap.size rfl (.tmp 5) (.tmp 6) 23 38 (.agg #[(.int .i64 0),(.int .i64 0),(.int .i64 0),(.int .i64 0),(.int .i64 0)]) 40 rfl Try.underlying23 info38 rfl Q0 (by omega) v537 y536 l0 _ _ _ (fun _=>True) (fun _=>False) rfl rfl ?aO ?aR (fun _ _ h=>h) (fun _ h=>h.elim) ?aF ?aB ?aS ?aL ?_;(case aR=>exact Q109);(case aB=>exact Q77);(case aF=>exact (fun _ _=>trivial));(case aO=>exact (by (with_reducible repeat (first|apply Kd.R_alloc|apply Kd.R_drewN|apply Kd.R_drew));exact HO538.out));(case aS=>exact (below_size Q77));(case aL=>have:=LMc3.out;omega);intro v540 w7 ho hb hg hat;rw [← Ny539.out] at ho;have n0_:=am (hb);have n1_:=am (ho);clear HB HO538;have HB:=n0_;have HO541:=n1_;clear n0_ n1_;clear ho hb hg hat)|((with_reducible refine gate_builtin (b:=.append) (xs:=#[.tmp 7,.tmp 8]) rfl ?_);at_builtin;refine Kd.R_append_rows k38 (w0:=w) w.heap.size rfl (.tmp 7) (.tmp 8) 23 38 (.agg #[(.int .i64 0),(.int .i64 0),(.int .i64 0),(.int .i64 0),(.int .i64 0)]) 40 rfl Try.underlying23 info38 rfl Q0 (by omega) v540 y539 l1 _ _ _ (fun _=>True) (fun _=>False) rfl rfl ?aO ?aR (fun _ _ h=>h) (fun _ h=>h.elim) ?aF ?aB ?aS ?aL ?_;(case aR=>exact Q110);(case aB=>exact Q77);(case aF=>exact (fun _ _=>trivial));(case aO=>exact (by (with_reducible repeat (first|apply Kd.R_alloc|apply Kd.R_drewN|apply Kd.R_drew));exact HO541.out));(case aS=>exact (below_size Q77));(case aL=>have:=LMc4.out;omega);intro v543 w8 ho hb hg hat;rw [← Ny542.out] at ho;have n0_:=am (hb);have n1_:=am (ho);clear HB HO541;have HB:=n0_;have HO544:=n1_;clear n0_ n1_;clear ho hb hg hat))
 go_ret
 exact ⟨_,Q17,by (with_reducible repeat (first|apply Kd.R_alloc|apply Kd.R_drewN|apply Kd.R_drew));exact HO544.out,Q77⟩
noncomputable def impl_BatchBoth.j0 : Nat → List (S38) → List (S38) → Bool → Option ((List (S38)))
 | 0, _, _, _ => none
 | k + 1, x0, x1, x14 => if x14 = true then (some ([] : List (S38))) else ((impl_together.f x0 x1).bind fun t547 => ((impl_batch.f k t547).bind fun bt550 => (some bt550.1)))
noncomputable def impl_BatchBoth.f (k : Nat) (l0 : List (S38)) (l1 : List (S38)) : Option ((List (S38))) := (impl_RowsOk.f k l0).bind fun t545 => (if t545 = true then ((impl_RowsOk.f k l1).bind fun t546 => (impl_BatchBoth.j0 k l0 l1 (!t546))) else (impl_BatchBoth.j0 k l0 l1 true))
set_option maxHeartbeats 8000000 in
set_option maxRecDepth 100000 in
theorem impl_BatchBoth.calls (k : Nat) (A0 : Option Addr) (c0 : Nat) (l0 : List (S38)) (A1 : Option Addr) (c1 : Nat) (l1 : List (S38)) (r : List (S38)) (w : World) (hr0 : Kd.C k38 w A0 l0.length l0) (hc0 : l0.length ≤ c0) (hr1 : Kd.C k38 w A1 l1.length l1) (hc1 : l1.length ≤ c1) (h : impl_BatchBoth.f k l0 l1 = some r) :
  Calls Try.prog 22 #[.slice A0 l0.length c0,.slice A1 l1.length c1] w fun e w'=>∃ v0_ : Value,e = .returned (v0_) ∧ Kd.R k38 38 w' w.heap.size (fun _=>True) v0_ r ∧ Below w.heap.size w w':=by
 have HR0:=Aside0.mk hr0
 have HC0:=Aside0.mk hc0
 clear hr0 hc0
 have HR1:=Aside0.mk hr1
 have HC1:=Aside0.mk hc1
 clear hr1 hc1
 have HB:=am (Below.refl w.heap.size w)
 have H : ((impl_RowsOk.f k l0).bind fun t545=>(if t545 = true then ((impl_RowsOk.f k l1).bind fun t546=>(impl_BatchBoth.j0 k l0 l1 (!t546))) else (impl_BatchBoth.j0 k l0 l1 true))) = some r:=h
 clear h
 have HC3:=Aside0.mk H
 clear H
 go_enter Try.func22,Try.ntmps22
 go_upto_region 1 with (fail)
 go_cut [14] (fun v14 wc=>∃ (kq : Nat) (x14_2 : Bool),v14 = .bool x14_2 ∧ Aside0 (impl_BatchBoth.j0 kq l0 l1 x14_2 = some r) ∧ Aside0 (kq ≤ k) ∧ Aside0 (Below w.heap.size w wc))
 case first =>
  have H:=HC3.out
  clear HC3
  replace H:=Option.bind_eq_some_iff.mp H
  obtain ⟨t545,A40,H⟩:=H
  replace H : (if t545 = true then ((impl_RowsOk.f k l1).bind fun t546=>(impl_BatchBoth.j0 k l0 l1 (!t546))) else (impl_BatchBoth.j0 k l0 l1 true)) = some r:=H
  have A4:=Aside0.mk A40
  clear A40
  by_cases c5 : t545 = true
  ·subst c5
   have H1 : ((impl_RowsOk.f k l1).bind fun t546=>(impl_BatchBoth.j0 k l0 l1 (!t546))) = some r:=by rw [if_pos rfl] at H;exact H
   clear H
   have H:=H1
   clear H1
   replace H:=Option.bind_eq_some_iff.mp H
   obtain ⟨t546,A60,H⟩:=H
   replace H : (impl_BatchBoth.j0 k l0 l1 (!t546)) = some r:=H
   have A6:=Aside0.mk A60
   clear A60
   have H':=Aside0.mk H
   clear H
   go_wp2_with (first|((with_reducible refine gate_callee (f:=39) rfl ?_);refine goesL_ (some 8) rfl rfl Try.func39 Q1 rfl #[.slice A0 l0.length c0] rfl Q79 ?_;(with_reducible refine (impl_RowsOk.calls k _ _ l0 true _ ?side1 ?side2 A4.out).mono ?_);(case side1=>exact Q109);(case side2=>exact HC0.out);rintro e w7 ⟨rfl,hb⟩;refine ⟨_,rfl,?_⟩;have n0_:=am (below_step Q77 hb);clear HB;have HB:=n0_;clear n0_;(try clear hb);(try clear hb2);(try clear hk);(try clear hi))|(go_at_call 39;(with_reducible refine (impl_RowsOk.calls k _ _ l1 t546 _ ?side1 ?side2 A6.out).mono ?_);(case side1=>exact Q110);(case side2=>exact HC1.out);rintro e w8 ⟨rfl,hb⟩;have n0_:=am (below_step Q77 hb);clear HB;have HB:=n0_;clear n0_;(try clear hb);(try clear hb2);(try clear hk);(try clear hi)))
   go_meet
   case rel=>exact ⟨_,(!t546),Q5,H',⟨Q3⟩,⟨Q77⟩⟩
  ·replace c5:=Bool.eq_false_iff.mpr c5
   subst c5
   have H1 : (impl_BatchBoth.j0 k l0 l1 true) = some r:=by rw [if_neg (show ¬ (false = true) by decide)] at H;exact H
   clear H
   have H:=H1
   clear H1
   have H':=Aside0.mk H
   clear H
   go_wp2_with (first|((with_reducible refine gate_callee (f:=39) rfl ?_);refine goesL_ (some 8) rfl rfl Try.func39 Q1 rfl #[.slice A0 l0.length c0] rfl Q79 ?_;(with_reducible refine (impl_RowsOk.calls k _ _ l0 false _ ?side1 ?side2 A4.out).mono ?_);(case side1=>exact Q109);(case side2=>exact HC0.out);rintro e w9 ⟨rfl,hb⟩;refine ⟨_,rfl,?_⟩;have n0_:=am (below_step Q77 hb);clear HB;have HB:=n0_;clear n0_;(try clear hb);(try clear hb2);(try clear hk);(try clear hi)))
   go_meet
   case rel=>exact ⟨_,(true),Q5,H',⟨Q3⟩,⟨Q77⟩⟩
 case rest =>
  clear HC3
  try clear c1
  try clear c2
  try clear p2
  try clear c3
  try clear c5
  obtain ⟨kq,x14_2,rfl,HA,HJ2,HB⟩:=hcut
  cases kq with
  | zero=>exact absurd HA.out (by simp [impl_BatchBoth.j0])
  | succ kj2 =>
   have H:=HA.out
   clear HA
   simp only [impl_BatchBoth.j0] at H
   by_cases c10 : x14_2 = true
   ·subst c10
    have H1 : (some ([] : List (S38))) = some r:=by rw [if_pos rfl] at H;exact H
    clear H
    have H:=H1
    clear H1
    obtain rfl:=Option.some.inj H
    go_wp2
    go_ret
    exact ⟨_,Q17,Q80,Q77⟩
   ·replace c10:=Bool.eq_false_iff.mpr c10
    subst c10
    have H1 : ((impl_together.f l0 l1).bind fun t547=>((impl_batch.f kj2 t547).bind fun bt550=>(some bt550.1))) = some r:=by rw [if_neg (show ¬ (false = true) by decide)] at H;exact H
    clear H
    have H:=H1
    clear H1
    replace H:=Option.bind_eq_some_iff.mp H
    obtain ⟨t547,A110,H⟩:=H
    replace H : ((impl_batch.f kj2 t547).bind fun bt550=>(some bt550.1)) = some r:=H
    have A11:=Aside0.mk A110
    clear A110
    replace H:=Option.bind_eq_some_iff.mp H
    obtain ⟨⟨t550,t551⟩,A120,H⟩:=H
    replace H : (some t550) = some r:=H
    have A12:=Aside0.mk A120
    clear A120
    obtain rfl:=Option.some.inj H
    go_wp2_with (first|((with_reducible refine gate_callee (f:=61) rfl ?_);refine goesL_ (some 18) rfl rfl Try.func61 Q1 rfl #[.slice A0 l0.length c0,.slice A1 l1.length c1] rfl Q79 ?_;(with_reducible refine (impl_together.calls _ _ l0 _ _ l1 t547 _ ?side1 ?side2 ?side3 ?side4 A11.out).mono ?_);(case side1=>exact Q109);(case side2=>exact HC0.out);(case side3=>exact Q110);(case side4=>exact HC1.out);rintro e w13 ⟨v548,rfl,ho0,hb⟩;refine ⟨_,rfl,?_⟩;have n0_:=am (Kd.R_lower ho0 (below_size Q77));have n1_:=am (below_step Q77 hb);clear HB;have HO549:=n0_;have HB:=n1_;clear n0_ n1_;(try clear hb);(try clear hb2);(try clear hk);(try clear hi);(try clear ho0);obtain ⟨Ao14,co14,eo14⟩:=Kd.R_slice HO549.out;subst eo14)|((with_reducible refine gate_callee (f:=54) rfl ?_);refine goesL_ (some 19) rfl rfl Try.func54 Q1 rfl #[.slice Ao14 t547.length co14] rfl Q79 ?_;(with_reducible refine (impl_batch.calls kj2 _ _ t547 t550 t551 _ ?side1 ?side2 A12.out).mono ?_);(case side1=>exact (by repeat (first|exact (Kd.R_reads' HO549.out).2.2|(with_reducible refine Kd.C_alloc ?_ _)|(with_reducible refine Kd.C_drewN ?_ _)|(with_reducible refine Kd.C_drew ?_))));(case side2=>exact (Kd.R_reads' HO549.out).2.1);rintro e w15 ⟨v552,rfl,ho0,hb⟩;refine ⟨_,rfl,?_⟩;have n0_:=am (Kd.R_elder' (by (with_reducible repeat (first|apply Kd.R_alloc|apply Kd.R_drewN|apply Kd.R_drew));exact HO549.out) (Kd.R_base ho0) hb);have n1_:=am (Kd.R_lower (Kd.R_new' ho0 (Kd.R_lt (by (with_reducible repeat (first|apply Kd.R_alloc|apply Kd.R_drewN|apply Kd.R_drew));exact HO549.out))) (below_size Q77));have n2_:=am (below_step Q77 hb);clear HO549 HB;have HO549:=n0_;have HO553:=n1_;have HB:=n2_;clear n0_ n1_ n2_;(try clear hb);(try clear hb2);(try clear hk);(try clear hi);(try clear ho0)))
    go_ret
    exact ⟨_,Q17,by (with_reducible repeat (first|apply Kd.R_alloc|apply Kd.R_drewN|apply Kd.R_drew));exact Kd.R_mono HO553.out (fun _ hk=>trivial),Q77⟩
mutual
noncomputable def laws_FnBatchMoveBoth.j0 : Nat → List Int → List Int → Bool → Option (Bool)
 | 0, _, _, _ => none
 | k + 1, x0, x1, x16 => if x16 = true then (some true) else ((spec_DrawBatchMove.f k x0).bind fun bt554 => ((spec_DrawBatchOf.f k x1).bind fun t560 => ((impl_BatchMove.f k bt554.1 bt554.2).bind fun t563 => ((spec_BatchMove.f k bt554.1 bt554.2).bind fun t566 => ((laws_lwRows.f k t563 t566).bind fun t569 => (if t569 = true then ((spec_RowsOk.f k bt554.1).bind fun t570 => (if t570 = true then ((spec_RowsOk.f k t560).bind fun t571 => (if t571 = true then ((spec_FrontOk.f k bt554.2).bind fun t572 => (laws_FnBatchMoveBoth.j1 k bt554.1 bt554.2 t560 t563 (!t572))) else (laws_FnBatchMoveBoth.j1 k bt554.1 bt554.2 t560 t563 true))) else (laws_FnBatchMoveBoth.j1 k bt554.1 bt554.2 t560 t563 true))) else (laws_FnBatchMoveBoth.j1 k bt554.1 bt554.2 t560 t563 true)))))))
noncomputable def laws_FnBatchMoveBoth.j1 : Nat → List (S38) → List (S36) → List (S38) → List (S38) → Bool → Option (Bool)
 | 0, _, _, _, _, _ => none
 | k + 1, x5, x6, x7, x8, x47 => if x47 = true then ((spec_BatchMove.f k x5 x6).bind fun t573 => ((laws_lwRows.f k x8 t573).bind fun t576 => (some t576))) else ((impl_BatchBoth.f k x5 x7).bind fun t577 => ((impl_BatchMove.f k t577 x6).bind fun t580 => ((impl_BatchMove.f k x7 x6).bind fun t583 => ((impl_BatchBoth.f k x8 t583).bind fun t586 => ((laws_lwRows.f k t580 t586).bind fun t589 => (some t589))))))
end
noncomputable def laws_FnBatchMoveBoth.f (k : Nat) (l0 : List Int) (l1 : List Int) : Option (Bool) := if (l0.length : Int) > 1048576 then (laws_FnBatchMoveBoth.j0 k l0 l1 true) else (laws_FnBatchMoveBoth.j0 k l0 l1 (decide ((l1.length : Int) > 1048576)))
set_option maxHeartbeats 8000000 in
set_option maxRecDepth 100000 in
theorem laws_FnBatchMoveBoth.calls (k : Nat) (A0 : Option Addr) (c0 : Nat) (l0 : List Int) (A1 : Option Addr) (c1 : Nat) (l1 : List Int) (r : Bool) (w : World) (hr0 : Kd.C (Kd.int .u8) w A0 l0.length l0) (hc0 : l0.length ≤ c0) (hr1 : Kd.C (Kd.int .u8) w A1 l1.length l1) (hc1 : l1.length ≤ c1) (h : laws_FnBatchMoveBoth.f k l0 l1 = some r) (hr_ : r = true) :
  Calls Try.prog 3 #[.slice A0 l0.length c0,.slice A1 l1.length c1] w fun e w'=>e = .returned (.bool r) ∧ Below w.heap.size w w':=by
 have HR0:=Aside0.mk hr0
 have HC0:=Aside0.mk hc0
 clear hr0 hc0
 have HR1:=Aside0.mk hr1
 have HC1:=Aside0.mk hc1
 clear hr1 hc1
 have HB:=am (Below.refl w.heap.size w)
 have hq_:=Aside0.mk hr_
 clear hr_
 have H : (if (l0.length : Int) > 1048576 then (laws_FnBatchMoveBoth.j0 k l0 l1 true) else (laws_FnBatchMoveBoth.j0 k l0 l1 (decide ((l1.length : Int) > 1048576)))) = some r:=h
 clear h
 have HC3:=Aside0.mk H
 clear H
 go_enter Try.func3,Try.ntmps3
 go_upto_region 1 with (fail)
 go_cut [16] (fun v16 wc=>∃ (kq : Nat) (x16_2 : Bool),v16 = .bool x16_2 ∧ Aside0 (laws_FnBatchMoveBoth.j0 kq l0 l1 x16_2 = some r) ∧ Aside0 (kq ≤ k) ∧ Aside0 (Below w.heap.size w wc))
 case first =>
  have H:=HC3.out
  clear HC3
  by_cases c4 : (l0.length : Int) > 1048576
  ·rw [if_pos c4] at H
   have c4b0 : decide (1048576 < (l0.length : Int)) = true:=decide_eq_true c4
   have c4b1 : decide (1048576 < l0.length) = true:=decide_eq_true (by omega)
   clear c4
   (first|rw [c4b0]|(simp only [i64_w,i32_w];rw [c4b0])|skip)
   have H':=Aside0.mk H
   clear H
   go_wp2
   go_meet
   case rel=>exact ⟨_,(true),Q5,H',⟨Q3⟩,⟨Q77⟩⟩
  ·rw [if_neg c4] at H
   have c4b0 : decide (1048576 < (l0.length : Int)) = false:=decide_eq_false c4
   have c4b1 : decide (1048576 < l0.length) = false:=decide_eq_false (by omega)
   clear c4
   (first|rw [c4b0]|(simp only [i64_w,i32_w];rw [c4b0])|skip)
   have H':=Aside0.mk H
   clear H
   go_wp2
   go_meet
   case rel=>exact ⟨_,(decide ((l1.length : Int) > 1048576)),Q5,H',⟨Q3⟩,⟨Q77⟩⟩
 case rest =>
  clear HC3
  try clear c1
  try clear p2
  try clear c3
  try clear c4
  try clear c4b0
  try clear c4b1
  obtain ⟨kq,x16_2,rfl,HA,HJ2,HB⟩:=hcut
  cases kq with
  | zero=>exact absurd HA.out (by simp [laws_FnBatchMoveBoth.j0])
  | succ kj2 =>
   have H:=HA.out
   clear HA
   simp only [laws_FnBatchMoveBoth.j0] at H
   by_cases c5 : x16_2 = true
   ·subst c5
    have H1 : (some true) = some r:=by rw [if_pos rfl] at H;exact H
    clear H
    have H:=H1
    clear H1
    obtain rfl:=Option.some.inj H
    go_wp2
    go_ret
    exact ⟨Q75,Q77⟩
   ·replace c5:=Bool.eq_false_iff.mpr c5
    subst c5
    have H1 : ((spec_DrawBatchMove.f kj2 l0).bind fun bt554=>((spec_DrawBatchOf.f kj2 l1).bind fun t560=>((impl_BatchMove.f kj2 bt554.1 bt554.2).bind fun t563=>((spec_BatchMove.f kj2 bt554.1 bt554.2).bind fun t566=>((laws_lwRows.f kj2 t563 t566).bind fun t569=>(if t569 = true then ((spec_RowsOk.f kj2 bt554.1).bind fun t570=>(if t570 = true then ((spec_RowsOk.f kj2 t560).bind fun t571=>(if t571 = true then ((spec_FrontOk.f kj2 bt554.2).bind fun t572=>(laws_FnBatchMoveBoth.j1 kj2 bt554.1 bt554.2 t560 t563 (!t572))) else (laws_FnBatchMoveBoth.j1 kj2 bt554.1 bt554.2 t560 t563 true))) else (laws_FnBatchMoveBoth.j1 kj2 bt554.1 bt554.2 t560 t563 true))) else (laws_FnBatchMoveBoth.j1 kj2 bt554.1 bt554.2 t560 t563 true))))))) = some r:=by rw [if_neg (show ¬ (false = true) by decide)] at H;exact H
    clear H
    have H:=H1
    clear H1
    replace H:=Option.bind_eq_some_iff.mp H
    obtain ⟨⟨t554,t555⟩,A60,H⟩:=H
    replace H : ((spec_DrawBatchOf.f kj2 l1).bind fun t560=>((impl_BatchMove.f kj2 t554 t555).bind fun t563=>((spec_BatchMove.f kj2 t554 t555).bind fun t566=>((laws_lwRows.f kj2 t563 t566).bind fun t569=>(if t569 = true then ((spec_RowsOk.f kj2 t554).bind fun t570=>(if t570 = true then ((spec_RowsOk.f kj2 t560).bind fun t571=>(if t571 = true then ((spec_FrontOk.f kj2 t555).bind fun t572=>(laws_FnBatchMoveBoth.j1 kj2 t554 t555 t560 t563 (!t572))) else (laws_FnBatchMoveBoth.j1 kj2 t554 t555 t560 t563 true))) else (laws_FnBatchMoveBoth.j1 kj2 t554 t555 t560 t563 true))) else (laws_FnBatchMoveBoth.j1 kj2 t554 t555 t560 t563 true)))))) = some r:=H
    have A6:=Aside0.mk A60
    clear A60
    replace H:=Option.bind_eq_some_iff.mp H
    obtain ⟨t560,A70,H⟩:=H
    replace H : ((impl_BatchMove.f kj2 t554 t555).bind fun t563=>((spec_BatchMove.f kj2 t554 t555).bind fun t566=>((laws_lwRows.f kj2 t563 t566).bind fun t569=>(if t569 = true then ((spec_RowsOk.f kj2 t554).bind fun t570=>(if t570 = true then ((spec_RowsOk.f kj2 t560).bind fun t571=>(if t571 = true then ((spec_FrontOk.f kj2 t555).bind fun t572=>(laws_FnBatchMoveBoth.j1 kj2 t554 t555 t560 t563 (!t572))) else (laws_FnBatchMoveBoth.j1 kj2 t554 t555 t560 t563 true))) else (laws_FnBatchMoveBoth.j1 kj2 t554 t555 t560 t563 true))) else (laws_FnBatchMoveBoth.j1 kj2 t554 t555 t560 t563 true))))) = some r:=H
    have A7:=Aside0.mk A70
    clear A70
    replace H:=Option.bind_eq_some_iff.mp H
    obtain ⟨t563,A80,H⟩:=H
    replace H : ((spec_BatchMove.f kj2 t554 t555).bind fun t566=>((laws_lwRows.f kj2 t563 t566).bind fun t569=>(if t569 = true then ((spec_RowsOk.f kj2 t554).bind fun t570=>(if t570 = true then ((spec_RowsOk.f kj2 t560).bind fun t571=>(if t571 = true then ((spec_FrontOk.f kj2 t555).bind fun t572=>(laws_FnBatchMoveBoth.j1 kj2 t554 t555 t560 t563 (!t572))) else (laws_FnBatchMoveBoth.j1 kj2 t554 t555 t560 t563 true))) else (laws_FnBatchMoveBoth.j1 kj2 t554 t555 t560 t563 true))) else (laws_FnBatchMoveBoth.j1 kj2 t554 t555 t560 t563 true)))) = some r:=H
    have A8:=Aside0.mk A80
    clear A80
    have HC9:=Aside0.mk H
    clear H
    go_upto_region 6 with (first|((with_reducible refine gate_callee (f:=15) rfl ?_);refine goesL_ (some 19) rfl rfl Try.func15 Q1 rfl #[.slice A0 l0.length c0] rfl Q79 ?_;(with_reducible refine (spec_DrawBatchMove.calls kj2 _ _ l0 t554 t555 _ ?side1 ?side2 A6.out).mono ?_);(case side1=>exact Q109);(case side2=>exact HC0.out);rintro e w10 ⟨v556,v558,rfl,ho0,ho1,hb⟩;refine ⟨_,rfl,?_⟩;have n0_:=am (Kd.R_lower ho0 (below_size Q77));have n1_:=am (Kd.R_lower ho1 (below_size Q77));have n2_:=am (below_step Q77 hb);clear HB;have HO557:=n0_;have HO559:=n1_;have HB:=n2_;clear n0_ n1_ n2_;(try clear hb);(try clear hb2);(try clear hk);(try clear hi);(try clear ho0);(try clear ho1))|((with_reducible refine gate_callee (f:=16) rfl ?_);refine goesL_ (some 23) rfl rfl Try.func16 Q1 rfl #[.slice A1 l1.length c1] rfl Q79 ?_;(with_reducible refine (spec_DrawBatchOf.calls kj2 _ _ l1 t560 _ ?side1 ?side2 A7.out).mono ?_);(case side1=>exact Q110);(case side2=>exact HC1.out);rintro e w11 ⟨v561,rfl,ho0,hb⟩;refine ⟨_,rfl,?_⟩;have n0_:=am (Kd.R_elder' Q33 (Kd.R_base ho0) hb);have n1_:=am (Kd.R_below Q34 hb);have n2_:=am (Kd.R_lower (Kd.R_new' ho0 (Kd.R_lt Q33)) (below_size Q77));have n3_:=am (below_step Q77 hb);clear HO557 HO559 HB;have HO557:=n0_;have HO559:=n1_;have HO562:=n2_;have HB:=n3_;clear n0_ n1_ n2_ n3_;(try clear hb);(try clear hb2);(try clear hk);(try clear hi);(try clear ho0);obtain ⟨Ao12,co12,eo12⟩:=Kd.R_slice HO557.out;subst eo12;obtain ⟨Ao13,co13,eo13⟩:=Kd.R_slice HO559.out;subst eo13)|((with_reducible refine gate_callee (f:=17) rfl ?_);refine goesL_ (some 26) rfl rfl Try.func17 Q1 rfl #[.slice Ao12 t554.length co12,.slice Ao13 t555.length co13] rfl Q79 ?_;(with_reducible refine (impl_BatchMove.calls kj2 _ _ t554 _ _ t555 t563 _ ?side1 ?side2 ?side3 ?side4 A8.out).mono ?_);(case side1=>exact Q111);(case side2=>exact (Kd.R_reads' HO557.out).2.1);(case side3=>exact Q112);(case side4=>exact (Kd.R_reads' HO559.out).2.1);rintro e w14 ⟨v564,rfl,ho0,hb⟩;refine ⟨_,rfl,?_⟩;have n0_:=am (Kd.R_elder' Q33 (Kd.R_base ho0) hb);have n1_:=am (Kd.R_below Q34 hb);have n2_:=am (Kd.R_elder' Q35 (Kd.R_base ho0) hb);have n3_:=am (Kd.R_lower (Kd.R_new' (Kd.R_new' ho0 (Kd.R_lt Q33)) (Kd.R_lt Q35)) (below_size Q77));have n4_:=am (below_step Q77 hb);clear HO557 HO559 HO562 HB;have HO557:=n0_;have HO559:=n1_;have HO562:=n2_;have HO565:=n3_;have HB:=n4_;clear n0_ n1_ n2_ n3_ n4_;(try clear hb);(try clear hb2);(try clear hk);(try clear hi);(try clear ho0)))
    (try simp only [Act.put,sA_,sZ_,sS_])
    go_cut [47] (fun v47 wc=>∃ (kq : Nat) (x47_8 : Bool),v47 = .bool x47_8 ∧ Aside0 (laws_FnBatchMoveBoth.j1 kq t554 t555 t560 t563 x47_8 = some r) ∧ Aside0 (kq ≤ kj2) ∧ Aside0 (Kd.R k38 38 wc w.heap.size (fun k_=>some k_ ≠ (v561 : Value).ownBlock ∧ some k_ ≠ (v564 : Value).ownBlock) (.slice Ao12 t554.length co12) t554) ∧ Aside0 (Kd.R k36 36 wc w.heap.size (fun _=>True) (.slice Ao13 t555.length co13) t555) ∧ Aside0 (Kd.R k38 38 wc w.heap.size (fun k_=>some k_ ≠ ((.slice Ao12 t554.length co12) : Value).ownBlock ∧ some k_ ≠ (v564 : Value).ownBlock) v561 t560) ∧ Aside0 (Kd.R k38 38 wc w.heap.size (fun k_=>some k_ ≠ ((.slice Ao12 t554.length co12) : Value).ownBlock ∧ some k_ ≠ (v561 : Value).ownBlock) v564 t563) ∧ Aside0 (Below w.heap.size w wc))
    case first =>
     have H:=HC9.out
     clear HC9
     replace H:=Option.bind_eq_some_iff.mp H
     obtain ⟨t566,A150,H⟩:=H
     replace H : ((laws_lwRows.f kj2 t563 t566).bind fun t569=>(if t569 = true then ((spec_RowsOk.f kj2 t554).bind fun t570=>(if t570 = true then ((spec_RowsOk.f kj2 t560).bind fun t571=>(if t571 = true then ((spec_FrontOk.f kj2 t555).bind fun t572=>(laws_FnBatchMoveBoth.j1 kj2 t554 t555 t560 t563 (!t572))) else (laws_FnBatchMoveBoth.j1 kj2 t554 t555 t560 t563 true))) else (laws_FnBatchMoveBoth.j1 kj2 t554 t555 t560 t563 true))) else (laws_FnBatchMoveBoth.j1 kj2 t554 t555 t560 t563 true))) = some r:=H
     have A15:=Aside0.mk A150
     clear A150
     replace H:=Option.bind_eq_some_iff.mp H
     obtain ⟨t569,A160,H⟩:=H
     replace H : (if t569 = true then ((spec_RowsOk.f kj2 t554).bind fun t570=>(if t570 = true then ((spec_RowsOk.f kj2 t560).bind fun t571=>(if t571 = true then ((spec_FrontOk.f kj2 t555).bind fun t572=>(laws_FnBatchMoveBoth.j1 kj2 t554 t555 t560 t563 (!t572))) else (laws_FnBatchMoveBoth.j1 kj2 t554 t555 t560 t563 true))) else (laws_FnBatchMoveBoth.j1 kj2 t554 t555 t560 t563 true))) else (laws_FnBatchMoveBoth.j1 kj2 t554 t555 t560 t563 true)) = some r:=H
     have A16:=Aside0.mk A160
     clear A160
     by_cases c17 : t569 = true
     ·subst c17
      have H1 : ((spec_RowsOk.f kj2 t554).bind fun t570=>(if t570 = true then ((spec_RowsOk.f kj2 t560).bind fun t571=>(if t571 = true then ((spec_FrontOk.f kj2 t555).bind fun t572=>(laws_FnBatchMoveBoth.j1 kj2 t554 t555 t560 t563 (!t572))) else (laws_FnBatchMoveBoth.j1 kj2 t554 t555 t560 t563 true))) else (laws_FnBatchMoveBoth.j1 kj2 t554 t555 t560 t563 true))) = some r:=by rw [if_pos rfl] at H;exact H
      clear H
      have H:=H1
      clear H1
      replace H:=Option.bind_eq_some_iff.mp H
      obtain ⟨t570,A180,H⟩:=H
      replace H : (if t570 = true then ((spec_RowsOk.f kj2 t560).bind fun t571=>(if t571 = true then ((spec_FrontOk.f kj2 t555).bind fun t572=>(laws_FnBatchMoveBoth.j1 kj2 t554 t555 t560 t563 (!t572))) else (laws_FnBatchMoveBoth.j1 kj2 t554 t555 t560 t563 true))) else (laws_FnBatchMoveBoth.j1 kj2 t554 t555 t560 t563 true)) = some r:=H
      have A18:=Aside0.mk A180
      clear A180
      by_cases c19 : t570 = true
      ·subst c19
       have H1 : ((spec_RowsOk.f kj2 t560).bind fun t571=>(if t571 = true then ((spec_FrontOk.f kj2 t555).bind fun t572=>(laws_FnBatchMoveBoth.j1 kj2 t554 t555 t560 t563 (!t572))) else (laws_FnBatchMoveBoth.j1 kj2 t554 t555 t560 t563 true))) = some r:=by rw [if_pos rfl] at H;exact H
       clear H
       have H:=H1
       clear H1
       replace H:=Option.bind_eq_some_iff.mp H
       obtain ⟨t571,A200,H⟩:=H
       replace H : (if t571 = true then ((spec_FrontOk.f kj2 t555).bind fun t572=>(laws_FnBatchMoveBoth.j1 kj2 t554 t555 t560 t563 (!t572))) else (laws_FnBatchMoveBoth.j1 kj2 t554 t555 t560 t563 true)) = some r:=H
       have A20:=Aside0.mk A200
       clear A200
       by_cases c21 : t571 = true
       ·subst c21
        have H1 : ((spec_FrontOk.f kj2 t555).bind fun t572=>(laws_FnBatchMoveBoth.j1 kj2 t554 t555 t560 t563 (!t572))) = some r:=by rw [if_pos rfl] at H;exact H
        clear H
        have H:=H1
        clear H1
        replace H:=Option.bind_eq_some_iff.mp H
        obtain ⟨t572,A220,H⟩:=H
        replace H : (laws_FnBatchMoveBoth.j1 kj2 t554 t555 t560 t563 (!t572)) = some r:=H
        have A22:=Aside0.mk A220
        clear A220
        have H':=Aside0.mk H
        clear H
        go_wp2_with (first|((with_reducible refine gate_callee (f:=19) rfl ?_);refine goesL_ (some 30) rfl rfl Try.func19 Q1 rfl #[.slice Ao12 t554.length co12,.slice Ao13 t555.length co13] rfl Q79 ?_;(with_reducible refine (spec_BatchMove.calls kj2 _ _ t554 _ _ t555 t566 _ ?side1 ?side2 ?side3 ?side4 A15.out).mono ?_);(case side1=>exact Q111);(case side2=>exact (Kd.R_reads' HO557.out).2.1);(case side3=>exact Q112);(case side4=>exact (Kd.R_reads' HO559.out).2.1);rintro e w23 ⟨v567,rfl,ho0,hb⟩;refine ⟨_,rfl,?_⟩;have n0_:=am (Kd.R_elder' Q33 (Kd.R_base ho0) hb);have n1_:=am (Kd.R_below Q34 hb);have n2_:=am (Kd.R_elder' Q35 (Kd.R_base ho0) hb);have n3_:=am (Kd.R_elder' Q36 (Kd.R_base ho0) hb);have n4_:=am (Kd.R_lower (Kd.R_new' (Kd.R_new' (Kd.R_new' ho0 (Kd.R_lt Q33)) (Kd.R_lt Q35)) (Kd.R_lt Q36)) (below_size Q77));have n5_:=am (below_step Q77 hb);clear HO557 HO559 HO562 HO565 HB;have HO557:=n0_;have HO559:=n1_;have HO562:=n2_;have HO565:=n3_;have HO568:=n4_;have HB:=n5_;clear n0_ n1_ n2_ n3_ n4_ n5_;(try clear hb);(try clear hb2);(try clear hk);(try clear hi);(try clear ho0);obtain ⟨Ao24,co24,eo24⟩:=Kd.R_slice HO565.out;subst eo24;obtain ⟨Ao25,co25,eo25⟩:=Kd.R_slice HO568.out;subst eo25)|((with_reducible refine gate_callee (f:=18) rfl ?_);refine goesL_ (some 31) rfl rfl Try.func18 Q1 rfl #[.slice Ao24 t563.length co24,.slice Ao25 t566.length co25] rfl Q79 ?_;(with_reducible refine (laws_lwRows.calls kj2 _ _ t563 _ _ t566 true _ ?side1 ?side2 ?side3 ?side4 A16.out).mono ?_);(case side1=>exact Q113);(case side2=>exact (Kd.R_reads' HO565.out).2.1);(case side3=>exact Q114);(case side4=>exact (Kd.R_reads' HO568.out).2.1);rintro e w' ⟨rfl,⟨nd,rfl⟩⟩;refine ⟨_,rfl,?_⟩)|(go_at_call 20;(with_reducible refine (spec_RowsOk.calls kj2 _ _ t554 true _ ?side1 ?side2 A18.out).mono ?_);(case side1=>exact Q111);(case side2=>exact (Kd.R_reads' HO557.out).2.1);rintro e w26 ⟨rfl,hb⟩;have n0_:=am (Kd.R_below Q33 hb);have n1_:=am (Kd.R_below Q34 hb);have n2_:=am (Kd.R_below Q35 hb);have n3_:=am (Kd.R_below Q36 hb);have n4_:=am (Kd.R_below Q37 hb);have n5_:=am (below_step Q77 hb);clear HO557 HO559 HO562 HO565 HO568 HB;have HO557:=n0_;have HO559:=n1_;have HO562:=n2_;have HO565:=n3_;have HO568:=n4_;have HB:=n5_;clear n0_ n1_ n2_ n3_ n4_ n5_;(try clear hb);(try clear hb2);(try clear hk);(try clear hi);obtain ⟨Ao27,co27,eo27⟩:=Kd.R_slice HO562.out;subst eo27)|(go_at_call 20;(with_reducible refine (spec_RowsOk.calls kj2 _ _ t560 true _ ?side1 ?side2 A20.out).mono ?_);(case side1=>exact (by repeat (first|exact (Kd.R_reads' HO562.out).2.2|(with_reducible refine Kd.C_alloc ?_ _)|(with_reducible refine Kd.C_drewN ?_ _)|(with_reducible refine Kd.C_drew ?_))));(case side2=>exact (Kd.R_reads' HO562.out).2.1);rintro e w28 ⟨rfl,hb⟩;have n0_:=am (Kd.R_below Q33 hb);have n1_:=am (Kd.R_below Q34 hb);have n2_:=am (Kd.R_below Q35 hb);have n3_:=am (Kd.R_below Q36 hb);have n4_:=am (Kd.R_below Q37 hb);have n5_:=am (below_step Q77 hb);clear HO557 HO559 HO562 HO565 HO568 HB;have HO557:=n0_;have HO559:=n1_;have HO562:=n2_;have HO565:=n3_;have HO568:=n4_;have HB:=n5_;clear n0_ n1_ n2_ n3_ n4_ n5_;(try clear hb);(try clear hb2);(try clear hk);(try clear hi))|(go_at_call 21;(with_reducible refine (spec_FrontOk.calls kj2 _ _ t555 t572 _ ?side1 ?side2 A22.out).mono ?_);(case side1=>exact Q112);(case side2=>exact (Kd.R_reads' HO559.out).2.1);rintro e w29 ⟨rfl,hb⟩;have n0_:=am (Kd.R_below Q33 hb);have n1_:=am (Kd.R_below Q34 hb);have n2_:=am (Kd.R_below Q35 hb);have n3_:=am (Kd.R_below Q36 hb);have n4_:=am (Kd.R_below Q37 hb);have n5_:=am (below_step Q77 hb);clear HO557 HO559 HO562 HO565 HO568 HB;have HO557:=n0_;have HO559:=n1_;have HO562:=n2_;have HO565:=n3_;have HO568:=n4_;have HB:=n5_;clear n0_ n1_ n2_ n3_ n4_ n5_;(try clear hb);(try clear hb2);(try clear hk);(try clear hi)))
        go_meet
        case rel=>exact ⟨_,(!t572),Q5,H',⟨Q8⟩,⟨Q83⟩,⟨Q34⟩,⟨Q84⟩,⟨Q85⟩,⟨Q77⟩⟩
       ·replace c21:=Bool.eq_false_iff.mpr c21
        subst c21
        have H1 : (laws_FnBatchMoveBoth.j1 kj2 t554 t555 t560 t563 true) = some r:=by rw [if_neg (show ¬ (false = true) by decide)] at H;exact H
        clear H
        have H:=H1
        clear H1
        have H':=Aside0.mk H
        clear H
        go_wp2_with (first|((with_reducible refine gate_callee (f:=19) rfl ?_);refine goesL_ (some 30) rfl rfl Try.func19 Q1 rfl #[.slice Ao12 t554.length co12,.slice Ao13 t555.length co13] rfl Q79 ?_;(with_reducible refine (spec_BatchMove.calls kj2 _ _ t554 _ _ t555 t566 _ ?side1 ?side2 ?side3 ?side4 A15.out).mono ?_);(case side1=>exact Q111);(case side2=>exact (Kd.R_reads' HO557.out).2.1);(case side3=>exact Q112);(case side4=>exact (Kd.R_reads' HO559.out).2.1);rintro e w30 ⟨v567,rfl,ho0,hb⟩;refine ⟨_,rfl,?_⟩;have n0_:=am (Kd.R_elder' Q33 (Kd.R_base ho0) hb);have n1_:=am (Kd.R_below Q34 hb);have n2_:=am (Kd.R_elder' Q35 (Kd.R_base ho0) hb);have n3_:=am (Kd.R_elder' Q36 (Kd.R_base ho0) hb);have n4_:=am (Kd.R_lower (Kd.R_new' (Kd.R_new' (Kd.R_new' ho0 (Kd.R_lt Q33)) (Kd.R_lt Q35)) (Kd.R_lt Q36)) (below_size Q77));have n5_:=am (below_step Q77 hb);clear HO557 HO559 HO562 HO565 HB;have HO557:=n0_;have HO559:=n1_;have HO562:=n2_;have HO565:=n3_;have HO568:=n4_;have HB:=n5_;clear n0_ n1_ n2_ n3_ n4_ n5_;(try clear hb);(try clear hb2);(try clear hk);(try clear hi);(try clear ho0);obtain ⟨Ao31,co31,eo31⟩:=Kd.R_slice HO565.out;subst eo31;obtain ⟨Ao32,co32,eo32⟩:=Kd.R_slice HO568.out;subst eo32)|((with_reducible refine gate_callee (f:=18) rfl ?_);refine goesL_ (some 31) rfl rfl Try.func18 Q1 rfl #[.slice Ao31 t563.length co31,.slice Ao32 t566.length co32] rfl Q79 ?_;(with_reducible refine (laws_lwRows.calls kj2 _ _ t563 _ _ t566 true _ ?side1 ?side2 ?side3 ?side4 A16.out).mono ?_);(case side1=>exact Q113);(case side2=>exact (Kd.R_reads' HO565.out).2.1);(case side3=>exact Q114);(case side4=>exact (Kd.R_reads' HO568.out).2.1);rintro e w' ⟨rfl,⟨nd,rfl⟩⟩;refine ⟨_,rfl,?_⟩)|(go_at_call 20;(with_reducible refine (spec_RowsOk.calls kj2 _ _ t554 true _ ?side1 ?side2 A18.out).mono ?_);(case side1=>exact Q111);(case side2=>exact (Kd.R_reads' HO557.out).2.1);rintro e w33 ⟨rfl,hb⟩;have n0_:=am (Kd.R_below Q33 hb);have n1_:=am (Kd.R_below Q34 hb);have n2_:=am (Kd.R_below Q35 hb);have n3_:=am (Kd.R_below Q36 hb);have n4_:=am (Kd.R_below Q37 hb);have n5_:=am (below_step Q77 hb);clear HO557 HO559 HO562 HO565 HO568 HB;have HO557:=n0_;have HO559:=n1_;have HO562:=n2_;have HO565:=n3_;have HO568:=n4_;have HB:=n5_;clear n0_ n1_ n2_ n3_ n4_ n5_;(try clear hb);(try clear hb2);(try clear hk);(try clear hi);obtain ⟨Ao34,co34,eo34⟩:=Kd.R_slice HO562.out;subst eo34)|(go_at_call 20;(with_reducible refine (spec_RowsOk.calls kj2 _ _ t560 false _ ?side1 ?side2 A20.out).mono ?_);(case side1=>exact (by repeat (first|exact (Kd.R_reads' HO562.out).2.2|(with_reducible refine Kd.C_alloc ?_ _)|(with_reducible refine Kd.C_drewN ?_ _)|(with_reducible refine Kd.C_drew ?_))));(case side2=>exact (Kd.R_reads' HO562.out).2.1);rintro e w35 ⟨rfl,hb⟩;have n0_:=am (Kd.R_below Q33 hb);have n1_:=am (Kd.R_below Q34 hb);have n2_:=am (Kd.R_below Q35 hb);have n3_:=am (Kd.R_below Q36 hb);have n4_:=am (Kd.R_below Q37 hb);have n5_:=am (below_step Q77 hb);clear HO557 HO559 HO562 HO565 HO568 HB;have HO557:=n0_;have HO559:=n1_;have HO562:=n2_;have HO565:=n3_;have HO568:=n4_;have HB:=n5_;clear n0_ n1_ n2_ n3_ n4_ n5_;(try clear hb);(try clear hb2);(try clear hk);(try clear hi)))
        go_meet
        case rel=>exact ⟨_,(true),Q5,H',⟨Q8⟩,⟨Q83⟩,⟨Q34⟩,⟨Q84⟩,⟨Q85⟩,⟨Q77⟩⟩
      ·replace c19:=Bool.eq_false_iff.mpr c19
       subst c19
       have H1 : (laws_FnBatchMoveBoth.j1 kj2 t554 t555 t560 t563 true) = some r:=by rw [if_neg (show ¬ (false = true) by decide)] at H;exact H
       clear H
       have H:=H1
       clear H1
       have H':=Aside0.mk H
       clear H
       go_wp2_with (first|((with_reducible refine gate_callee (f:=19) rfl ?_);refine goesL_ (some 30) rfl rfl Try.func19 Q1 rfl #[.slice Ao12 t554.length co12,.slice Ao13 t555.length co13] rfl Q79 ?_;(with_reducible refine (spec_BatchMove.calls kj2 _ _ t554 _ _ t555 t566 _ ?side1 ?side2 ?side3 ?side4 A15.out).mono ?_);(case side1=>exact Q111);(case side2=>exact (Kd.R_reads' HO557.out).2.1);(case side3=>exact Q112);(case side4=>exact (Kd.R_reads' HO559.out).2.1);rintro e w36 ⟨v567,rfl,ho0,hb⟩;refine ⟨_,rfl,?_⟩;have n0_:=am (Kd.R_elder' Q33 (Kd.R_base ho0) hb);have n1_:=am (Kd.R_below Q34 hb);have n2_:=am (Kd.R_elder' Q35 (Kd.R_base ho0) hb);have n3_:=am (Kd.R_elder' Q36 (Kd.R_base ho0) hb);have n4_:=am (Kd.R_lower (Kd.R_new' (Kd.R_new' (Kd.R_new' ho0 (Kd.R_lt Q33)) (Kd.R_lt Q35)) (Kd.R_lt Q36)) (below_size Q77));have n5_:=am (below_step Q77 hb);clear HO557 HO559 HO562 HO565 HB;have HO557:=n0_;have HO559:=n1_;have HO562:=n2_;have HO565:=n3_;have HO568:=n4_;have HB:=n5_;clear n0_ n1_ n2_ n3_ n4_ n5_;(try clear hb);(try clear hb2);(try clear hk);(try clear hi);(try clear ho0);obtain ⟨Ao37,co37,eo37⟩:=Kd.R_slice HO565.out;subst eo37;obtain ⟨Ao38,co38,eo38⟩:=Kd.R_slice HO568.out;subst eo38)|((with_reducible refine gate_callee (f:=18) rfl ?_);refine goesL_ (some 31) rfl rfl Try.func18 Q1 rfl #[.slice Ao37 t563.length co37,.slice Ao38 t566.length co38] rfl Q79 ?_;(with_reducible refine (laws_lwRows.calls kj2 _ _ t563 _ _ t566 true _ ?side1 ?side2 ?side3 ?side4 A16.out).mono ?_);(case side1=>exact Q113);(case side2=>exact (Kd.R_reads' HO565.out).2.1);(case side3=>exact Q114);(case side4=>exact (Kd.R_reads' HO568.out).2.1);rintro e w' ⟨rfl,⟨nd,rfl⟩⟩;refine ⟨_,rfl,?_⟩)|(go_at_call 20;(with_reducible refine (spec_RowsOk.calls kj2 _ _ t554 false _ ?side1 ?side2 A18.out).mono ?_);(case side1=>exact Q111);(case side2=>exact (Kd.R_reads' HO557.out).2.1);rintro e w39 ⟨rfl,hb⟩;have n0_:=am (Kd.R_below Q33 hb);have n1_:=am (Kd.R_below Q34 hb);have n2_:=am (Kd.R_below Q35 hb);have n3_:=am (Kd.R_below Q36 hb);have n4_:=am (Kd.R_below Q37 hb);have n5_:=am (below_step Q77 hb);clear HO557 HO559 HO562 HO565 HO568 HB;have HO557:=n0_;have HO559:=n1_;have HO562:=n2_;have HO565:=n3_;have HO568:=n4_;have HB:=n5_;clear n0_ n1_ n2_ n3_ n4_ n5_;(try clear hb);(try clear hb2);(try clear hk);(try clear hi)))
       go_meet
       case rel=>exact ⟨_,(true),Q5,H',⟨Q8⟩,⟨Q83⟩,⟨Q34⟩,⟨Q84⟩,⟨Q85⟩,⟨Q77⟩⟩
     ·replace c17:=Bool.eq_false_iff.mpr c17
      subst c17
      have H1 : (laws_FnBatchMoveBoth.j1 kj2 t554 t555 t560 t563 true) = some r:=by rw [if_neg (show ¬ (false = true) by decide)] at H;exact H
      clear H
      have H:=H1
      clear H1
      have H':=Aside0.mk H
      clear H
      go_wp2_with (first|((with_reducible refine gate_callee (f:=19) rfl ?_);refine goesL_ (some 30) rfl rfl Try.func19 Q1 rfl #[.slice Ao12 t554.length co12,.slice Ao13 t555.length co13] rfl Q79 ?_;(with_reducible refine (spec_BatchMove.calls kj2 _ _ t554 _ _ t555 t566 _ ?side1 ?side2 ?side3 ?side4 A15.out).mono ?_);(case side1=>exact Q111);(case side2=>exact (Kd.R_reads' HO557.out).2.1);(case side3=>exact Q112);(case side4=>exact (Kd.R_reads' HO559.out).2.1);rintro e w40 ⟨v567,rfl,ho0,hb⟩;refine ⟨_,rfl,?_⟩;have n0_:=am (Kd.R_elder' Q33 (Kd.R_base ho0) hb);have n1_:=am (Kd.R_below Q34 hb);have n2_:=am (Kd.R_elder' Q35 (Kd.R_base ho0) hb);have n3_:=am (Kd.R_elder' Q36 (Kd.R_base ho0) hb);have n4_:=am (Kd.R_lower (Kd.R_new' (Kd.R_new' (Kd.R_new' ho0 (Kd.R_lt Q33)) (Kd.R_lt Q35)) (Kd.R_lt Q36)) (below_size Q77));have n5_:=am (below_step Q77 hb);clear HO557 HO559 HO562 HO565 HB;have HO557:=n0_;have HO559:=n1_;have HO562:=n2_;have HO565:=n3_;have HO568:=n4_;have HB:=n5_;clear n0_ n1_ n2_ n3_ n4_ n5_;(try clear hb);(try clear hb2);(try clear hk);(try clear hi);(try clear ho0);obtain ⟨Ao41,co41,eo41⟩:=Kd.R_slice HO565.out;subst eo41;obtain ⟨Ao42,co42,eo42⟩:=Kd.R_slice HO568.out;subst eo42)|((with_reducible refine gate_callee (f:=18) rfl ?_);refine goesL_ (some 31) rfl rfl Try.func18 Q1 rfl #[.slice Ao41 t563.length co41,.slice Ao42 t566.length co42] rfl Q79 ?_;(with_reducible refine (laws_lwRows.calls kj2 _ _ t563 _ _ t566 false _ ?side1 ?side2 ?side3 ?side4 A16.out).mono ?_);(case side1=>exact Q113);(case side2=>exact (Kd.R_reads' HO565.out).2.1);(case side3=>exact Q114);(case side4=>exact (Kd.R_reads' HO568.out).2.1);rintro e w' ⟨rfl,⟨nd,rfl⟩⟩;refine ⟨_,rfl,?_⟩))
      go_meet
      case rel=>exact ⟨_,(true),Q5,H',⟨Q8⟩,⟨Q83⟩,⟨Q34⟩,⟨Q84⟩,⟨Q85⟩,⟨Q77⟩⟩
    case rest =>
     clear HC9
     try clear c1
     try clear c2
     try clear p2
     try clear c3
     try clear c4
     try clear c4b0
     try clear c4b1
     try clear c5
     try clear c15
     try clear c16
     try clear c17
     try clear c18
     try clear c19
     try clear c21
     try clear p2
     obtain ⟨kq,x47_8,rfl,HA,HJ8,HO_5,HO_6,HO_7,HO_8,HB⟩:=hcut
     cases kq with
     | zero=>exact absurd HA.out (by simp [laws_FnBatchMoveBoth.j1])
     | succ kj8 =>
      have H:=HA.out
      clear HA
      simp only [laws_FnBatchMoveBoth.j1] at H
      by_cases c43 : x47_8 = true
      ·subst c43
       have H1 : ((spec_BatchMove.f kj8 t554 t555).bind fun t573=>((laws_lwRows.f kj8 t563 t573).bind fun t576=>(some t576))) = some r:=by rw [if_pos rfl] at H;exact H
       clear H
       have H:=H1
       clear H1
       replace H:=Option.bind_eq_some_iff.mp H
       obtain ⟨t573,A440,H⟩:=H
       replace H : ((laws_lwRows.f kj8 t563 t573).bind fun t576=>(some t576)) = some r:=H
       have A44:=Aside0.mk A440
       clear A440
       replace H:=Option.bind_eq_some_iff.mp H
       obtain ⟨t576,A450,H⟩:=H
       replace H : (some t576) = some r:=H
       have A45:=Aside0.mk A450
       clear A450
       obtain rfl:=Option.some.inj H
       go_wp2_with (first|((with_reducible refine gate_callee (f:=19) rfl ?_);refine goesL_ (some 51) rfl rfl Try.func19 Q1 rfl #[.slice Ao12 t554.length co12,.slice Ao13 t555.length co13] rfl Q79 ?_;(with_reducible refine (spec_BatchMove.calls kj8 _ _ t554 _ _ t555 t573 _ ?side1 ?side2 ?side3 ?side4 A44.out).mono ?_);(case side1=>exact Q106);(case side2=>exact (Kd.R_reads' HO_5.out).2.1);(case side3=>exact Q107);(case side4=>exact (Kd.R_reads' HO_6.out).2.1);rintro e w46 ⟨v574,rfl,ho0,hb⟩;refine ⟨_,rfl,?_⟩;have n0_:=am (Kd.R_elder' Q20 (Kd.R_base ho0) hb);have n1_:=am (Kd.R_below Q22 hb);have n2_:=am (Kd.R_elder' Q23 (Kd.R_base ho0) hb);have n3_:=am (Kd.R_elder' Q24 (Kd.R_base ho0) hb);have n4_:=am (Kd.R_lower (Kd.R_new' (Kd.R_new' (Kd.R_new' ho0 (Kd.R_lt Q20)) (Kd.R_lt Q23)) (Kd.R_lt Q24)) (below_size Q77));have n5_:=am (below_step Q77 hb);clear HO_5 HO_6 HO_7 HO_8 HB;have HO_5:=n0_;have HO_6:=n1_;have HO_7:=n2_;have HO_8:=n3_;have HO575:=n4_;have HB:=n5_;clear n0_ n1_ n2_ n3_ n4_ n5_;(try clear hb);(try clear hb2);(try clear hk);(try clear hi);(try clear ho0);obtain ⟨Ao47,co47,eo47⟩:=Kd.R_slice HO_8.out;subst eo47;obtain ⟨Ao48,co48,eo48⟩:=Kd.R_slice HO575.out;subst eo48)|((with_reducible refine gate_callee (f:=18) rfl ?_);refine goesL_ (some 52) rfl rfl Try.func18 Q1 rfl #[.slice Ao47 t563.length co47,.slice Ao48 t573.length co48] rfl Q79 ?_;(with_reducible refine (laws_lwRows.calls kj8 _ _ t563 _ _ t573 t576 _ ?side1 ?side2 ?side3 ?side4 A45.out).mono ?_);(case side1=>exact (by repeat (first|exact (Kd.R_reads' HO_8.out).2.2|(with_reducible refine Kd.C_alloc ?_ _)|(with_reducible refine Kd.C_drewN ?_ _)|(with_reducible refine Kd.C_drew ?_))));(case side2=>exact (Kd.R_reads' HO_8.out).2.1);(case side3=>exact (by repeat (first|exact (Kd.R_reads' HO575.out).2.2|(with_reducible refine Kd.C_alloc ?_ _)|(with_reducible refine Kd.C_drewN ?_ _)|(with_reducible refine Kd.C_drew ?_))));(case side4=>exact (Kd.R_reads' HO575.out).2.1);rintro e w' ⟨rfl,⟨nd,rfl⟩⟩;refine ⟨_,rfl,?_⟩))
       go_ret
       exact ⟨Q75,Q77⟩
      ·replace c43:=Bool.eq_false_iff.mpr c43
       subst c43
       have H1 : ((impl_BatchBoth.f kj8 t554 t560).bind fun t577=>((impl_BatchMove.f kj8 t577 t555).bind fun t580=>((impl_BatchMove.f kj8 t560 t555).bind fun t583=>((impl_BatchBoth.f kj8 t563 t583).bind fun t586=>((laws_lwRows.f kj8 t580 t586).bind fun t589=>(some t589)))))) = some r:=by rw [if_neg (show ¬ (false = true) by decide)] at H;exact H
       clear H
       have H:=H1
       clear H1
       replace H:=Option.bind_eq_some_iff.mp H
       obtain ⟨t577,A490,H⟩:=H
       replace H : ((impl_BatchMove.f kj8 t577 t555).bind fun t580=>((impl_BatchMove.f kj8 t560 t555).bind fun t583=>((impl_BatchBoth.f kj8 t563 t583).bind fun t586=>((laws_lwRows.f kj8 t580 t586).bind fun t589=>(some t589))))) = some r:=H
       have A49:=Aside0.mk A490
       clear A490
       replace H:=Option.bind_eq_some_iff.mp H
       obtain ⟨t580,A500,H⟩:=H
       replace H : ((impl_BatchMove.f kj8 t560 t555).bind fun t583=>((impl_BatchBoth.f kj8 t563 t583).bind fun t586=>((laws_lwRows.f kj8 t580 t586).bind fun t589=>(some t589)))) = some r:=H
       have A50:=Aside0.mk A500
       clear A500
       replace H:=Option.bind_eq_some_iff.mp H
       obtain ⟨t583,A510,H⟩:=H
       replace H : ((impl_BatchBoth.f kj8 t563 t583).bind fun t586=>((laws_lwRows.f kj8 t580 t586).bind fun t589=>(some t589))) = some r:=H
       have A51:=Aside0.mk A510
       clear A510
       replace H:=Option.bind_eq_some_iff.mp H
       obtain ⟨t586,A520,H⟩:=H
       replace H : ((laws_lwRows.f kj8 t580 t586).bind fun t589=>(some t589)) = some r:=H
       have A52:=Aside0.mk A520
       clear A520
       replace H:=Option.bind_eq_some_iff.mp H
       obtain ⟨t589,A530,H⟩:=H
       replace H : (some t589) = some r:=H
       have A53:=Aside0.mk A530
       clear A530
       obtain rfl:=Option.some.inj H
       obtain ⟨Ao54,co54,eo54⟩:=Kd.R_slice HO_7.out
       subst eo54
       go_wp2_with (first|((with_reducible refine gate_callee (f:=22) rfl ?_);refine goesL_ (some 55) rfl rfl Try.func22 Q1 rfl #[.slice Ao12 t554.length co12,.slice Ao54 t560.length co54] rfl Q79 ?_;(with_reducible refine (impl_BatchBoth.calls kj8 _ _ t554 _ _ t560 t577 _ ?side1 ?side2 ?side3 ?side4 A49.out).mono ?_);(case side1=>exact Q106);(case side2=>exact (Kd.R_reads' HO_5.out).2.1);(case side3=>exact (by repeat (first|exact (Kd.R_reads' HO_7.out).2.2|(with_reducible refine Kd.C_alloc ?_ _)|(with_reducible refine Kd.C_drewN ?_ _)|(with_reducible refine Kd.C_drew ?_))));(case side4=>exact (Kd.R_reads' HO_7.out).2.1);rintro e w55 ⟨v578,rfl,ho0,hb⟩;refine ⟨_,rfl,?_⟩;have n0_:=am (Kd.R_elder' Q20 (Kd.R_base ho0) hb);have n1_:=am (Kd.R_below Q22 hb);have n2_:=am (Kd.R_elder' Q23 (Kd.R_base ho0) hb);have n3_:=am (Kd.R_elder' Q24 (Kd.R_base ho0) hb);have n4_:=am (Kd.R_lower (Kd.R_new' (Kd.R_new' (Kd.R_new' ho0 (Kd.R_lt Q20)) (Kd.R_lt Q23)) (Kd.R_lt Q24)) (below_size Q77));have n5_:=am (below_step Q77 hb);clear HO_5 HO_6 HO_7 HO_8 HB;have HO_5:=n0_;have HO_6:=n1_;have HO_7:=n2_;have HO_8:=n3_;have HO579:=n4_;have HB:=n5_;clear n0_ n1_ n2_ n3_ n4_ n5_;(try clear hb);(try clear hb2);(try clear hk);(try clear hi);(try clear ho0);obtain ⟨Ao56,co56,eo56⟩:=Kd.R_slice HO579.out;subst eo56)|((with_reducible refine gate_callee (f:=17) rfl ?_);refine goesL_ (some 57) rfl rfl Try.func17 Q1 rfl #[.slice Ao56 t577.length co56,.slice Ao13 t555.length co13] rfl Q79 ?_;(with_reducible refine (impl_BatchMove.calls kj8 _ _ t577 _ _ t555 t580 _ ?side1 ?side2 ?side3 ?side4 A50.out).mono ?_);(case side1=>exact (by repeat (first|exact (Kd.R_reads' HO579.out).2.2|(with_reducible refine Kd.C_alloc ?_ _)|(with_reducible refine Kd.C_drewN ?_ _)|(with_reducible refine Kd.C_drew ?_))));(case side2=>exact (Kd.R_reads' HO579.out).2.1);(case side3=>exact Q107);(case side4=>exact (Kd.R_reads' HO_6.out).2.1);rintro e w57 ⟨v581,rfl,ho0,hb⟩;refine ⟨_,rfl,?_⟩;have n0_:=am (Kd.R_elder' Q20 (Kd.R_base ho0) hb);have n1_:=am (Kd.R_below Q22 hb);have n2_:=am (Kd.R_elder' Q23 (Kd.R_base ho0) hb);have n3_:=am (Kd.R_elder' Q24 (Kd.R_base ho0) hb);have n4_:=am (Kd.R_elder' Q38 (Kd.R_base ho0) hb);have n5_:=am (Kd.R_lower (Kd.R_new' (Kd.R_new' (Kd.R_new' (Kd.R_new' ho0 (Kd.R_lt Q20)) (Kd.R_lt Q23)) (Kd.R_lt Q24)) (Kd.R_lt Q38)) (below_size Q77));have n6_:=am (below_step Q77 hb);clear HO_5 HO_6 HO_7 HO_8 HO579 HB;have HO_5:=n0_;have HO_6:=n1_;have HO_7:=n2_;have HO_8:=n3_;have HO579:=n4_;have HO582:=n5_;have HB:=n6_;clear n0_ n1_ n2_ n3_ n4_ n5_ n6_;(try clear hb);(try clear hb2);(try clear hk);(try clear hi);(try clear ho0))|((with_reducible refine gate_callee (f:=17) rfl ?_);refine goesL_ (some 61) rfl rfl Try.func17 Q1 rfl #[.slice Ao54 t560.length co54,.slice Ao13 t555.length co13] rfl Q79 ?_;(with_reducible refine (impl_BatchMove.calls kj8 _ _ t560 _ _ t555 t583 _ ?side1 ?side2 ?side3 ?side4 A51.out).mono ?_);(case side1=>exact (by repeat (first|exact (Kd.R_reads' HO_7.out).2.2|(with_reducible refine Kd.C_alloc ?_ _)|(with_reducible refine Kd.C_drewN ?_ _)|(with_reducible refine Kd.C_drew ?_))));(case side2=>exact (Kd.R_reads' HO_7.out).2.1);(case side3=>exact Q107);(case side4=>exact (Kd.R_reads' HO_6.out).2.1);rintro e w58 ⟨v584,rfl,ho0,hb⟩;refine ⟨_,rfl,?_⟩;have n0_:=am (Kd.R_elder' Q20 (Kd.R_base ho0) hb);have n1_:=am (Kd.R_below Q22 hb);have n2_:=am (Kd.R_elder' Q23 (Kd.R_base ho0) hb);have n3_:=am (Kd.R_elder' Q24 (Kd.R_base ho0) hb);have n4_:=am (Kd.R_elder' Q38 (Kd.R_base ho0) hb);have n5_:=am (Kd.R_elder' Q39 (Kd.R_base ho0) hb);have n6_:=am (Kd.R_lower (Kd.R_new' (Kd.R_new' (Kd.R_new' (Kd.R_new' (Kd.R_new' ho0 (Kd.R_lt Q20)) (Kd.R_lt Q23)) (Kd.R_lt Q24)) (Kd.R_lt Q38)) (Kd.R_lt Q39)) (below_size Q77));have n7_:=am (below_step Q77 hb);clear HO_5 HO_6 HO_7 HO_8 HO579 HO582 HB;have HO_5:=n0_;have HO_6:=n1_;have HO_7:=n2_;have HO_8:=n3_;have HO579:=n4_;have HO582:=n5_;have HO585:=n6_;have HB:=n7_;clear n0_ n1_ n2_ n3_ n4_ n5_ n6_ n7_;(try clear hb);(try clear hb2);(try clear hk);(try clear hi);(try clear ho0);obtain ⟨Ao59,co59,eo59⟩:=Kd.R_slice HO_8.out;subst eo59;obtain ⟨Ao60,co60,eo60⟩:=Kd.R_slice HO585.out;subst eo60)|((with_reducible refine gate_callee (f:=22) rfl ?_);refine goesL_ (some 62) rfl rfl Try.func22 Q1 rfl #[.slice Ao59 t563.length co59,.slice Ao60 t583.length co60] rfl Q79 ?_;(with_reducible refine (impl_BatchBoth.calls kj8 _ _ t563 _ _ t583 t586 _ ?side1 ?side2 ?side3 ?side4 A52.out).mono ?_);(case side1=>exact (by repeat (first|exact (Kd.R_reads' HO_8.out).2.2|(with_reducible refine Kd.C_alloc ?_ _)|(with_reducible refine Kd.C_drewN ?_ _)|(with_reducible refine Kd.C_drew ?_))));(case side2=>exact (Kd.R_reads' HO_8.out).2.1);(case side3=>exact (by repeat (first|exact (Kd.R_reads' HO585.out).2.2|(with_reducible refine Kd.C_alloc ?_ _)|(with_reducible refine Kd.C_drewN ?_ _)|(with_reducible refine Kd.C_drew ?_))));(case side4=>exact (Kd.R_reads' HO585.out).2.1);rintro e w61 ⟨v587,rfl,ho0,hb⟩;refine ⟨_,rfl,?_⟩;have n0_:=am (Kd.R_elder' Q20 (Kd.R_base ho0) hb);have n1_:=am (Kd.R_below Q22 hb);have n2_:=am (Kd.R_elder' Q23 (Kd.R_base ho0) hb);have n3_:=am (Kd.R_elder' Q24 (Kd.R_base ho0) hb);have n4_:=am (Kd.R_elder' Q38 (Kd.R_base ho0) hb);have n5_:=am (Kd.R_elder' Q39 (Kd.R_base ho0) hb);have n6_:=am (Kd.R_elder' (by (with_reducible repeat (first|apply Kd.R_alloc|apply Kd.R_drewN|apply Kd.R_drew));exact HO585.out) (Kd.R_base ho0) hb);have n7_:=am (Kd.R_lower (Kd.R_new' (Kd.R_new' (Kd.R_new' (Kd.R_new' (Kd.R_new' (Kd.R_new' ho0 (Kd.R_lt Q20)) (Kd.R_lt Q23)) (Kd.R_lt Q24)) (Kd.R_lt Q38)) (Kd.R_lt Q39)) (Kd.R_lt (by (with_reducible repeat (first|apply Kd.R_alloc|apply Kd.R_drewN|apply Kd.R_drew));exact HO585.out))) (below_size Q77));have n8_:=am (below_step Q77 hb);clear HO_5 HO_6 HO_7 HO_8 HO579 HO582 HO585 HB;have HO_5:=n0_;have HO_6:=n1_;have HO_7:=n2_;have HO_8:=n3_;have HO579:=n4_;have HO582:=n5_;have HO585:=n6_;have HO588:=n7_;have HB:=n8_;clear n0_ n1_ n2_ n3_ n4_ n5_ n6_ n7_ n8_;(try clear hb);(try clear hb2);(try clear hk);(try clear hi);(try clear ho0);obtain ⟨Ao62,co62,eo62⟩:=Kd.R_slice HO582.out;subst eo62;obtain ⟨Ao63,co63,eo63⟩:=Kd.R_slice HO588.out;subst eo63)|((with_reducible refine gate_callee (f:=18) rfl ?_);refine goesL_ (some 63) rfl rfl Try.func18 Q1 rfl #[.slice Ao62 t580.length co62,.slice Ao63 t586.length co63] rfl Q79 ?_;(with_reducible refine (laws_lwRows.calls kj8 _ _ t580 _ _ t586 t589 _ ?side1 ?side2 ?side3 ?side4 A53.out).mono ?_);(case side1=>exact (by repeat (first|exact (Kd.R_reads' HO582.out).2.2|(with_reducible refine Kd.C_alloc ?_ _)|(with_reducible refine Kd.C_drewN ?_ _)|(with_reducible refine Kd.C_drew ?_))));(case side2=>exact (Kd.R_reads' HO582.out).2.1);(case side3=>exact (by repeat (first|exact (Kd.R_reads' HO588.out).2.2|(with_reducible refine Kd.C_alloc ?_ _)|(with_reducible refine Kd.C_drewN ?_ _)|(with_reducible refine Kd.C_drew ?_))));(case side4=>exact (Kd.R_reads' HO588.out).2.1);rintro e w' ⟨rfl,⟨nd,rfl⟩⟩;refine ⟨_,rfl,?_⟩))
       go_ret
       exact ⟨Q75,Q77⟩
noncomputable def laws_FnBatchMoveBoth.Pure : Prop := ∀ (l0 : List Int) (l1 : List Int), l0.length ≤ maxLen → l0.length * 1 ≤ 140737488351232 → (∀ x ∈ l0, (Lit.int .u8 x).wf = true) → l1.length ≤ maxLen → l1.length * 1 ≤ 140737488351232 → (∀ x ∈ l1, (Lit.int .u8 x).wf = true) → ∃ k, laws_FnBatchMoveBoth.f k l0 l1 = some true
end Go.Proofs.Ytjlkffmdmifahaa.PFnBatchMoveBoth
