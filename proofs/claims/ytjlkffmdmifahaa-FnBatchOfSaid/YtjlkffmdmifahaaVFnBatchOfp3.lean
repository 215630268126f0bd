/- Functions that the law comes to: each as a plain Lean function, with the contract of the Go function. -/
import Derived.Test.YtjlkffmdmifahaaVFnBatchOfw
import Derived.Test.YtjlkffmdmifahaaVFnBatchOfp0
import Derived.Test.YtjlkffmdmifahaaVFnBatchOfp2
import Derived.Test.YtjlkffmdmifahaaVFnBatchOfg0
import Derived.Test.YtjlkffmdmifahaaVFnBatchOfg1
namespace Go.Proofs.Ytjlkffmdmifahaa.PFnBatchOf
open Go.RowKit Go.Proofs.YtjlkffmdmifahaaW.PrintWords Go.Proofs.YtjlkffmdmifahaaW.PrintLast Go.Proofs.YtjlkffmdmifahaaW.PrintMore
attribute [local go_sem] max2_int min2_int max_two min_two max_three min_three max_four min_four
set_option linter.unusedVariables false
set_option linter.unusedSimpArgs false
attribute [local go_sem high] eqA38 eqA83
def impl_present.f (k : Nat) (l0 : List (S38)) (a1_0 : Int) (a1_1 : Int) : Option ((List (S83))) := impl_present.l0 k (([] : List (S83))) l0 (l0.length : Int) 0 a1_0 a1_1
theorem impl_present.mono_l : ∀ k,(∀ y0 y1 y2 y3 y4 y5,LeO (impl_present.l0 k y0 y1 y2 y3 y4 y5) (impl_present.l0 (k + 1) y0 y1 y2 y3 y4 y5))
 | 0=>fun _ _ _ _ _ _ r h=>by simp [impl_present.l0] at h
 | k + 1=>by
  have ih0:=impl_present.mono_l k
  ·intro y0 y1 y2 y3 y4 y5
   unfold impl_present.l0
   repeat' first
   | (with_reducible exact ih0 _ _ _ _ _ _)
   | (with_reducible exact LeO.refl _)
   | (with_reducible exact LeO.none _)
   | (with_reducible refine LeO.ite ?_ ?_)
   | (with_reducible refine LeO.bind ?_ (fun _=>?_))
   | exact ih0 _ _ _ _ _ _
   | exact LeO.none _
   | refine LeO.ite ?_ ?_
   | refine LeO.bind ?_ (fun _=>?_)
theorem impl_present.mono : ∀ a0 a1 a2 k,LeO (impl_present.f k a0 a1 a2) (impl_present.f (k + 1) a0 a1 a2):=by
 intro a0 a1 a2 k
 have ih0:=impl_present.mono_l k
 unfold impl_present.f
 repeat' first
   | (with_reducible exact ih0 _ _ _ _ _ _)
   | (with_reducible exact LeO.refl _)
   | (with_reducible exact LeO.none _)
   | (with_reducible refine LeO.ite ?_ ?_)
   | (with_reducible refine LeO.bind ?_ (fun _=>?_))
   | exact ih0 _ _ _ _ _ _
   | exact LeO.none _
   | refine LeO.ite ?_ ?_
   | refine LeO.bind ?_ (fun _=>?_)
set_option maxHeartbeats 8000000 in
set_option maxRecDepth 100000 in
theorem impl_present.calls (k : Nat) (A0 : Option Addr) (c0 : Nat) (l0 : List (S38)) (a1_0 : Int) (a1_1 : Int) (r : List (S83)) (w : World) (hr0 : Kd.C k38 w A0 l0.length l0) (hc0 : l0.length ≤ c0) (h : impl_present.f k l0 a1_0 a1_1 = some r) :
  Calls Try.prog 78 #[.slice A0 l0.length c0,.agg #[.int .i64 a1_0,.int .i64 a1_1]] w fun e w'=>∃ v0_ : Value,e = .returned (v0_) ∧ Kd.R k83 83 w' w.heap.size (fun _=>True) v0_ r ∧ Below w.heap.size w w':=by
 have hu36:=Try.underlying36
 have hu38:=Try.underlying38
 have hu83:=Try.underlying83
 have HR0:=Aside0.mk hr0
 have HC0:=Aside0.mk hc0
 clear hr0 hc0
 have HB:=Aside0.mk (Below.refl w.heap.size w)
 have H : (impl_present.l0 k (([] : List (S83))) l0 (l0.length : Int) 0 a1_0 a1_1) = some r:=h
 clear h
 obtain ⟨y300,hy_⟩ : ∃ y_ : List (S83),y_ = (([] : List (S83))):=⟨_,rfl⟩
 replace H : (impl_present.l0 k y300 l0 (l0.length : Int) 0 a1_0 a1_1) = some r:=Q98
 have Ny300:=Aside0.mk hy_
 clear hy_
 have H':=Aside0.mk H
 clear H
 go_enter Try.func78,Try.ntmps78
 go_wp2_with (first|((with_reducible refine gate_dst (N:=3) rfl ?_);refine box_event ?hg (N:=3) ?hd (cs:=#[.int .i64 a1_0,.int .i64 a1_1]) (t:=36) ?hr ?_;(case hd=>rfl);(case hg=>rfl);(case hr=>first|(go_simp;done)|(go_simp;rfl));intro gb299 hg w3 hbox hb;have n0_:=Aside0.mk (below_step Q46 hb);have n1_:=Aside0.mk (hbox);have n2_:=Aside0.mk ((Q106 : w.heap.size ≤ gb299));have n3_:=n2_;clear HB;have HB:=n0_;have BK299:=n1_;have GW299:=n2_;have GE299:=n3_;clear n0_ n1_ n2_ n3_;clear hb hbox hg)|((with_reducible refine gate_dst (N:=8) rfl ?_);refine Kd.R_lit k83 _ 83 ?hg (N:=8) ?hd (xs:=([] : List (S83))) (inner:=[]) (ok:=fun _=>True) (okp:=fun _=>True) ?hr ?hp (fun _ hk=>hk) trivial (Below.refl _ _) (Nat.le_refl _) Q0 ?_;(case hd=>rfl);(case hg=>rfl);(case hr=>first|(go_simp;done)|(go_simp;rfl));(case hp=>exact (Reps.none _ _));intro v301 w4 ho5 hb hg_ hnew_;clear hg_ hnew_;(first|rw [← Ny300.out] at ho5|(simp only [Int.reduceToNat] at ho5;rw [← Ny300.out] at ho5));have n0_:=Aside0.mk (Kd.R_lower ho5 (below_size Q64));have n1_:=Aside0.mk (blk_below (g:=gb299) (o:=.cells #[.int .i64 a1_0,.int .i64 a1_1] 36 (0,0)) Q36 hb);have n2_:=Aside0.mk (below_step Q64 hb);clear BK299;clear HB;have HO302:=n0_;have BK299:=n1_;have HB:=n2_;clear n0_ n1_ n2_;clear hb ho5))
 go_loopg [5,11] k (fun kq v5 v11 w'=>∃ (x5_1 : List (S83)) (x11_1 : Int),v11 = .int .i64 x11_1 ∧ Aside0 (impl_present.l0 kq x5_1 l0 (l0.length : Int) x11_1 a1_0 a1_1 = some r) ∧ Aside0 (kq ≤ k) ∧ Aside0 (Kd.R k83 83 w' w.heap.size (fun _=>True) v5 x5_1) ∧ Aside0 (w'.heap[gb299]? = some (.cells #[.int .i64 a1_0,.int .i64 a1_1] 36 (0,0))) ∧ Aside0 (Below w.heap.size w w'))
 case atStart=>exact ⟨(y300),(0),Q7,H',⟨Nat.le_refl _⟩,⟨by (with_reducible repeat (first|apply Kd.R_alloc|apply Kd.R_drewN|apply Kd.R_drew));exact HO302.out⟩,⟨Q36⟩,⟨Q64⟩⟩
 case round =>
  clear H'
  try clear p2
  obtain ⟨x5_1,x11_1,rfl,HA,HK1,HO_5,BK299,HB⟩:=hrel
  cases gk with
  | zero=>exact absurd HA.out (by simp [impl_present.l0])
  | succ k1 =>
   have H:=HA.out
   clear HA
   simp only [impl_present.l0] at H
   by_cases c6 : x11_1 < (l0.length : Int)
   ·rw [if_pos c6] at H
    have c6b0 : decide (x11_1 < (l0.length : Int)) = true:=decide_eq_true c6
    clear c6
    by_cases c7 : 0 ≤ x11_1
    ·rw [if_pos c7] at H
     have c7b0 : decide (0 ≤ x11_1) = true:=decide_eq_true c7
     clear c7
     by_cases c8 : x11_1 < (l0.length : Int)
     ·rw [if_pos c8] at H
      have c8b0 : decide (x11_1 < (l0.length : Int)) = true:=decide_eq_true c8
      clear c8
      replace H:=Option.bind_eq_some_iff.mp H
      obtain ⟨t305,A90,H⟩:=H
      replace H : (if t305 = true then (if x5_1.length < 5864062014805 then (impl_present.l0 k1 (x5_1 ++ [(⟨(rd_T38 l0 x11_1).f0,(rd_T38 l0 x11_1).f1,(rd_T38 l0 x11_1).f3⟩ : S83)]) l0 (l0.length : Int) (wrap64 (x11_1 + 1)) a1_0 a1_1) else (none)) else (impl_present.l0 k1 x5_1 l0 (l0.length : Int) (wrap64 (x11_1 + 1)) a1_0 a1_1)) = some r:=H
      have A9:=Aside0.mk A90
      clear A90
      by_cases c10 : t305 = true
      ·subst c10
       have H1 : (if x5_1.length < 5864062014805 then (impl_present.l0 k1 (x5_1 ++ [(⟨(rd_T38 l0 x11_1).f0,(rd_T38 l0 x11_1).f1,(rd_T38 l0 x11_1).f3⟩ : S83)]) l0 (l0.length : Int) (wrap64 (x11_1 + 1)) a1_0 a1_1) else (none)) = some r:=by rw [if_pos rfl] at H;exact H
       clear H
       have H:=H1
       clear H1
       by_cases c11 : x5_1.length < 5864062014805
       ·rw [if_pos c11] at H
        have LMc11:=Aside0.mk c11
        clear c11
        obtain ⟨y306,hy_⟩ : ∃ y_ : List (S83),y_ = (x5_1 ++ [(⟨(rd_T38 l0 x11_1).f0,(rd_T38 l0 x11_1).f1,(rd_T38 l0 x11_1).f3⟩ : S83)]):=⟨_,rfl⟩
        replace H : (impl_present.l0 k1 y306 l0 (l0.length : Int) (wrap64 (x11_1 + 1)) a1_0 a1_1) = some r:=Q98
        have Ny306:=Aside0.mk hy_
        clear hy_
        have H':=Aside0.mk H
        clear H
        have p303 : 0 ≤ (x11_1 : Int):=of_decide_eq_true Q8
        have q303 : x11_1 < (l0.length : Int):=of_decide_eq_true Q8
        obtain ⟨ad303,e303,hx303_0,hx303_1,hx303_2,hx303_3,hx303_4⟩:=at_T38 HR0.out x11_1 p303 q303
        cases e303
        replace hx303_0:=cb_ HB hx303_0
        replace hx303_1:=cb_ HB hx303_1
        replace hx303_2:=cb_ HB hx303_2
        replace hx303_3:=cb_ HB hx303_3
        replace hx303_4:=cb_ HB hx303_4
        replace p303:=eq_true p303
        replace q303:=eq_true q303
        go_wp2_with (first|((with_reducible refine gate_dst (N:=7) rfl ?_);refine box_event ?hg (N:=7) ?hd (cs:=#[.int .i64 0,.int .i64 0,.int .i64 0,.int .i64 0,.int .i64 0]) (t:=38) ?hr ?_;(case hd=>rfl);(case hg=>rfl);(case hr=>first|(go_simp;done)|(go_simp;rfl));intro gb304 hg w12 hbox hb;have n0_:=Aside0.mk (Kd.R_below Q13 hb);have n1_:=Aside0.mk (blk_below (g:=gb299) (o:=.cells #[.int .i64 a1_0,.int .i64 a1_1] 36 (0,0)) Q36 hb);have n2_:=Aside0.mk (below_step Q64 hb);have n3_:=Aside0.mk (hbox);have n4_:=Aside0.mk ((by rw [hg];exact (below_size Q64) : w.heap.size ≤ gb304));have n5_:=n4_;have n6_:=Aside0.mk ((by rw [hg];exact Nat.ne_of_lt (blk_lt (g:=gb299) (o:=.cells #[.int .i64 a1_0,.int .i64 a1_1] 36 (0,0)) Q36) : gb299 ≠ gb304));have n7_:=Aside0.mk ((by rw [hg];exact Nat.ne_of_gt (blk_lt (g:=gb299) (o:=.cells #[.int .i64 a1_0,.int .i64 a1_1] 36 (0,0)) Q36) : gb304 ≠ gb299));clear HO_5;clear BK299;clear HB;have HO_5:=n0_;have BK299:=n1_;have HB:=n2_;have BK304:=n3_;have GW304:=n4_;have GE304:=n5_;have NB299_304:=n6_;have NB304_299:=n7_;clear n0_ n1_ n2_ n3_ n4_ n5_ n6_ n7_;clear hb hbox hg;have hnb13:=NB304_299.out;have hnc13:=NB299_304.out;obtain ⟨hcz14_0,hcz14_1,hcz14_2,hcz14_3,hcz14_4,hfz14_0,hfz14_1,hfz14_2,hfz14_3,hfz14_4⟩:=bx5_ BK304;obtain ⟨hcz15_0,hcz15_1,hfz15_0,hfz15_1⟩:=bx2_ BK299)|((with_reducible refine gate_callee (f:=90) rfl ?_);refine goesL_ (some 18) rfl rfl Try.func90 Q2 rfl #[.agg #[.int .i64 ((rd_T38 l0 x11_1).f2.f0),.int .i64 ((rd_T38 l0 x11_1).f2.f1)],.agg #[.int .i64 a1_0,.int .i64 a1_1]] rfl Q50 ?_;(with_reducible refine (impl_below.calls ((rd_T38 l0 x11_1).f2.f0) ((rd_T38 l0 x11_1).f2.f1) a1_0 a1_1 true _ A9.out).mono ?_);rintro e w16 ⟨rfl,hb⟩;refine ⟨_,rfl,?_⟩;have n0_:=Aside0.mk (Kd.R_below (by (with_reducible repeat (first|apply Kd.R_alloc|apply Kd.R_drewN|apply Kd.R_drew));exact (Kd.R_mono (Kd.R_far (p:=⟨gb304,4,none⟩) (Kd.R_far (p:=⟨gb304,3,none⟩) (Kd.R_far (p:=⟨gb304,2,none⟩) (Kd.R_far (p:=⟨gb304,1,none⟩) (Kd.R_far (p:=⟨gb304,0,none⟩) (Kd.R_types HO_5.out BK304.out Q1) (fun _ hk=>hk.2) (.int .i64 ((rd_T38 l0 x11_1).f0))) (fun _ hk=>hk.2) (.int .i64 ((rd_T38 l0 x11_1).f1))) (fun _ hk=>hk.2) (.int .i64 ((rd_T38 l0 x11_1).f2.f0))) (fun _ hk=>hk.2) (.int .i64 ((rd_T38 l0 x11_1).f2.f1))) (fun _ hk=>hk.2) (.int .i64 ((rd_T38 l0 x11_1).f3))) (fun _ h_=>h_.1))) hb);have n1_:=Aside0.mk (blk_below (g:=gb299) (o:=.cells #[.int .i64 a1_0,.int .i64 a1_1] 36 (0,0)) (by (with_reducible repeat (first|refine blk_drewN ?_ _|refine blk_drew ?_|refine blk_alloc ?_ _));refine blk_far ?_ NB299_304.out _;(with_reducible repeat (first|refine blk_drewN ?_ _|refine blk_drew ?_|refine blk_alloc ?_ _));refine blk_far ?_ NB299_304.out _;(with_reducible repeat (first|refine blk_drewN ?_ _|refine blk_drew ?_|refine blk_alloc ?_ _));refine blk_far ?_ NB299_304.out _;(with_reducible repeat (first|refine blk_drewN ?_ _|refine blk_drew ?_|refine blk_alloc ?_ _));refine blk_far ?_ NB299_304.out _;(with_reducible repeat (first|refine blk_drewN ?_ _|refine blk_drew ?_|refine blk_alloc ?_ _));refine blk_far ?_ NB299_304.out _;(with_reducible repeat (first|refine blk_drewN ?_ _|refine blk_drew ?_|refine blk_alloc ?_ _));exact BK299.out) hb);have n2_:=Aside0.mk (blk_below (g:=gb304) (o:=.cells #[.int .i64 ((rd_T38 l0 x11_1).f0),.int .i64 ((rd_T38 l0 x11_1).f1),.int .i64 ((rd_T38 l0 x11_1).f2.f0),.int .i64 ((rd_T38 l0 x11_1).f2.f1),.int .i64 ((rd_T38 l0 x11_1).f3)] 38 (0,0)) (by (with_reducible repeat (first|refine blk_drewN ?_ _|refine blk_drew ?_|refine blk_alloc ?_ _));refine blk_put (cs:=#[.int .i64 ((rd_T38 l0 x11_1).f0),.int .i64 ((rd_T38 l0 x11_1).f1),.int .i64 ((rd_T38 l0 x11_1).f2.f0),.int .i64 ((rd_T38 l0 x11_1).f2.f1),.int .i64 0]) ?_ 4 _ rfl;(with_reducible repeat (first|refine blk_drewN ?_ _|refine blk_drew ?_|refine blk_alloc ?_ _));refine blk_put (cs:=#[.int .i64 ((rd_T38 l0 x11_1).f0),.int .i64 ((rd_T38 l0 x11_1).f1),.int .i64 ((rd_T38 l0 x11_1).f2.f0),.int .i64 0,.int .i64 0]) ?_ 3 _ rfl;(with_reducible repeat (first|refine blk_drewN ?_ _|refine blk_drew ?_|refine blk_alloc ?_ _));refine blk_put (cs:=#[.int .i64 ((rd_T38 l0 x11_1).f0),.int .i64 ((rd_T38 l0 x11_1).f1),.int .i64 0,.int .i64 0,.int .i64 0]) ?_ 2 _ rfl;(with_reducible repeat (first|refine blk_drewN ?_ _|refine blk_drew ?_|refine blk_alloc ?_ _));refine blk_put (cs:=#[.int .i64 ((rd_T38 l0 x11_1).f0),.int .i64 0,.int .i64 0,.int .i64 0,.int .i64 0]) ?_ 1 _ rfl;(with_reducible repeat (first|refine blk_drewN ?_ _|refine blk_drew ?_|refine blk_alloc ?_ _));refine blk_put (cs:=#[.int .i64 0,.int .i64 0,.int .i64 0,.int .i64 0,.int .i64 0]) ?_ 0 _ rfl;(with_reducible repeat (first|refine blk_drewN ?_ _|refine blk_drew ?_|refine blk_alloc ?_ _));exact BK304.out) hb);have n3_:=Aside0.mk (below_step Q88 hb);clear HO_5;clear BK299;clear BK304;clear HB;have HO_5:=n0_;have BK299:=n1_;have BK304:=n2_;have HB:=n3_;clear n0_ n1_ n2_ n3_;(try clear hb);(try clear hb2);(try clear hk);(try clear hi);obtain ⟨hcz17_0,hcz17_1,hcz17_2,hcz17_3,hcz17_4,hfz17_0,hfz17_1,hfz17_2,hfz17_3,hfz17_4⟩:=bx5_ BK304)|((with_reducible refine gate_builtin (b:=.append) (xs:=#[.tmp 19,.tmp 27]) rfl ?_);at_builtin;refine Kd.R_append k83 (w0:=w) w.heap.size rfl (.tmp 19) (.tmp 27) 57 83 (.agg #[(.int .i64 0),(.int .i64 0),(.int .i64 0)]) 24 rfl Try.underlying57 info83 rfl Q1 (by omega) u5 x5_1 (⟨(rd_T38 l0 x11_1).f0,(rd_T38 l0 x11_1).f1,(rd_T38 l0 x11_1).f3⟩ : S83) [.int .i64 ((rd_T38 l0 x11_1).f0),.int .i64 ((rd_T38 l0 x11_1).f1),.int .i64 ((rd_T38 l0 x11_1).f3)] (fun _=>True) (fun _=>False) rfl rfl ?aP (fun _ hk=>hk.elim) ?aF ?aO ?aB ?aS ?aL ?_;(case aP=>exact k83_mkM _ _ _ (⟨(rd_T38 l0 x11_1).f0,(rd_T38 l0 x11_1).f1,(rd_T38 l0 x11_1).f3⟩ : S83));(case aB=>exact Q88);(case aF=>exact (fun _ _=>trivial));(case aO=>exact Q13);(case aS=>exact (below_size Q88));(case aL=>have:=LMc11.out;omega);intro v307 w18 ho hb hg hat;rw [← Ny306.out] at ho;have n0_:=Aside0.mk (blk_grown (g:=gb299) (o:=.cells #[.int .i64 a1_0,.int .i64 a1_1] 36 (0,0)) Q36 hg (Kd.R_ne HO_5.out BK299.out Q1));have n1_:=Aside0.mk (blk_grown (g:=gb304) (o:=.cells #[.int .i64 ((rd_T38 l0 x11_1).f0),.int .i64 ((rd_T38 l0 x11_1).f1),.int .i64 ((rd_T38 l0 x11_1).f2.f0),.int .i64 ((rd_T38 l0 x11_1).f2.f1),.int .i64 ((rd_T38 l0 x11_1).f3)] 38 (0,0)) (by (with_reducible repeat (first|refine blk_drewN ?_ _|refine blk_drew ?_|refine blk_alloc ?_ _));exact BK304.out) hg (Kd.R_ne HO_5.out BK304.out Q1));have n2_:=Aside0.mk (hb);have n3_:=Aside0.mk (ho);clear BK299;clear BK304;clear HB;clear HO_5;have BK299:=n0_;have BK304:=n1_;have HB:=n2_;have HO308:=n3_;clear n0_ n1_ n2_ n3_;clear ho hb hg hat))
        go_roundg k1
        case measure=>have:=HK1.out;omega
        case rel=>exact ⟨(y306),(wrap64 (x11_1 + 1)),Q7,H',⟨Q4⟩,⟨by (with_reducible repeat (first|apply Kd.R_alloc|apply Kd.R_drewN|apply Kd.R_drew));exact HO308.out⟩,⟨Q36⟩,⟨Q88⟩⟩
       ·rw [if_neg c11] at H
        exact absurd H Q0
      ·replace c10:=Bool.eq_false_iff.mpr c10
       subst c10
       have H1 : (impl_present.l0 k1 x5_1 l0 (l0.length : Int) (wrap64 (x11_1 + 1)) a1_0 a1_1) = some r:=by rw [if_neg (show ¬ (false = true) by decide)] at H;exact H
       clear H
       have H:=H1
       clear H1
       have H':=Aside0.mk H
       clear H
       have p303 : 0 ≤ (x11_1 : Int):=of_decide_eq_true Q8
       have q303 : x11_1 < (l0.length : Int):=of_decide_eq_true Q8
       obtain ⟨ad303,e303,hx303_0,hx303_1,hx303_2,hx303_3,hx303_4⟩:=at_T38 HR0.out x11_1 p303 q303
       cases e303
       replace hx303_0:=cb_ HB hx303_0
       replace hx303_1:=cb_ HB hx303_1
       replace hx303_2:=cb_ HB hx303_2
       replace hx303_3:=cb_ HB hx303_3
       replace hx303_4:=cb_ HB hx303_4
       replace p303:=eq_true p303
       replace q303:=eq_true q303
       go_wp2_with (first|((with_reducible refine gate_dst (N:=7) rfl ?_);refine box_event ?hg (N:=7) ?hd (cs:=#[.int .i64 0,.int .i64 0,.int .i64 0,.int .i64 0,.int .i64 0]) (t:=38) ?hr ?_;(case hd=>rfl);(case hg=>rfl);(case hr=>first|(go_simp;done)|(go_simp;rfl));intro gb304 hg w19 hbox hb;have n0_:=Aside0.mk (Kd.R_below Q13 hb);have n1_:=Aside0.mk (blk_below (g:=gb299) (o:=.cells #[.int .i64 a1_0,.int .i64 a1_1] 36 (0,0)) Q36 hb);have n2_:=Aside0.mk (below_step Q64 hb);have n3_:=Aside0.mk (hbox);have n4_:=Aside0.mk ((by rw [hg];exact (below_size Q64) : w.heap.size ≤ gb304));have n5_:=n4_;have n6_:=Aside0.mk ((by rw [hg];exact Nat.ne_of_lt (blk_lt (g:=gb299) (o:=.cells #[.int .i64 a1_0,.int .i64 a1_1] 36 (0,0)) Q36) : gb299 ≠ gb304));have n7_:=Aside0.mk ((by rw [hg];exact Nat.ne_of_gt (blk_lt (g:=gb299) (o:=.cells #[.int .i64 a1_0,.int .i64 a1_1] 36 (0,0)) Q36) : gb304 ≠ gb299));clear HO_5;clear BK299;clear HB;have HO_5:=n0_;have BK299:=n1_;have HB:=n2_;have BK304:=n3_;have GW304:=n4_;have GE304:=n5_;have NB299_304:=n6_;have NB304_299:=n7_;clear n0_ n1_ n2_ n3_ n4_ n5_ n6_ n7_;clear hb hbox hg;have hnb20:=NB304_299.out;have hnc20:=NB299_304.out;obtain ⟨hcz21_0,hcz21_1,hcz21_2,hcz21_3,hcz21_4,hfz21_0,hfz21_1,hfz21_2,hfz21_3,hfz21_4⟩:=bx5_ BK304;obtain ⟨hcz22_0,hcz22_1,hfz22_0,hfz22_1⟩:=bx2_ BK299)|((with_reducible refine gate_callee (f:=90) rfl ?_);refine goesL_ (some 18) rfl rfl Try.func90 Q2 rfl #[.agg #[.int .i64 ((rd_T38 l0 x11_1).f2.f0),.int .i64 ((rd_T38 l0 x11_1).f2.f1)],.agg #[.int .i64 a1_0,.int .i64 a1_1]] rfl Q50 ?_;(with_reducible refine (impl_below.calls ((rd_T38 l0 x11_1).f2.f0) ((rd_T38 l0 x11_1).f2.f1) a1_0 a1_1 false _ A9.out).mono ?_);rintro e w23 ⟨rfl,hb⟩;refine ⟨_,rfl,?_⟩;have n0_:=Aside0.mk (Kd.R_below (by (with_reducible repeat (first|apply Kd.R_alloc|apply Kd.R_drewN|apply Kd.R_drew));exact (Kd.R_mono (Kd.R_far (p:=⟨gb304,4,none⟩) (Kd.R_far (p:=⟨gb304,3,none⟩) (Kd.R_far (p:=⟨gb304,2,none⟩) (Kd.R_far (p:=⟨gb304,1,none⟩) (Kd.R_far (p:=⟨gb304,0,none⟩) (Kd.R_types HO_5.out BK304.out Q1) (fun _ hk=>hk.2) (.int .i64 ((rd_T38 l0 x11_1).f0))) (fun _ hk=>hk.2) (.int .i64 ((rd_T38 l0 x11_1).f1))) (fun _ hk=>hk.2) (.int .i64 ((rd_T38 l0 x11_1).f2.f0))) (fun _ hk=>hk.2) (.int .i64 ((rd_T38 l0 x11_1).f2.f1))) (fun _ hk=>hk.2) (.int .i64 ((rd_T38 l0 x11_1).f3))) (fun _ h_=>h_.1))) hb);have n1_:=Aside0.mk (blk_below (g:=gb299) (o:=.cells #[.int .i64 a1_0,.int .i64 a1_1] 36 (0,0)) (by (with_reducible repeat (first|refine blk_drewN ?_ _|refine blk_drew ?_|refine blk_alloc ?_ _));refine blk_far ?_ NB299_304.out _;(with_reducible repeat (first|refine blk_drewN ?_ _|refine blk_drew ?_|refine blk_alloc ?_ _));refine blk_far ?_ NB299_304.out _;(with_reducible repeat (first|refine blk_drewN ?_ _|refine blk_drew ?_|refine blk_alloc ?_ _));refine blk_far ?_ NB299_304.out _;(with_reducible repeat (first|refine blk_drewN ?_ _|refine blk_drew ?_|refine blk_alloc ?_ _));refine blk_far ?_ NB299_304.out _;(with_reducible repeat (first|refine blk_drewN ?_ _|refine blk_drew ?_|refine blk_alloc ?_ _));refine blk_far ?_ NB299_304.out _;(with_reducible repeat (first|refine blk_drewN ?_ _|refine blk_drew ?_|refine blk_alloc ?_ _));exact BK299.out) hb);have n2_:=Aside0.mk (blk_below (g:=gb304) (o:=.cells #[.int .i64 ((rd_T38 l0 x11_1).f0),.int .i64 ((rd_T38 l0 x11_1).f1),.int .i64 ((rd_T38 l0 x11_1).f2.f0),.int .i64 ((rd_T38 l0 x11_1).f2.f1),.int .i64 ((rd_T38 l0 x11_1).f3)] 38 (0,0)) (by (with_reducible repeat (first|refine blk_drewN ?_ _|refine blk_drew ?_|refine blk_alloc ?_ _));refine blk_put (cs:=#[.int .i64 ((rd_T38 l0 x11_1).f0),.int .i64 ((rd_T38 l0 x11_1).f1),.int .i64 ((rd_T38 l0 x11_1).f2.f0),.int .i64 ((rd_T38 l0 x11_1).f2.f1),.int .i64 0]) ?_ 4 _ rfl;(with_reducible repeat (first|refine blk_drewN ?_ _|refine blk_drew ?_|refine blk_alloc ?_ _));refine blk_put (cs:=#[.int .i64 ((rd_T38 l0 x11_1).f0),.int .i64 ((rd_T38 l0 x11_1).f1),.int .i64 ((rd_T38 l0 x11_1).f2.f0),.int .i64 0,.int .i64 0]) ?_ 3 _ rfl;(with_reducible repeat (first|refine blk_drewN ?_ _|refine blk_drew ?_|refine blk_alloc ?_ _));refine blk_put (cs:=#[.int .i64 ((rd_T38 l0 x11_1).f0),.int .i64 ((rd_T38 l0 x11_1).f1),.int .i64 0,.int .i64 0,.int .i64 0]) ?_ 2 _ rfl;(with_reducible repeat (first|refine blk_drewN ?_ _|refine blk_drew ?_|refine blk_alloc ?_ _));refine blk_put (cs:=#[.int .i64 ((rd_T38 l0 x11_1).f0),.int .i64 0,.int .i64 0,.int .i64 0,.int .i64 0]) ?_ 1 _ rfl;(with_reducible repeat (first|refine blk_drewN ?_ _|refine blk_drew ?_|refine blk_alloc ?_ _));refine blk_put (cs:=#[.int .i64 0,.int .i64 0,.int .i64 0,.int .i64 0,.int .i64 0]) ?_ 0 _ rfl;(with_reducible repeat (first|refine blk_drewN ?_ _|refine blk_drew ?_|refine blk_alloc ?_ _));exact BK304.out) hb);have n3_:=Aside0.mk (below_step Q88 hb);clear HO_5;clear BK299;clear BK304;clear HB;have HO_5:=n0_;have BK299:=n1_;have BK304:=n2_;have HB:=n3_;clear n0_ n1_ n2_ n3_;(try clear hb);(try clear hb2);(try clear hk);(try clear hi)))
       go_roundg k1
       case measure=>have:=HK1.out;omega
       case rel=>exact ⟨(x5_1),(wrap64 (x11_1 + 1)),Q7,H',⟨Q4⟩,⟨Q13⟩,⟨Q36⟩,⟨Q88⟩⟩
     ·rw [if_neg c8] at H
      exact absurd H Q0
    ·rw [if_neg c7] at H
     exact absurd H Q0
   ·rw [if_neg c6] at H
    have c6b0 : decide (x11_1 < (l0.length : Int)) = false:=decide_eq_false c6
    clear c6
    replace H:=Option.bind_eq_some_iff.mp H
    obtain ⟨t309,A240,H⟩:=H
    replace H : (some t309) = some r:=H
    have A24:=Aside0.mk A240
    clear A240
    obtain rfl:=Option.some.inj H
    obtain ⟨Ao25,co25,eo25⟩:=Kd.R_slice HO_5.out
    subst eo25
    go_wp2_with (first|((with_reducible refine gate_callee (f:=93) rfl ?_);refine goesL_ (some 31) rfl rfl Try.func93 Q2 rfl #[.slice Ao25 x5_1.length co25] rfl Q50 ?_;(with_reducible refine (impl_gathered.calls _ _ x5_1 t309 _ ?side1 ?side2 A24.out).mono ?_);(case side1=>exact (by repeat (first|exact (Kd.R_reads' HO_5.out).2.2|(with_reducible refine Kd.C_alloc ?_ _)|(with_reducible refine Kd.C_drewN ?_ _)|(with_reducible refine Kd.C_drew ?_))));(case side2=>exact (Kd.R_reads' HO_5.out).2.1);rintro e w26 ⟨v310,rfl,ho0,hb⟩;refine ⟨_,rfl,?_⟩;have n0_:=Aside0.mk (Kd.R_elder' Q13 (Kd.R_base ho0) hb);have n1_:=Aside0.mk (Kd.R_lower (Kd.R_new' ho0 (Kd.R_lt Q13)) (below_size Q64));have n2_:=Aside0.mk (blk_below (g:=gb299) (o:=.cells #[.int .i64 a1_0,.int .i64 a1_1] 36 (0,0)) Q36 hb);have n3_:=Aside0.mk (below_step Q64 hb);clear HO_5;clear BK299;clear HB;have HO_5:=n0_;have HO311:=n1_;have BK299:=n2_;have HB:=n3_;clear n0_ n1_ n2_ n3_;(try clear hb);(try clear hb2);(try clear hk);(try clear hi);(try clear ho0)))
    go_ret
    exact ⟨_,Q11,by (with_reducible repeat (first|apply Kd.R_alloc|apply Kd.R_drewN|apply Kd.R_drew));exact Kd.R_mono HO311.out (fun _ hk=>trivial),Q64⟩
def impl_BatchAt.f (k : Nat) (l0 : List (S38)) (a1_0 : Int) (a1_1 : Int) : Option ((List (S83))) := (impl_RowsOk.f k l0).bind fun t313 => (if t313 = true then ((impl_TimeOk.f a1_0 a1_1).bind fun t314 => (if t314 = true then ((impl_present.f k l0 a1_0 a1_1).bind fun t315 => (some t315)) else (some ([] : List (S83))))) else (some ([] : List (S83))))
theorem impl_BatchAt.mono : ∀ a0 a1 a2 k,LeO (impl_BatchAt.f k a0 a1 a2) (impl_BatchAt.f (k + 1) a0 a1 a2):=by
 intro a0 a1 a2 k
 unfold impl_BatchAt.f
 repeat' first
   | (with_reducible exact impl_RowsOk.mono _ _)
   | (with_reducible exact impl_present.mono _ _ _ _)
   | (with_reducible exact LeO.refl _)
   | (with_reducible exact LeO.none _)
   | (with_reducible refine LeO.ite ?_ ?_)
   | (with_reducible refine LeO.bind ?_ (fun _=>?_))
   | exact impl_RowsOk.mono _ _
   | exact impl_present.mono _ _ _ _
   | exact LeO.none _
   | refine LeO.ite ?_ ?_
   | refine LeO.bind ?_ (fun _=>?_)
set_option maxHeartbeats 8000000 in
set_option maxRecDepth 100000 in
theorem impl_BatchAt.calls (k : Nat) (A0 : Option Addr) (c0 : Nat) (l0 : List (S38)) (a1_0 : Int) (a1_1 : Int) (r : List (S83)) (w : World) (hr0 : Kd.C k38 w A0 l0.length l0) (hc0 : l0.length ≤ c0) (h : impl_BatchAt.f k l0 a1_0 a1_1 = some r) :
  Calls Try.prog 46 #[.slice A0 l0.length c0,.agg #[.int .i64 a1_0,.int .i64 a1_1]] w fun e w'=>∃ v0_ : Value,e = .returned (v0_) ∧ Kd.R k83 83 w' w.heap.size (fun _=>True) v0_ r ∧ Below w.heap.size w w':=by
 have hu36:=Try.underlying36
 have HR0:=Aside0.mk hr0
 have HC0:=Aside0.mk hc0
 clear hr0 hc0
 have HB:=Aside0.mk (Below.refl w.heap.size w)
 have H : ((impl_RowsOk.f k l0).bind fun t313=>(if t313 = true then ((impl_TimeOk.f a1_0 a1_1).bind fun t314=>(if t314 = true then ((impl_present.f k l0 a1_0 a1_1).bind fun t315=>(some t315)) else (some ([] : List (S83))))) else (some ([] : List (S83))))) = some r:=h
 clear h
 replace H:=Option.bind_eq_some_iff.mp H
 obtain ⟨t313,A30,H⟩:=H
 replace H : (if t313 = true then ((impl_TimeOk.f a1_0 a1_1).bind fun t314=>(if t314 = true then ((impl_present.f k l0 a1_0 a1_1).bind fun t315=>(some t315)) else (some ([] : List (S83))))) else (some ([] : List (S83)))) = some r:=H
 have A3:=Aside0.mk A30
 clear A30
 by_cases c4 : t313 = true
 ·subst c4
  have H1 : ((impl_TimeOk.f a1_0 a1_1).bind fun t314=>(if t314 = true then ((impl_present.f k l0 a1_0 a1_1).bind fun t315=>(some t315)) else (some ([] : List (S83))))) = some r:=by rw [if_pos rfl] at H;exact H
  clear H
  have H:=H1
  clear H1
  replace H:=Option.bind_eq_some_iff.mp H
  obtain ⟨t314,A50,H⟩:=H
  replace H : (if t314 = true then ((impl_present.f k l0 a1_0 a1_1).bind fun t315=>(some t315)) else (some ([] : List (S83)))) = some r:=H
  have A5:=Aside0.mk A50
  clear A50
  by_cases c6 : t314 = true
  ·subst c6
   have H1 : ((impl_present.f k l0 a1_0 a1_1).bind fun t315=>(some t315)) = some r:=by rw [if_pos rfl] at H;exact H
   clear H
   have H:=H1
   clear H1
   replace H:=Option.bind_eq_some_iff.mp H
   obtain ⟨t315,A70,H⟩:=H
   replace H : (some t315) = some r:=H
   have A7:=Aside0.mk A70
   clear A70
   obtain rfl:=Option.some.inj H
   go_enter Try.func46,Try.ntmps46
   go_wp2_with (first|((with_reducible refine gate_dst (N:=3) rfl ?_);refine box_event ?hg (N:=3) ?hd (cs:=#[.int .i64 a1_0,.int .i64 a1_1]) (t:=36) ?hr ?_;(case hd=>rfl);(case hg=>rfl);(case hr=>first|(go_simp;done)|(go_simp;rfl));intro gb312 hg w8 hbox hb;have n0_:=Aside0.mk (below_step Q46 hb);have n1_:=Aside0.mk (hbox);have n2_:=Aside0.mk ((Q106 : w.heap.size ≤ gb312));have n3_:=n2_;clear HB;have HB:=n0_;have BK312:=n1_;have GW312:=n2_;have GE312:=n3_;clear n0_ n1_ n2_ n3_;clear hb hbox hg)|((with_reducible refine gate_callee (f:=39) rfl ?_);refine goesL_ (some 6) rfl rfl Try.func39 Q2 rfl #[.slice A0 l0.length c0] rfl Q50 ?_;(with_reducible refine (impl_RowsOk.calls k _ _ l0 true _ ?side1 ?side2 A3.out).mono ?_);(case side1=>exact Q73);(case side2=>exact HC0.out);rintro e w9 ⟨rfl,hb⟩;refine ⟨_,rfl,?_⟩;have n0_:=Aside0.mk (blk_below (g:=gb312) (o:=.cells #[.int .i64 a1_0,.int .i64 a1_1] 36 (0,0)) Q37 hb);have n1_:=Aside0.mk (below_step Q65 hb);clear BK312;clear HB;have BK312:=n0_;have HB:=n1_;clear n0_ n1_;(try clear hb);(try clear hb2);(try clear hk);(try clear hi);obtain ⟨hcz10_0,hcz10_1,hfz10_0,hfz10_1⟩:=bx2_ BK312)|(go_at_call 62;(with_reducible refine (impl_TimeOk.calls a1_0 a1_1 true _ A5.out).mono ?_);rintro e w11 ⟨rfl,hb⟩;have n0_:=Aside0.mk (blk_below (g:=gb312) (o:=.cells #[.int .i64 a1_0,.int .i64 a1_1] 36 (0,0)) Q37 hb);have n1_:=Aside0.mk (below_step Q65 hb);clear BK312;clear HB;have BK312:=n0_;have HB:=n1_;clear n0_ n1_;(try clear hb);(try clear hb2);(try clear hk);(try clear hi);obtain ⟨hcz12_0,hcz12_1,hfz12_0,hfz12_1⟩:=bx2_ BK312)|((with_reducible refine gate_callee (f:=78) rfl ?_);refine goesL_ (some 15) rfl rfl Try.func78 Q2 rfl #[.slice A0 l0.length c0,.agg #[.int .i64 a1_0,.int .i64 a1_1]] rfl Q50 ?_;(with_reducible refine (impl_present.calls k _ _ l0 a1_0 a1_1 t315 _ ?side1 ?side2 A7.out).mono ?_);(case side1=>exact Q73);(case side2=>exact HC0.out);rintro e w13 ⟨v316,rfl,ho0,hb⟩;refine ⟨_,rfl,?_⟩;have n0_:=Aside0.mk (Kd.R_lower ho0 (below_size Q65));have n1_:=Aside0.mk (blk_below (g:=gb312) (o:=.cells #[.int .i64 a1_0,.int .i64 a1_1] 36 (0,0)) Q37 hb);have n2_:=Aside0.mk (below_step Q65 hb);clear BK312;clear HB;have HO317:=n0_;have BK312:=n1_;have HB:=n2_;clear n0_ n1_ n2_;(try clear hb);(try clear hb2);(try clear hk);(try clear hi);(try clear ho0)))
   go_ret
   exact ⟨_,Q11,by (with_reducible repeat (first|apply Kd.R_alloc|apply Kd.R_drewN|apply Kd.R_drew));exact HO317.out,Q65⟩
  ·replace c6:=Bool.eq_false_iff.mpr c6
   subst c6
   have H1 : (some ([] : List (S83))) = some r:=by rw [if_neg (show ¬ (false = true) by decide)] at H;exact H
   clear H
   have H:=H1
   clear H1
   obtain rfl:=Option.some.inj H
   go_enter Try.func46,Try.ntmps46
   go_wp2_with (first|((with_reducible refine gate_dst (N:=3) rfl ?_);refine box_event ?hg (N:=3) ?hd (cs:=#[.int .i64 a1_0,.int .i64 a1_1]) (t:=36) ?hr ?_;(case hd=>rfl);(case hg=>rfl);(case hr=>first|(go_simp;done)|(go_simp;rfl));intro gb312 hg w14 hbox hb;have n0_:=Aside0.mk (below_step Q46 hb);have n1_:=Aside0.mk (hbox);have n2_:=Aside0.mk ((Q106 : w.heap.size ≤ gb312));have n3_:=n2_;clear HB;have HB:=n0_;have BK312:=n1_;have GW312:=n2_;have GE312:=n3_;clear n0_ n1_ n2_ n3_;clear hb hbox hg)|((with_reducible refine gate_callee (f:=39) rfl ?_);refine goesL_ (some 6) rfl rfl Try.func39 Q2 rfl #[.slice A0 l0.length c0] rfl Q50 ?_;(with_reducible refine (impl_RowsOk.calls k _ _ l0 true _ ?side1 ?side2 A3.out).mono ?_);(case side1=>exact Q73);(case side2=>exact HC0.out);rintro e w15 ⟨rfl,hb⟩;refine ⟨_,rfl,?_⟩;have n0_:=Aside0.mk (blk_below (g:=gb312) (o:=.cells #[.int .i64 a1_0,.int .i64 a1_1] 36 (0,0)) Q37 hb);have n1_:=Aside0.mk (below_step Q65 hb);clear BK312;clear HB;have BK312:=n0_;have HB:=n1_;clear n0_ n1_;(try clear hb);(try clear hb2);(try clear hk);(try clear hi);obtain ⟨hcz16_0,hcz16_1,hfz16_0,hfz16_1⟩:=bx2_ BK312)|(go_at_call 62;(with_reducible refine (impl_TimeOk.calls a1_0 a1_1 false _ A5.out).mono ?_);rintro e w17 ⟨rfl,hb⟩;have n0_:=Aside0.mk (blk_below (g:=gb312) (o:=.cells #[.int .i64 a1_0,.int .i64 a1_1] 36 (0,0)) Q37 hb);have n1_:=Aside0.mk (below_step Q65 hb);clear BK312;clear HB;have BK312:=n0_;have HB:=n1_;clear n0_ n1_;(try clear hb);(try clear hb2);(try clear hk);(try clear hi)))
   go_ret
   exact ⟨_,Q11,Q51,Q65⟩
 ·replace c4:=Bool.eq_false_iff.mpr c4
  subst c4
  have H1 : (some ([] : List (S83))) = some r:=by rw [if_neg (show ¬ (false = true) by decide)] at H;exact H
  clear H
  have H:=H1
  clear H1
  obtain rfl:=Option.some.inj H
  go_enter Try.func46,Try.ntmps46
  go_wp2_with (first|((with_reducible refine gate_dst (N:=3) rfl ?_);refine box_event ?hg (N:=3) ?hd (cs:=#[.int .i64 a1_0,.int .i64 a1_1]) (t:=36) ?hr ?_;(case hd=>rfl);(case hg=>rfl);(case hr=>first|(go_simp;done)|(go_simp;rfl));intro gb312 hg w18 hbox hb;have n0_:=Aside0.mk (below_step Q46 hb);have n1_:=Aside0.mk (hbox);have n2_:=Aside0.mk ((Q106 : w.heap.size ≤ gb312));have n3_:=n2_;clear HB;have HB:=n0_;have BK312:=n1_;have GW312:=n2_;have GE312:=n3_;clear n0_ n1_ n2_ n3_;clear hb hbox hg)|((with_reducible refine gate_callee (f:=39) rfl ?_);refine goesL_ (some 6) rfl rfl Try.func39 Q2 rfl #[.slice A0 l0.length c0] rfl Q50 ?_;(with_reducible refine (impl_RowsOk.calls k _ _ l0 false _ ?side1 ?side2 A3.out).mono ?_);(case side1=>exact Q73);(case side2=>exact HC0.out);rintro e w19 ⟨rfl,hb⟩;refine ⟨_,rfl,?_⟩;have n0_:=Aside0.mk (blk_below (g:=gb312) (o:=.cells #[.int .i64 a1_0,.int .i64 a1_1] 36 (0,0)) Q37 hb);have n1_:=Aside0.mk (below_step Q65 hb);clear BK312;clear HB;have BK312:=n0_;have HB:=n1_;clear n0_ n1_;(try clear hb);(try clear hb2);(try clear hk);(try clear hi)))
  go_ret
  exact ⟨_,Q11,Q51,Q65⟩
mutual
def laws_lwAll.l0 : Nat → List (S36) → Int → Option ((List (S36)))
 | 0, _, _ => none
 | k + 1, x1, x2 => if x2 ≤ 7 then (laws_lwAll.l1 k x1 x2 0) else (some x1)
def laws_lwAll.l1 : Nat → List (S36) → Int → Int → Option ((List (S36)))
 | 0, _, _, _ => none
 | k + 1, x1, x2, x3 => if x3 ≤ 7 then (if x1.length < 8796093022208 then (laws_lwAll.l1 k (x1 ++ [(⟨x2, x3⟩ : S36)]) x2 (wrap64 (x3 + 1))) else (none)) else (laws_lwAll.l0 k x1 (wrap64 (x2 + 1)))
end
def laws_lwAll.f (k : Nat)  : Option ((List (S36))) := laws_lwAll.l0 k (([] : List (S36))) 0
theorem laws_lwAll.mono_l : ∀ k,(∀ y0 y1,LeO (laws_lwAll.l0 k y0 y1) (laws_lwAll.l0 (k + 1) y0 y1)) ∧ (∀ y0 y1 y2,LeO (laws_lwAll.l1 k y0 y1 y2) (laws_lwAll.l1 (k + 1) y0 y1 y2))
 | 0=>⟨fun _ _ r h=>by simp [laws_lwAll.l0] at h,fun _ _ _ r h=>by simp [laws_lwAll.l1] at h⟩
 | k + 1=>by
  obtain ⟨ih0,ih1⟩:=laws_lwAll.mono_l k
  refine ⟨?_,?_⟩
  ·intro y0 y1
   unfold laws_lwAll.l0
   repeat' first
   | (with_reducible exact ih0 _ _)
   | (with_reducible exact ih1 _ _ _)
   | (with_reducible exact LeO.refl _)
   | (with_reducible exact LeO.none _)
   | (with_reducible refine LeO.ite ?_ ?_)
   | (with_reducible refine LeO.bind ?_ (fun _=>?_))
   | exact ih0 _ _
   | exact ih1 _ _ _
   | exact LeO.none _
   | refine LeO.ite ?_ ?_
   | refine LeO.bind ?_ (fun _=>?_)
  ·intro y0 y1 y2
   unfold laws_lwAll.l1
   repeat' first
   | (with_reducible exact ih0 _ _)
   | (with_reducible exact ih1 _ _ _)
   | (with_reducible exact LeO.refl _)
   | (with_reducible exact LeO.none _)
   | (with_reducible refine LeO.ite ?_ ?_)
   | (with_reducible refine LeO.bind ?_ (fun _=>?_))
   | exact ih0 _ _
   | exact ih1 _ _ _
   | exact LeO.none _
   | refine LeO.ite ?_ ?_
   | refine LeO.bind ?_ (fun _=>?_)
theorem laws_lwAll.mono : ∀ k,LeO (laws_lwAll.f k ) (laws_lwAll.f (k + 1) ):=by
 intro  k
 obtain ⟨ih0,ih1⟩:=laws_lwAll.mono_l k
 unfold laws_lwAll.f
 repeat' first
   | (with_reducible exact ih0 _ _)
   | (with_reducible exact ih1 _ _ _)
   | (with_reducible exact LeO.refl _)
   | (with_reducible exact LeO.none _)
   | (with_reducible refine LeO.ite ?_ ?_)
   | (with_reducible refine LeO.bind ?_ (fun _=>?_))
   | exact ih0 _ _
   | exact ih1 _ _ _
   | exact LeO.none _
   | refine LeO.ite ?_ ?_
   | refine LeO.bind ?_ (fun _=>?_)
set_option maxHeartbeats 8000000 in
set_option maxRecDepth 100000 in
theorem laws_lwAll.calls (k : Nat)  (r : List (S36)) (w : World) (h : laws_lwAll.f k  = some r) :
  Calls Try.prog 65 #[] w fun e w'=>∃ v0_ : Value,e = .returned (v0_) ∧ Kd.R k36 36 w' w.heap.size (fun _=>True) v0_ r ∧ Below w.heap.size w w':=by
 have hu36:=Try.underlying36
 have HB:=Aside0.mk (Below.refl w.heap.size w)
 have H : (laws_lwAll.l0 k (([] : List (S36))) 0) = some r:=h
 clear h
 obtain ⟨y318,hy_⟩ : ∃ y_ : List (S36),y_ = (([] : List (S36))):=⟨_,rfl⟩
 replace H : (laws_lwAll.l0 k y318 0) = some r:=Q98
 have Ny318:=Aside0.mk hy_
 clear hy_
 have H':=Aside0.mk H
 clear H
 go_enter Try.func65,Try.ntmps65
 go_wp2_with (first|((with_reducible refine gate_dst (N:=4) rfl ?_);refine Kd.R_lit k36 _ 36 ?hg (N:=4) ?hd (xs:=([] : List (S36))) (inner:=[]) (ok:=fun _=>True) (okp:=fun _=>True) ?hr ?hp (fun _ hk=>hk) trivial (Below.refl _ _) (Nat.le_refl _) Q0 ?_;(case hd=>rfl);(case hg=>rfl);(case hr=>first|(go_simp;done)|(go_simp;rfl));(case hp=>exact (Reps.none _ _));intro v319 w1 ho2 hb hg_ hnew_;clear hg_ hnew_;(first|rw [← Ny318.out] at ho2|(simp only [Int.reduceToNat] at ho2;rw [← Ny318.out] at ho2));have n0_:=Aside0.mk (Kd.R_lower ho2 (below_size Q46));have n1_:=Aside0.mk (below_step Q46 hb);clear HB;have HO320:=n0_;have HB:=n1_;clear n0_ n1_;clear hb ho2))
 go_loopg [1,2] k (fun kq v1 v2 w'=>∃ (x1_1 : List (S36)) (x2_1 : Int),v2 = .int .i64 x2_1 ∧ Aside0 (laws_lwAll.l0 kq x1_1 x2_1 = some r) ∧ Aside0 (kq ≤ k) ∧ Aside0 (Kd.R k36 36 w' w.heap.size (fun _=>True) v1 x1_1) ∧ Aside0 (Below w.heap.size w w'))
 case atStart=>exact ⟨(y318),(0),Q7,H',⟨Nat.le_refl _⟩,⟨by (with_reducible repeat (first|apply Kd.R_alloc|apply Kd.R_drewN|apply Kd.R_drew));exact HO320.out⟩,⟨Q46⟩⟩
 case round =>
  clear H'
  try clear p2
  obtain ⟨x1_1,x2_1,rfl,HA,HK1,HO_1,HB⟩:=hrel
  cases gk with
  | zero=>exact absurd HA.out (by simp [laws_lwAll.l0])
  | succ k1 =>
   have H:=HA.out
   clear HA
   simp only [laws_lwAll.l0] at H
   by_cases c3 : x2_1 ≤ 7
   ·rw [if_pos c3] at H
    have c3b0 : decide (x2_1 ≤ 7) = true:=decide_eq_true c3
    clear c3
    have H':=Aside0.mk H
    clear H
    go_wp2
    go_loopg [1,3] k1 (fun kq v1 v3 w'=>∃ (x1_2 : List (S36)) (x3_2 : Int),v3 = .int .i64 x3_2 ∧ Aside0 (laws_lwAll.l1 kq x1_2 x2_1 x3_2 = some r) ∧ Aside0 (kq ≤ k1) ∧ Aside0 (Kd.R k36 36 w' w.heap.size (fun _=>True) v1 x1_2) ∧ Aside0 (Below w.heap.size w w'))
    case atStart=>exact ⟨(x1_1),(0),Q7,H',⟨Nat.le_refl _⟩,⟨Q14⟩,⟨Q46⟩⟩
    case round =>
     clear H'
     try clear p2
     try clear c3
     try clear c3b0
     try clear p2
     obtain ⟨x1_2,x3_2,rfl,HA,HK2,HO_1,HB⟩:=hrel
     cases gk with
     | zero=>exact absurd HA.out (by simp [laws_lwAll.l1])
     | succ k2 =>
      have H:=HA.out
      clear HA
      simp only [laws_lwAll.l1] at H
      by_cases c4 : x3_2 ≤ 7
      ·rw [if_pos c4] at H
       have c4b0 : decide (x3_2 ≤ 7) = true:=decide_eq_true c4
       clear c4
       by_cases c5 : x1_2.length < 8796093022208
       ·rw [if_pos c5] at H
        have LMc5:=Aside0.mk c5
        clear c5
        obtain ⟨y321,hy_⟩ : ∃ y_ : List (S36),y_ = (x1_2 ++ [(⟨x2_1,x3_2⟩ : S36)]):=⟨_,rfl⟩
        replace H : (laws_lwAll.l1 k2 y321 x2_1 (wrap64 (x3_2 + 1))) = some r:=Q98
        have Ny321:=Aside0.mk hy_
        clear hy_
        have H':=Aside0.mk H
        clear H
        go_wp2_with (first|((with_reducible refine gate_builtin (b:=.append) (xs:=#[.tmp 13,.tmp 17]) rfl ?_);at_builtin;refine Kd.R_append k36 (w0:=w) w.heap.size rfl (.tmp 13) (.tmp 17) 24 36 (.agg #[(.int .i64 0),(.int .i64 0)]) 16 rfl Try.underlying24 info36 rfl Q1 (by omega) u1 x1_2 (⟨x2_1,x3_2⟩ : S36) [.int .i64 x2_1,.int .i64 x3_2] (fun _=>True) (fun _=>False) rfl rfl ?aP (fun _ hk=>hk.elim) ?aF ?aO ?aB ?aS ?aL ?_;(case aP=>exact k36_mkM _ _ _ (⟨x2_1,x3_2⟩ : S36));(case aB=>exact Q46);(case aF=>exact (fun _ _=>trivial));(case aO=>exact Q14);(case aS=>exact (below_size Q46));(case aL=>have:=LMc5.out;omega);intro v322 w6 ho hb hg hat;rw [← Ny321.out] at ho;have n0_:=Aside0.mk (hb);have n1_:=Aside0.mk (ho);clear HB;clear HO_1;have HB:=n0_;have HO323:=n1_;clear n0_ n1_;clear ho hb hg hat))
        go_roundg k2
        case measure=>have:=HK1.out;have:=HK2.out;omega
        case rel=>exact ⟨(y321),(wrap64 (x3_2 + 1)),Q7,H',⟨by have:=HK1.out;have:=HK2.out;omega⟩,⟨by (with_reducible repeat (first|apply Kd.R_alloc|apply Kd.R_drewN|apply Kd.R_drew));exact HO323.out⟩,⟨Q46⟩⟩
       ·rw [if_neg c5] at H
        exact absurd H Q0
      ·rw [if_neg c4] at H
       have c4b0 : decide (x3_2 ≤ 7) = false:=decide_eq_false c4
       clear c4
       have H':=Aside0.mk H
       clear H
       go_wp2
       go_roundg k2
       case measure=>have:=HK1.out;have:=HK2.out;omega
       case rel=>exact ⟨(x1_2),(wrap64 (x2_1 + 1)),Q7,H',⟨by have:=HK1.out;have:=HK2.out;omega⟩,⟨Q14⟩,⟨Q46⟩⟩
   ·rw [if_neg c3] at H
    have c3b0 : decide (x2_1 ≤ 7) = false:=decide_eq_false c3
    clear c3
    obtain rfl:=Option.some.inj H
    go_wp2
    go_ret
    exact ⟨_,Q11,Q14,Q46⟩
def spec_FrontOk.l0 : Nat → List (S36) → Int → Option (Bool)
 | 0, _, _ => none
 | k + 1, x0, x3 => if x3 < (x0.length : Int) then (if 0 ≤ x3 then ((spec_TimeOk.f ((rd_T36 x0 x3).f0) ((rd_T36 x0 x3).f1)).bind fun t325 => (if t325 = true then (if x3 > 0 then (if 0 ≤ (wrap64 (x3 - 1)) then (if (wrap64 (x3 - 1)) < (x0.length : Int) then (if ((rd_T36 x0 (wrap64 (x3 - 1))).f0) ≥ ((rd_T36 x0 x3).f0) then (some false) else (if ((rd_T36 x0 (wrap64 (x3 - 1))).f1) ≤ ((rd_T36 x0 x3).f1) then (some false) else (spec_FrontOk.l0 k x0 (wrap64 (x3 + 1))))) else (none)) else (none)) else (spec_FrontOk.l0 k x0 (wrap64 (x3 + 1)))) else (some false))) else (none)) else (some true)
def spec_FrontOk.f (k : Nat) (l0 : List (S36)) : Option (Bool) := spec_FrontOk.l0 k l0 0
theorem spec_FrontOk.mono_l : ∀ k,(∀ y0 y1,LeO (spec_FrontOk.l0 k y0 y1) (spec_FrontOk.l0 (k + 1) y0 y1))
 | 0=>fun _ _ r h=>by simp [spec_FrontOk.l0] at h
 | k + 1=>by
  have ih0:=spec_FrontOk.mono_l k
  ·intro y0 y1
   unfold spec_FrontOk.l0
   repeat' first
   | (with_reducible exact ih0 _ _)
   | (with_reducible exact LeO.refl _)
   | (with_reducible exact LeO.none _)
   | (with_reducible refine LeO.ite ?_ ?_)
   | (with_reducible refine LeO.bind ?_ (fun _=>?_))
   | exact ih0 _ _
   | exact LeO.none _
   | refine LeO.ite ?_ ?_
   | refine LeO.bind ?_ (fun _=>?_)
theorem spec_FrontOk.mono : ∀ a0 k,LeO (spec_FrontOk.f k a0) (spec_FrontOk.f (k + 1) a0):=by
 intro a0 k
 have ih0:=spec_FrontOk.mono_l k
 unfold spec_FrontOk.f
 repeat' first
   | (with_reducible exact ih0 _ _)
   | (with_reducible exact LeO.refl _)
   | (with_reducible exact LeO.none _)
   | (with_reducible refine LeO.ite ?_ ?_)
   | (with_reducible refine LeO.bind ?_ (fun _=>?_))
   | exact ih0 _ _
   | exact LeO.none _
   | refine LeO.ite ?_ ?_
   | refine LeO.bind ?_ (fun _=>?_)
def spec_FrontOk.T4 : Bool × List (List Nat × List Nat) := (true, [([], []), ([], []), ([0, 1], [0, 1]), ([2], [2]), ([3], [3]), ([4], [4]), ([5, 4], [5]), ([6], [6]), ([7, 6], [6, 7]), ([8, 6, 6], [6, 8]), ([9], [9]), ([9], [9]), ([11, 9], [9, 11]), ([10, 12, 9], [9, 10, 12]), ([13, 9], [9, 13]), ([14, 9], [9, 14]), ([9], [9]), ([9], [9]), ([16, 17, 9], [9, 16, 17]), ([18, 9], [9, 18]), ([19, 9], [9, 19]), ([15, 20, 9], [9, 15, 20]), ([21, 9, 9], [9, 21]), ([22], [22]), ([22], [22]), ([24, 22], [22, 24]), ([23, 25, 22], [22, 23, 25]), ([26, 22], [22, 26]), ([27, 22], [22, 27]), ([22], [22]), ([22], [22]), ([29, 30, 22], [22, 29, 30]), ([31, 22], [22, 31]), ([32, 22], [22, 32]), ([28, 33, 22], [22, 28, 33]), ([22, 34, 9], [9, 22, 34]), ([9, 35, 6], [6, 9, 35]), ([6, 36], [6, 36])])
def spec_FrontOk.B4 : List Nat := [0, 0, 3, 7, 15, 31, 63, 127, 255, 511, 1023, 1023, 3071, 8191, 16383, 32767, 1023, 1023, 197631, 459775, 984063, 2097151, 4194303, 8388607, 8388607, 25165823, 67108863, 134217727, 268435455, 8388607, 8388607, 1619001343, 3766484991, 8061452287, 17179869183, 34359738367, 68719476735, 137438953471]
theorem spec_FrontOk.tab4 : rtab .any (opsOf Try.f21 4) = spec_FrontOk.T4:=by kernel_rfl
theorem spec_FrontOk.bits4 : waitsOk spec_FrontOk.T4.2 spec_FrontOk.B4 = true:=by kernel_rfl
set_option maxHeartbeats 8000000 in
set_option maxRecDepth 100000 in
theorem spec_FrontOk.calls (k : Nat) (A0 : Option Addr) (c0 : Nat) (l0 : List (S36)) (r : Bool) (w : World) (hr0 : Kd.C k36 w A0 l0.length l0) (hc0 : l0.length ≤ c0) (h : spec_FrontOk.f k l0 = some r) :
  Calls Try.prog 21 #[.slice A0 l0.length c0] w fun e w'=>e = .returned (.bool r) ∧ Below w.heap.size w w':=by
 have hu36:=Try.underlying36
 have HR0:=Aside0.mk hr0
 have HC0:=Aside0.mk hc0
 clear hr0 hc0
 have HB:=Aside0.mk (Below.refl w.heap.size w)
 have H : (spec_FrontOk.l0 k l0 0) = some r:=h
 clear h
 have H':=Aside0.mk H
 clear H
 go_enter Try.func21,Try.ntmps21
 go_wp2
 go_loopg [3] k (fun kq v3 w'=>∃ (x3_1 : Int),v3 = .int .i64 x3_1 ∧ Aside0 (spec_FrontOk.l0 kq l0 x3_1 = some r) ∧ Aside0 (kq ≤ k) ∧ Aside0 (Below w.heap.size w w'))
 case atStart=>exact ⟨(0),Q7,H',⟨Nat.le_refl _⟩,⟨Q46⟩⟩
 case round =>
  clear H'
  obtain ⟨x3_1,rfl,HA,HK1,HB⟩:=hrel
  cases gk with
  | zero=>exact absurd HA.out (by simp [spec_FrontOk.l0])
  | succ k1 =>
   have H:=HA.out
   clear HA
   simp only [spec_FrontOk.l0] at H
   by_cases c2 : x3_1 < (l0.length : Int)
   ·rw [if_pos c2] at H
    have c2b0 : decide (x3_1 < (l0.length : Int)) = true:=decide_eq_true c2
    clear c2
    by_cases c3 : 0 ≤ x3_1
    ·rw [if_pos c3] at H
     have c3b0 : decide (0 ≤ x3_1) = true:=decide_eq_true c3
     clear c3
     replace H:=Option.bind_eq_some_iff.mp H
     obtain ⟨t325,A40,H⟩:=H
     replace H : (if t325 = true then (if x3_1 > 0 then (if 0 ≤ (wrap64 (x3_1 - 1)) then (if (wrap64 (x3_1 - 1)) < (l0.length : Int) then (if ((rd_T36 l0 (wrap64 (x3_1 - 1))).f0) ≥ ((rd_T36 l0 x3_1).f0) then (some false) else (if ((rd_T36 l0 (wrap64 (x3_1 - 1))).f1) ≤ ((rd_T36 l0 x3_1).f1) then (some false) else (spec_FrontOk.l0 k1 l0 (wrap64 (x3_1 + 1))))) else (none)) else (none)) else (spec_FrontOk.l0 k1 l0 (wrap64 (x3_1 + 1)))) else (some false)) = some r:=H
     have A4:=Aside0.mk A40
     clear A40
     by_cases c5 : t325 = true
     ·subst c5
      have H1 : (if x3_1 > 0 then (if 0 ≤ (wrap64 (x3_1 - 1)) then (if (wrap64 (x3_1 - 1)) < (l0.length : Int) then (if ((rd_T36 l0 (wrap64 (x3_1 - 1))).f0) ≥ ((rd_T36 l0 x3_1).f0) then (some false) else (if ((rd_T36 l0 (wrap64 (x3_1 - 1))).f1) ≤ ((rd_T36 l0 x3_1).f1) then (some false) else (spec_FrontOk.l0 k1 l0 (wrap64 (x3_1 + 1))))) else (none)) else (none)) else (spec_FrontOk.l0 k1 l0 (wrap64 (x3_1 + 1)))) = some r:=by rw [if_pos rfl] at H;exact H
      clear H
      have H:=H1
      clear H1
      by_cases c6 : x3_1 > 0
      ·rw [if_pos c6] at H
       have c6b0 : decide (0 < x3_1) = true:=decide_eq_true c6
       clear c6
       obtain ⟨ji7,hji7⟩ : ∃ j_ : Int,(wrap64 (x3_1 - 1)) = j_:=⟨_,rfl⟩
       replace H : (if 0 ≤ (ji7) then (if (ji7) < (l0.length : Int) then (if ((rd_T36 l0 (ji7)).f0) ≥ ((rd_T36 l0 x3_1).f0) then (some false) else (if ((rd_T36 l0 (ji7)).f1) ≤ ((rd_T36 l0 x3_1).f1) then (some false) else (spec_FrontOk.l0 k1 l0 (wrap64 (x3_1 + 1))))) else (none)) else (none)) = some r:=by first|(rw [hji7] at H;exact H)|(simp only [hji7] at H ⊢;exact H)
       (try rw [hji7] at A4)
       have hji7w : (IntKind.i64.wrap (x3_1 - 1)) = ji7:=(i64_w _).trans hji7
       by_cases c8 : 0 ≤ (ji7)
       ·rw [if_pos c8] at H
        have c8b0 : decide (0 ≤ (ji7)) = true:=decide_eq_true c8
        clear c8
        by_cases c9 : (ji7) < (l0.length : Int)
        ·rw [if_pos c9] at H
         have c9b0 : decide ((ji7) < (l0.length : Int)) = true:=decide_eq_true c9
         clear c9
         by_cases c10 : ((rd_T36 l0 (ji7)).f0) ≥ ((rd_T36 l0 x3_1).f0)
         ·rw [if_pos c10] at H
          have c10b0 : decide (((rd_T36 l0 x3_1).f0) ≤ ((rd_T36 l0 (ji7)).f0)) = true:=decide_eq_true c10
          clear c10
          obtain rfl:=Option.some.inj H
          try go_wp2
          have n0_:=Aside0.mk (below_drew1 HB.out)
          clear HB
          have HB:=n0_
          clear n0_
          have p324 : 0 ≤ (x3_1 : Int):=of_decide_eq_true Q8
          have q324 : x3_1 < (l0.length : Int):=of_decide_eq_true Q8
          obtain ⟨ad324,e324,hx324_0,hx324_1⟩:=at_T36 HR0.out x3_1 p324 q324
          have hw324_1:=hx324_1
          have hw324_0:=hx324_0
          cases e324
          replace hx324_0:=cb_ HB hx324_0
          replace hx324_1:=cb_ HB hx324_1
          replace p324:=eq_true p324
          replace q324:=eq_true q324
          have p326 : 0 ≤ ((ji7) : Int):=of_decide_eq_true Q8
          have q326 : (ji7) < (l0.length : Int):=of_decide_eq_true Q8
          obtain ⟨ad326,e326,hx326_0,hx326_1⟩:=at_T36 HR0.out (ji7) p326 q326
          have hw326_1:=hx326_1
          have hw326_0:=hx326_0
          obtain rfl : ad324 = ad326:=(by injection e326)
          replace hx326_0:=cb_ HB hx326_0
          replace hx326_1:=cb_ HB hx326_1
          replace p326:=eq_true p326
          replace q326:=eq_true q326
          have p327 : 0 ≤ (x3_1 : Int):=of_decide_eq_true Q8
          have q327 : x3_1 < (l0.length : Int):=of_decide_eq_true Q8
          obtain ⟨ad327,e327,hx327_0,hx327_1⟩:=at_T36 HR0.out x3_1 p327 q327
          have hw327_1:=hx327_1
          have hw327_0:=hx327_0
          obtain rfl : ad324 = ad327:=(by injection e327)
          replace hx327_0:=cb_ HB hx327_0
          replace hx327_1:=cb_ HB hx327_1
          replace p327:=eq_true p327
          replace q327:=eq_true q327
          refine start_ (n:=38) (S:=fun w'=>w'.cell? (ad324.add ((x3_1).toNat * 2)) = some (.int .i64 ((rd_T36 l0 x3_1).f0)) ∧ w'.cell? ⟨(ad324.add ((x3_1).toNat * 2)).block,(ad324.add ((x3_1).toNat * 2)).off + 1,none⟩ = some (.int .i64 ((rd_T36 l0 x3_1).f1)) ∧ w'.cell? (ad324.add (((ji7)).toNat * 2)) = some (.int .i64 ((rd_T36 l0 (ji7)).f0)) ∧ w'.cell? ⟨(ad324.add (((ji7)).toNat * 2)).block,(ad324.add (((ji7)).toNat * 2)).off + 1,none⟩ = some (.int .i64 ((rd_T36 l0 (ji7)).f1)) ∧ w'.cell? (ad324.add ((x3_1).toNat * 2)) = some (.int .i64 ((rd_T36 l0 x3_1).f0)) ∧ w'.cell? ⟨(ad324.add ((x3_1).toNat * 2)).block,(ad324.add ((x3_1).toNat * 2)).off + 1,none⟩ = some (.int .i64 ((rd_T36 l0 x3_1).f1))) (ds:=[]) b38_0 Q2 rfl rfl ⟨(cb_ HB hw324_0:),(cb_ HB hw324_1:),(cb_ HB hw326_0:),(cb_ HB hw326_1:),(cb_ HB hw327_0:),(cb_ HB hw327_1:)⟩ (fun hHeld=>?_);refine with_tabW spec_FrontOk.tab4 spec_FrontOk.bits4 (fun HT_ HW_=>?_)
          generalize wr.drew = w11 at HB hx324_0 hx324_1 hx326_0 hx326_1 hx327_0 hx327_1 hHeld ⊢
          refine pU_ 0 10 b38_1 ?_
          refine pU_ 1 11 b38_2 ?_
          refine pU_ 2 12 b38_3 ?_
          refine tU_ 3 13 b38_4 hHeld ?_
          refine one_ (i:=4) (N:=some 14) b38_5 rfl rfl (one_of HT_.out Q2) Q1 (fun K hK=>?_)
          refine goes_ Try.func60 Q2 rfl #[.agg #[.int .i64 ((rd_T36 l0 x3_1).f0),.int .i64 ((rd_T36 l0 x3_1).f1)]] (by rfl) rfl rfl Q50 ?_
          with_reducible refine (spec_TimeOk.calls ((rd_T36 l0 x3_1).f0) ((rd_T36 l0 x3_1).f1) true _ A4.out).mono ?_
          rintro e w12 ⟨rfl,hb⟩
          refine ⟨_,rfl,?_⟩
          have n0_:=Aside0.mk (below_step Q46 hb)
          clear HB
          have HB:=n0_
          clear n0_
          (try clear hb)
          (try clear hb2)
          (try clear hk)
          (try clear hi)
          refine hK.out _ _ ⟨(cb_ HB hw324_0:),(cb_ HB hw324_1:),(cb_ HB hw326_0:),(cb_ HB hw326_1:),(cb_ HB hw327_0:),(cb_ HB hw327_1:)⟩ (fun hHeld=>?_)
          clear hK K
          refine norm_ (a':=?_) ?_ ?_
          rotate_left
          ·show Act.put _ (some 14) _ = _
           simp only [Act.put,sA_,sZ_,sS_,i64_w,i32_w]
           rfl
          refine pU_ 5 15 b38_6 ?_
          refine pU_ 6 16 b38_7 ?_
          refine pU_ 7 17 b38_8 ?_
          refine pU_ 8 18 b38_9 ?_
          refine pU_ 9 19 b38_10 ?_
          refine pU_ 10 20 b38_11 ?_
          refine pU_ 11 21 b38_12 ?_
          refine pU_ 12 22 b38_13 ?_
          refine pU_ 13 23 b38_14 ?_
          refine pU_ 14 24 b38_15 ?_
          refine pU_ 16 26 c49 ?_
          refine pU_ 17 27 c50 ?_
          refine pU_ 18 28 c51 ?_
          refine pU_ 19 29 c52 ?_
          refine tU_ 15 25 b38_20 hHeld ?_
          refine tU_ 20 30 b38_21 hHeld ?_
          refine pU_ 21 31 b38_22 ?_
          refine pU_ 22 32 b38_23 ?_
          refine pV_ 23 33 b38_24 ?_
          refine pV_ 24 34 b38_25 ?_
          refine pV_ 25 35 b38_26 ?_
          refine pV_ 26 36 b38_27 ?_
          refine pV_ 27 37 b38_28 ?_
          refine pV_ 28 38 b38_29 ?_
          refine pV_ 29 39 b38_30 ?_
          refine pV_ 30 40 b38_31 ?_
          refine pV_ 31 41 b38_32 ?_
          refine pV_ 32 42 b38_33 ?_
          refine pV_ 33 43 b38_34 ?_
          refine pV_ 34 44 b38_35 ?_
          refine pU_ 35 45 b38_36 ?_
          refine pU_ 36 46 b38_37 ?_
          refine pU_ 37 47 b38_38 ?_
          refine done_ (done_of HT_.out Q2) ?_
          try go_wp2
          go_ret
          exact ⟨by first|rfl|(simp [errW_none,errW_some] <;> rfl)|(simp only [← hji7];first|rfl|(simp [errW_none,errW_some] <;> rfl))|(simp [*,errW_none,errW_some] <;> rfl),Q46⟩
         ·rw [if_neg c10] at H
          have c10b0 : decide (((rd_T36 l0 x3_1).f0) ≤ ((rd_T36 l0 (ji7)).f0)) = false:=decide_eq_false c10
          clear c10
          by_cases c13 : ((rd_T36 l0 (ji7)).f1) ≤ ((rd_T36 l0 x3_1).f1)
          ·rw [if_pos c13] at H
           have c13b0 : decide (((rd_T36 l0 (ji7)).f1) ≤ ((rd_T36 l0 x3_1).f1)) = true:=decide_eq_true c13
           clear c13
           obtain rfl:=Option.some.inj H
           try go_wp2
           have n0_:=Aside0.mk (below_drew1 HB.out)
           clear HB
           have HB:=n0_
           clear n0_
           have p324 : 0 ≤ (x3_1 : Int):=of_decide_eq_true Q8
           have q324 : x3_1 < (l0.length : Int):=of_decide_eq_true Q8
           obtain ⟨ad324,e324,hx324_0,hx324_1⟩:=at_T36 HR0.out x3_1 p324 q324
           have hw324_1:=hx324_1
           have hw324_0:=hx324_0
           cases e324
           replace hx324_0:=cb_ HB hx324_0
           replace hx324_1:=cb_ HB hx324_1
           replace p324:=eq_true p324
           replace q324:=eq_true q324
           have p326 : 0 ≤ ((ji7) : Int):=of_decide_eq_true Q8
           have q326 : (ji7) < (l0.length : Int):=of_decide_eq_true Q8
           obtain ⟨ad326,e326,hx326_0,hx326_1⟩:=at_T36 HR0.out (ji7) p326 q326
           have hw326_1:=hx326_1
           have hw326_0:=hx326_0
           obtain rfl : ad324 = ad326:=(by injection e326)
           replace hx326_0:=cb_ HB hx326_0
           replace hx326_1:=cb_ HB hx326_1
           replace p326:=eq_true p326
           replace q326:=eq_true q326
           have p327 : 0 ≤ (x3_1 : Int):=of_decide_eq_true Q8
           have q327 : x3_1 < (l0.length : Int):=of_decide_eq_true Q8
           obtain ⟨ad327,e327,hx327_0,hx327_1⟩:=at_T36 HR0.out x3_1 p327 q327
           have hw327_1:=hx327_1
           have hw327_0:=hx327_0
           obtain rfl : ad324 = ad327:=(by injection e327)
           replace hx327_0:=cb_ HB hx327_0
           replace hx327_1:=cb_ HB hx327_1
           replace p327:=eq_true p327
           replace q327:=eq_true q327
           have p328 : 0 ≤ ((ji7) : Int):=of_decide_eq_true Q8
           have q328 : (ji7) < (l0.length : Int):=of_decide_eq_true Q8
           obtain ⟨ad328,e328,hx328_0,hx328_1⟩:=at_T36 HR0.out (ji7) p328 q328
           have hw328_1:=hx328_1
           have hw328_0:=hx328_0
           obtain rfl : ad324 = ad328:=(by injection e328)
           replace hx328_0:=cb_ HB hx328_0
           replace hx328_1:=cb_ HB hx328_1
           replace p328:=eq_true p328
           replace q328:=eq_true q328
           have p329 : 0 ≤ (x3_1 : Int):=of_decide_eq_true Q8
           have q329 : x3_1 < (l0.length : Int):=of_decide_eq_true Q8
           obtain ⟨ad329,e329,hx329_0,hx329_1⟩:=at_T36 HR0.out x3_1 p329 q329
           have hw329_1:=hx329_1
           have hw329_0:=hx329_0
           obtain rfl : ad324 = ad329:=(by injection e329)
           replace hx329_0:=cb_ HB hx329_0
           replace hx329_1:=cb_ HB hx329_1
           replace p329:=eq_true p329
           replace q329:=eq_true q329
           refine start_ (n:=38) (S:=fun w'=>w'.cell? (ad324.add ((x3_1).toNat * 2)) = some (.int .i64 ((rd_T36 l0 x3_1).f0)) ∧ w'.cell? ⟨(ad324.add ((x3_1).toNat * 2)).block,(ad324.add ((x3_1).toNat * 2)).off + 1,none⟩ = some (.int .i64 ((rd_T36 l0 x3_1).f1)) ∧ w'.cell? (ad324.add (((ji7)).toNat * 2)) = some (.int .i64 ((rd_T36 l0 (ji7)).f0)) ∧ w'.cell? ⟨(ad324.add (((ji7)).toNat * 2)).block,(ad324.add (((ji7)).toNat * 2)).off + 1,none⟩ = some (.int .i64 ((rd_T36 l0 (ji7)).f1)) ∧ w'.cell? (ad324.add ((x3_1).toNat * 2)) = some (.int .i64 ((rd_T36 l0 x3_1).f0)) ∧ w'.cell? ⟨(ad324.add ((x3_1).toNat * 2)).block,(ad324.add ((x3_1).toNat * 2)).off + 1,none⟩ = some (.int .i64 ((rd_T36 l0 x3_1).f1)) ∧ w'.cell? (ad324.add (((ji7)).toNat * 2)) = some (.int .i64 ((rd_T36 l0 (ji7)).f0)) ∧ w'.cell? ⟨(ad324.add (((ji7)).toNat * 2)).block,(ad324.add (((ji7)).toNat * 2)).off + 1,none⟩ = some (.int .i64 ((rd_T36 l0 (ji7)).f1)) ∧ w'.cell? (ad324.add ((x3_1).toNat * 2)) = some (.int .i64 ((rd_T36 l0 x3_1).f0)) ∧ w'.cell? ⟨(ad324.add ((x3_1).toNat * 2)).block,(ad324.add ((x3_1).toNat * 2)).off + 1,none⟩ = some (.int .i64 ((rd_T36 l0 x3_1).f1))) (ds:=[]) b38_0 Q2 rfl rfl ⟨(cb_ HB hw324_0:),(cb_ HB hw324_1:),(cb_ HB hw326_0:),(cb_ HB hw326_1:),(cb_ HB hw327_0:),(cb_ HB hw327_1:),(cb_ HB hw328_0:),(cb_ HB hw328_1:),(cb_ HB hw329_0:),(cb_ HB hw329_1:)⟩ (fun hHeld=>?_);refine with_tabW spec_FrontOk.tab4 spec_FrontOk.bits4 (fun HT_ HW_=>?_)
           generalize wr.drew = w14 at HB hx324_0 hx324_1 hx326_0 hx326_1 hx327_0 hx327_1 hx328_0 hx328_1 hx329_0 hx329_1 hHeld ⊢
           refine pU_ 0 10 b38_1 ?_
           refine pU_ 1 11 b38_2 ?_
           refine pU_ 2 12 b38_3 ?_
           refine tU_ 3 13 b38_4 hHeld ?_
           refine one_ (i:=4) (N:=some 14) b38_5 rfl rfl (one_of HT_.out Q2) Q1 (fun K hK=>?_)
           refine goes_ Try.func60 Q2 rfl #[.agg #[.int .i64 ((rd_T36 l0 x3_1).f0),.int .i64 ((rd_T36 l0 x3_1).f1)]] (by rfl) rfl rfl Q50 ?_
           with_reducible refine (spec_TimeOk.calls ((rd_T36 l0 x3_1).f0) ((rd_T36 l0 x3_1).f1) true _ A4.out).mono ?_
           rintro e w15 ⟨rfl,hb⟩
           refine ⟨_,rfl,?_⟩
           have n0_:=Aside0.mk (below_step Q46 hb)
           clear HB
           have HB:=n0_
           clear n0_
           (try clear hb)
           (try clear hb2)
           (try clear hk)
           (try clear hi)
           refine hK.out _ _ ⟨(cb_ HB hw324_0:),(cb_ HB hw324_1:),(cb_ HB hw326_0:),(cb_ HB hw326_1:),(cb_ HB hw327_0:),(cb_ HB hw327_1:),(cb_ HB hw328_0:),(cb_ HB hw328_1:),(cb_ HB hw329_0:),(cb_ HB hw329_1:)⟩ (fun hHeld=>?_)
           clear hK K
           refine norm_ (a':=?_) ?_ ?_
           rotate_left
           ·show Act.put _ (some 14) _ = _
            simp only [Act.put,sA_,sZ_,sS_,i64_w,i32_w]
            rfl
           refine pU_ 5 15 b38_6 ?_
           refine pU_ 6 16 b38_7 ?_
           refine pU_ 7 17 b38_8 ?_
           refine pU_ 8 18 b38_9 ?_
           refine pU_ 9 19 b38_10 ?_
           refine pU_ 10 20 b38_11 ?_
           refine pU_ 11 21 b38_12 ?_
           refine pU_ 12 22 b38_13 ?_
           refine pU_ 13 23 b38_14 ?_
           refine pU_ 14 24 b38_15 ?_
           refine pU_ 16 26 c49 ?_
           refine pU_ 17 27 c50 ?_
           refine pU_ 18 28 c51 ?_
           refine pU_ 19 29 c52 ?_
           refine tU_ 15 25 b38_20 hHeld ?_
           refine tU_ 20 30 b38_21 hHeld ?_
           refine pU_ 21 31 b38_22 ?_
           refine pU_ 22 32 b38_23 ?_
           refine pU_ 23 33 b38_24 ?_
           refine pU_ 24 34 b38_25 ?_
           refine pU_ 25 35 b38_26 ?_
           refine pU_ 26 36 b38_27 ?_
           refine pU_ 27 37 b38_28 ?_
           refine pU_ 29 39 c72 ?_
           refine pU_ 30 40 c73 ?_
           refine pU_ 31 41 c74 ?_
           refine pU_ 32 42 c75 ?_
           refine tU_ 28 38 b38_33 hHeld ?_
           refine tU_ 33 43 b38_34 hHeld ?_
           refine pU_ 34 44 b38_35 ?_
           refine pU_ 35 45 b38_36 ?_
           refine pU_ 36 46 b38_37 ?_
           refine pU_ 37 47 b38_38 ?_
           refine done_ (done_of HT_.out Q2) ?_
           try go_wp2
           go_ret
           exact ⟨by first|rfl|(simp [errW_none,errW_some] <;> rfl)|(simp only [← hji7];first|rfl|(simp [errW_none,errW_some] <;> rfl))|(simp [*,errW_none,errW_some] <;> rfl),Q46⟩
          ·rw [if_neg c13] at H
           have c13b0 : decide (((rd_T36 l0 (ji7)).f1) ≤ ((rd_T36 l0 x3_1).f1)) = false:=decide_eq_false c13
           clear c13
           have H':=Aside0.mk H
           clear H
           try go_wp2
           have n0_:=Aside0.mk (below_drew1 HB.out)
           clear HB
           have HB:=n0_
           clear n0_
           have p324 : 0 ≤ (x3_1 : Int):=of_decide_eq_true Q8
           have q324 : x3_1 < (l0.length : Int):=of_decide_eq_true Q8
           obtain ⟨ad324,e324,hx324_0,hx324_1⟩:=at_T36 HR0.out x3_1 p324 q324
           have hw324_1:=hx324_1
           have hw324_0:=hx324_0
           cases e324
           replace hx324_0:=cb_ HB hx324_0
           replace hx324_1:=cb_ HB hx324_1
           replace p324:=eq_true p324
           replace q324:=eq_true q324
           have p326 : 0 ≤ ((ji7) : Int):=of_decide_eq_true Q8
           have q326 : (ji7) < (l0.length : Int):=of_decide_eq_true Q8
           obtain ⟨ad326,e326,hx326_0,hx326_1⟩:=at_T36 HR0.out (ji7) p326 q326
           have hw326_1:=hx326_1
           have hw326_0:=hx326_0
           obtain rfl : ad324 = ad326:=(by injection e326)
           replace hx326_0:=cb_ HB hx326_0
           replace hx326_1:=cb_ HB hx326_1
           replace p326:=eq_true p326
           replace q326:=eq_true q326
           have p327 : 0 ≤ (x3_1 : Int):=of_decide_eq_true Q8
           have q327 : x3_1 < (l0.length : Int):=of_decide_eq_true Q8
           obtain ⟨ad327,e327,hx327_0,hx327_1⟩:=at_T36 HR0.out x3_1 p327 q327
           have hw327_1:=hx327_1
           have hw327_0:=hx327_0
           obtain rfl : ad324 = ad327:=(by injection e327)
           replace hx327_0:=cb_ HB hx327_0
           replace hx327_1:=cb_ HB hx327_1
           replace p327:=eq_true p327
           replace q327:=eq_true q327
           have p328 : 0 ≤ ((ji7) : Int):=of_decide_eq_true Q8
           have q328 : (ji7) < (l0.length : Int):=of_decide_eq_true Q8
           obtain ⟨ad328,e328,hx328_0,hx328_1⟩:=at_T36 HR0.out (ji7) p328 q328
           have hw328_1:=hx328_1
           have hw328_0:=hx328_0
           obtain rfl : ad324 = ad328:=(by injection e328)
           replace hx328_0:=cb_ HB hx328_0
           replace hx328_1:=cb_ HB hx328_1
           replace p328:=eq_true p328
           replace q328:=eq_true q328
           have p329 : 0 ≤ (x3_1 : Int):=of_decide_eq_true Q8
           have q329 : x3_1 < (l0.length : Int):=of_decide_eq_true Q8
           obtain ⟨ad329,e329,hx329_0,hx329_1⟩:=at_T36 HR0.out x3_1 p329 q329
           have hw329_1:=hx329_1
           have hw329_0:=hx329_0
           obtain rfl : ad324 = ad329:=(by injection e329)
           replace hx329_0:=cb_ HB hx329_0
           replace hx329_1:=cb_ HB hx329_1
           replace p329:=eq_true p329
           replace q329:=eq_true q329
           refine start_ (n:=38) (S:=fun w'=>w'.cell? (ad324.add ((x3_1).toNat * 2)) = some (.int .i64 ((rd_T36 l0 x3_1).f0)) ∧ w'.cell? ⟨(ad324.add ((x3_1).toNat * 2)).block,(ad324.add ((x3_1).toNat * 2)).off + 1,none⟩ = some (.int .i64 ((rd_T36 l0 x3_1).f1)) ∧ w'.cell? (ad324.add (((ji7)).toNat * 2)) = some (.int .i64 ((rd_T36 l0 (ji7)).f0)) ∧ w'.cell? ⟨(ad324.add (((ji7)).toNat * 2)).block,(ad324.add (((ji7)).toNat * 2)).off + 1,none⟩ = some (.int .i64 ((rd_T36 l0 (ji7)).f1)) ∧ w'.cell? (ad324.add ((x3_1).toNat * 2)) = some (.int .i64 ((rd_T36 l0 x3_1).f0)) ∧ w'.cell? ⟨(ad324.add ((x3_1).toNat * 2)).block,(ad324.add ((x3_1).toNat * 2)).off + 1,none⟩ = some (.int .i64 ((rd_T36 l0 x3_1).f1)) ∧ w'.cell? (ad324.add (((ji7)).toNat * 2)) = some (.int .i64 ((rd_T36 l0 (ji7)).f0)) ∧ w'.cell? ⟨(ad324.add (((ji7)).toNat * 2)).block,(ad324.add (((ji7)).toNat * 2)).off + 1,none⟩ = some (.int .i64 ((rd_T36 l0 (ji7)).f1)) ∧ w'.cell? (ad324.add ((x3_1).toNat * 2)) = some (.int .i64 ((rd_T36 l0 x3_1).f0)) ∧ w'.cell? ⟨(ad324.add ((x3_1).toNat * 2)).block,(ad324.add ((x3_1).toNat * 2)).off + 1,none⟩ = some (.int .i64 ((rd_T36 l0 x3_1).f1))) (ds:=[]) b38_0 Q2 rfl rfl ⟨(cb_ HB hw324_0:),(cb_ HB hw324_1:),(cb_ HB hw326_0:),(cb_ HB hw326_1:),(cb_ HB hw327_0:),(cb_ HB hw327_1:),(cb_ HB hw328_0:),(cb_ HB hw328_1:),(cb_ HB hw329_0:),(cb_ HB hw329_1:)⟩ (fun hHeld=>?_);refine with_tabW spec_FrontOk.tab4 spec_FrontOk.bits4 (fun HT_ HW_=>?_)
           generalize wr.drew = w16 at HB hx324_0 hx324_1 hx326_0 hx326_1 hx327_0 hx327_1 hx328_0 hx328_1 hx329_0 hx329_1 hHeld ⊢
           refine pU_ 0 10 b38_1 ?_
           refine pU_ 1 11 b38_2 ?_
           refine pU_ 2 12 b38_3 ?_
           refine tU_ 3 13 b38_4 hHeld ?_
           refine one_ (i:=4) (N:=some 14) b38_5 rfl rfl (one_of HT_.out Q2) Q1 (fun K hK=>?_)
           refine goes_ Try.func60 Q2 rfl #[.agg #[.int .i64 ((rd_T36 l0 x3_1).f0),.int .i64 ((rd_T36 l0 x3_1).f1)]] (by rfl) rfl rfl Q50 ?_
           with_reducible refine (spec_TimeOk.calls ((rd_T36 l0 x3_1).f0) ((rd_T36 l0 x3_1).f1) true _ A4.out).mono ?_
           rintro e w17 ⟨rfl,hb⟩
           refine ⟨_,rfl,?_⟩
           have n0_:=Aside0.mk (below_step Q46 hb)
           clear HB
           have HB:=n0_
           clear n0_
           (try clear hb)
           (try clear hb2)
           (try clear hk)
           (try clear hi)
           refine hK.out _ _ ⟨(cb_ HB hw324_0:),(cb_ HB hw324_1:),(cb_ HB hw326_0:),(cb_ HB hw326_1:),(cb_ HB hw327_0:),(cb_ HB hw327_1:),(cb_ HB hw328_0:),(cb_ HB hw328_1:),(cb_ HB hw329_0:),(cb_ HB hw329_1:)⟩ (fun hHeld=>?_)
           clear hK K
           refine norm_ (a':=?_) ?_ ?_
           rotate_left
           ·show Act.put _ (some 14) _ = _
            simp only [Act.put,sA_,sZ_,sS_,i64_w,i32_w]
            rfl
           refine pU_ 5 15 b38_6 ?_
           refine pU_ 6 16 b38_7 ?_
           refine pU_ 7 17 b38_8 ?_
           refine pU_ 8 18 b38_9 ?_
           refine pU_ 9 19 b38_10 ?_
           refine pU_ 10 20 b38_11 ?_
           refine pU_ 11 21 b38_12 ?_
           refine pU_ 12 22 b38_13 ?_
           refine pU_ 13 23 b38_14 ?_
           refine pU_ 14 24 b38_15 ?_
           refine pU_ 16 26 c49 ?_
           refine pU_ 17 27 c50 ?_
           refine pU_ 18 28 c51 ?_
           refine pU_ 19 29 c52 ?_
           refine tU_ 15 25 b38_20 hHeld ?_
           refine tU_ 20 30 b38_21 hHeld ?_
           refine pU_ 21 31 b38_22 ?_
           refine pU_ 22 32 b38_23 ?_
           refine pU_ 23 33 b38_24 ?_
           refine pU_ 24 34 b38_25 ?_
           refine pU_ 25 35 b38_26 ?_
           refine pU_ 26 36 b38_27 ?_
           refine pU_ 27 37 b38_28 ?_
           refine pU_ 29 39 c72 ?_
           refine pU_ 30 40 c73 ?_
           refine pU_ 31 41 c74 ?_
           refine pU_ 32 42 c75 ?_
           refine tU_ 28 38 b38_33 hHeld ?_
           refine tU_ 33 43 b38_34 hHeld ?_
           refine pU_ 34 44 b38_35 ?_
           refine pU_ 35 45 b38_36 ?_
           refine pU_ 36 46 b38_37 ?_
           refine pU_ 37 47 b38_38 ?_
           refine done_ (done_of HT_.out Q2) ?_
           try go_wp2
           go_roundg k1
           case measure=>have:=HK1.out;omega
           case rel=>exact ⟨(wrap64 (x3_1 + 1)),Q7,H',⟨Q4⟩,⟨Q46⟩⟩
        ·rw [if_neg c9] at H
         exact absurd H Q0
       ·rw [if_neg c8] at H
        exact absurd H Q0
      ·rw [if_neg c6] at H
       have c6b0 : decide (0 < x3_1) = false:=decide_eq_false c6
       clear c6
       have H':=Aside0.mk H
       clear H
       try go_wp2
       have n0_:=Aside0.mk (below_drew1 HB.out)
       clear HB
       have HB:=n0_
       clear n0_
       have p324 : 0 ≤ (x3_1 : Int):=of_decide_eq_true Q8
       have q324 : x3_1 < (l0.length : Int):=of_decide_eq_true Q8
       obtain ⟨ad324,e324,hx324_0,hx324_1⟩:=at_T36 HR0.out x3_1 p324 q324
       have hw324_1:=hx324_1
       have hw324_0:=hx324_0
       cases e324
       replace hx324_0:=cb_ HB hx324_0
       replace hx324_1:=cb_ HB hx324_1
       replace p324:=eq_true p324
       replace q324:=eq_true q324
       refine start_ (n:=38) (S:=fun w'=>w'.cell? (ad324.add ((x3_1).toNat * 2)) = some (.int .i64 ((rd_T36 l0 x3_1).f0)) ∧ w'.cell? ⟨(ad324.add ((x3_1).toNat * 2)).block,(ad324.add ((x3_1).toNat * 2)).off + 1,none⟩ = some (.int .i64 ((rd_T36 l0 x3_1).f1))) (ds:=[]) b38_0 Q2 rfl rfl ⟨(cb_ HB hw324_0:),(cb_ HB hw324_1:)⟩ (fun hHeld=>?_);refine with_tabW spec_FrontOk.tab4 spec_FrontOk.bits4 (fun HT_ HW_=>?_)
       generalize wr.drew = w18 at HB hx324_0 hx324_1 hHeld ⊢
       refine pU_ 0 10 b38_1 ?_
       refine pU_ 1 11 b38_2 ?_
       refine pU_ 2 12 b38_3 ?_
       refine tU_ 3 13 b38_4 hHeld ?_
       refine one_ (i:=4) (N:=some 14) b38_5 rfl rfl (one_of HT_.out Q2) Q1 (fun K hK=>?_)
       refine goes_ Try.func60 Q2 rfl #[.agg #[.int .i64 ((rd_T36 l0 x3_1).f0),.int .i64 ((rd_T36 l0 x3_1).f1)]] (by rfl) rfl rfl Q50 ?_
       with_reducible refine (spec_TimeOk.calls ((rd_T36 l0 x3_1).f0) ((rd_T36 l0 x3_1).f1) true _ A4.out).mono ?_
       rintro e w19 ⟨rfl,hb⟩
       refine ⟨_,rfl,?_⟩
       have n0_:=Aside0.mk (below_step Q46 hb)
       clear HB
       have HB:=n0_
       clear n0_
       (try clear hb)
       (try clear hb2)
       (try clear hk)
       (try clear hi)
       refine hK.out _ _ ⟨(cb_ HB hw324_0:),(cb_ HB hw324_1:)⟩ (fun hHeld=>?_)
       clear hK K
       refine norm_ (a':=?_) ?_ ?_
       rotate_left
       ·show Act.put _ (some 14) _ = _
        simp only [Act.put,sA_,sZ_,sS_,i64_w,i32_w]
        rfl
       refine pU_ 5 15 b38_6 ?_
       refine pU_ 6 16 b38_7 ?_
       refine pU_ 7 17 b38_8 ?_
       refine pU_ 8 18 b38_9 ?_
       refine pU_ 9 19 b38_10 ?_
       refine pV_ 10 20 b38_11 ?_
       refine pV_ 11 21 b38_12 ?_
       refine pV_ 12 22 b38_13 ?_
       refine pV_ 13 23 b38_14 ?_
       refine pV_ 14 24 b38_15 ?_
       refine pV_ 15 25 b38_16 ?_
       refine pV_ 16 26 b38_17 ?_
       refine pV_ 17 27 b38_18 ?_
       refine pV_ 18 28 b38_19 ?_
       refine pV_ 19 29 b38_20 ?_
       refine pV_ 20 30 b38_21 ?_
       refine pV_ 21 31 b38_22 ?_
       refine pV_ 22 32 b38_23 ?_
       refine pV_ 23 33 b38_24 ?_
       refine pV_ 24 34 b38_25 ?_
       refine pV_ 25 35 b38_26 ?_
       refine pV_ 26 36 b38_27 ?_
       refine pV_ 27 37 b38_28 ?_
       refine pV_ 28 38 b38_29 ?_
       refine pV_ 29 39 b38_30 ?_
       refine pV_ 30 40 b38_31 ?_
       refine pV_ 31 41 b38_32 ?_
       refine pV_ 32 42 b38_33 ?_
       refine pV_ 33 43 b38_34 ?_
       refine pV_ 34 44 b38_35 ?_
       refine pV_ 35 45 b38_36 ?_
       refine pU_ 36 46 b38_37 ?_
       refine pU_ 37 47 b38_38 ?_
       refine done_ (done_of HT_.out Q2) ?_
       try go_wp2
       go_roundg k1
       case measure=>have:=HK1.out;omega
       case rel=>exact ⟨(wrap64 (x3_1 + 1)),Q7,H',⟨Q4⟩,⟨Q46⟩⟩
     ·replace c5:=Bool.eq_false_iff.mpr c5
      subst c5
      have H1 : (some false) = some r:=by rw [if_neg (show ¬ (false = true) by decide)] at H;exact H
      clear H
      have H:=H1
      clear H1
      obtain rfl:=Option.some.inj H
      try go_wp2
      have n0_:=Aside0.mk (below_drew1 HB.out)
      clear HB
      have HB:=n0_
      clear n0_
      have p324 : 0 ≤ (x3_1 : Int):=of_decide_eq_true Q8
      have q324 : x3_1 < (l0.length : Int):=of_decide_eq_true Q8
      obtain ⟨ad324,e324,hx324_0,hx324_1⟩:=at_T36 HR0.out x3_1 p324 q324
      have hw324_1:=hx324_1
      have hw324_0:=hx324_0
      cases e324
      replace hx324_0:=cb_ HB hx324_0
      replace hx324_1:=cb_ HB hx324_1
      replace p324:=eq_true p324
      replace q324:=eq_true q324
      refine start_ (n:=38) (S:=fun w'=>w'.cell? (ad324.add ((x3_1).toNat * 2)) = some (.int .i64 ((rd_T36 l0 x3_1).f0)) ∧ w'.cell? ⟨(ad324.add ((x3_1).toNat * 2)).block,(ad324.add ((x3_1).toNat * 2)).off + 1,none⟩ = some (.int .i64 ((rd_T36 l0 x3_1).f1))) (ds:=[]) b38_0 Q2 rfl rfl ⟨(cb_ HB hw324_0:),(cb_ HB hw324_1:)⟩ (fun hHeld=>?_);refine with_tabW spec_FrontOk.tab4 spec_FrontOk.bits4 (fun HT_ HW_=>?_)
      generalize wr.drew = w20 at HB hx324_0 hx324_1 hHeld ⊢
      refine pU_ 0 10 b38_1 ?_
      refine pU_ 1 11 b38_2 ?_
      refine pU_ 2 12 b38_3 ?_
      refine tU_ 3 13 b38_4 hHeld ?_
      refine one_ (i:=4) (N:=some 14) b38_5 rfl rfl (one_of HT_.out Q2) Q1 (fun K hK=>?_)
      refine goes_ Try.func60 Q2 rfl #[.agg #[.int .i64 ((rd_T36 l0 x3_1).f0),.int .i64 ((rd_T36 l0 x3_1).f1)]] (by rfl) rfl rfl Q50 ?_
      with_reducible refine (spec_TimeOk.calls ((rd_T36 l0 x3_1).f0) ((rd_T36 l0 x3_1).f1) false _ A4.out).mono ?_
      rintro e w21 ⟨rfl,hb⟩
      refine ⟨_,rfl,?_⟩
      have n0_:=Aside0.mk (below_step Q46 hb)
      clear HB
      have HB:=n0_
      clear n0_
      (try clear hb)
      (try clear hb2)
      (try clear hk)
      (try clear hi)
      refine hK.out _ _ ⟨(cb_ HB hw324_0:),(cb_ HB hw324_1:)⟩ (fun hHeld=>?_)
      clear hK K
      refine norm_ (a':=?_) ?_ ?_
      rotate_left
      ·show Act.put _ (some 14) _ = _
       simp only [Act.put,sA_,sZ_,sS_,i64_w,i32_w]
       rfl
      refine pU_ 5 15 b38_6 ?_
      refine pU_ 6 16 b38_7 ?_
      refine pV_ 7 17 b38_8 ?_
      refine pV_ 8 18 b38_9 ?_
      refine pV_ 9 19 b38_10 ?_
      refine pV_ 10 20 b38_11 ?_
      refine pV_ 11 21 b38_12 ?_
      refine pV_ 12 22 b38_13 ?_
      refine pV_ 13 23 b38_14 ?_
      refine pV_ 14 24 b38_15 ?_
      refine pV_ 15 25 b38_16 ?_
      refine pV_ 16 26 b38_17 ?_
      refine pV_ 17 27 b38_18 ?_
      refine pV_ 18 28 b38_19 ?_
      refine pV_ 19 29 b38_20 ?_
      refine pV_ 20 30 b38_21 ?_
      refine pV_ 21 31 b38_22 ?_
      refine pV_ 22 32 b38_23 ?_
      refine pV_ 23 33 b38_24 ?_
      refine pV_ 24 34 b38_25 ?_
      refine pV_ 25 35 b38_26 ?_
      refine pV_ 26 36 b38_27 ?_
      refine pV_ 27 37 b38_28 ?_
      refine pV_ 28 38 b38_29 ?_
      refine pV_ 29 39 b38_30 ?_
      refine pV_ 30 40 b38_31 ?_
      refine pV_ 31 41 b38_32 ?_
      refine pV_ 32 42 b38_33 ?_
      refine pV_ 33 43 b38_34 ?_
      refine pV_ 34 44 b38_35 ?_
      refine pV_ 35 45 b38_36 ?_
      refine pV_ 36 46 b38_37 ?_
      refine pU_ 37 47 b38_38 ?_
      refine done_ (done_of HT_.out Q2) ?_
      try go_wp2
      go_ret
      exact ⟨Q11,Q46⟩
    ·rw [if_neg c3] at H
     exact absurd H Q0
   ·rw [if_neg c2] at H
    have c2b0 : decide (x3_1 < (l0.length : Int)) = false:=decide_eq_false c2
    clear c2
    obtain rfl:=Option.some.inj H
    go_wp2
    go_ret
    exact ⟨Q11,Q46⟩
def spec_TimeLess.f (a0_0 : Int) (a0_1 : Int) (a1_0 : Int) (a1_1 : Int) : Option (Bool) := (spec_TimeOk.f a0_0 a0_1).bind fun t332 => (if t332 = true then ((spec_TimeOk.f a1_0 a1_1).bind fun t333 => (if t333 = true then (if a0_0 ≤ a1_0 then (some (decide (a0_1 ≤ a1_1))) else (some false)) else (some false))) else (some false))
set_option maxHeartbeats 8000000 in
set_option maxRecDepth 100000 in
theorem spec_TimeLess.calls (a0_0 : Int) (a0_1 : Int) (a1_0 : Int) (a1_1 : Int) (r : Bool) (w : World) (h : spec_TimeLess.f a0_0 a0_1 a1_0 a1_1 = some r) :
  Calls Try.prog 76 #[.agg #[.int .i64 a0_0,.int .i64 a0_1],.agg #[.int .i64 a1_0,.int .i64 a1_1]] w fun e w'=>e = .returned (.bool r) ∧ Below w.heap.size w w':=by
 have hu36:=Try.underlying36
 have HB:=Aside0.mk (Below.refl w.heap.size w)
 have H : ((spec_TimeOk.f a0_0 a0_1).bind fun t332=>(if t332 = true then ((spec_TimeOk.f a1_0 a1_1).bind fun t333=>(if t333 = true then (if a0_0 ≤ a1_0 then (some (decide (a0_1 ≤ a1_1))) else (some false)) else (some false))) else (some false))) = some r:=h
 clear h
 replace H:=Option.bind_eq_some_iff.mp H
 obtain ⟨t332,A30,H⟩:=H
 replace H : (if t332 = true then ((spec_TimeOk.f a1_0 a1_1).bind fun t333=>(if t333 = true then (if a0_0 ≤ a1_0 then (some (decide (a0_1 ≤ a1_1))) else (some false)) else (some false))) else (some false)) = some r:=H
 have A3:=Aside0.mk A30
 clear A30
 by_cases c4 : t332 = true
 ·subst c4
  have H1 : ((spec_TimeOk.f a1_0 a1_1).bind fun t333=>(if t333 = true then (if a0_0 ≤ a1_0 then (some (decide (a0_1 ≤ a1_1))) else (some false)) else (some false))) = some r:=by rw [if_pos rfl] at H;exact H
  clear H
  have H:=H1
  clear H1
  replace H:=Option.bind_eq_some_iff.mp H
  obtain ⟨t333,A50,H⟩:=H
  replace H : (if t333 = true then (if a0_0 ≤ a1_0 then (some (decide (a0_1 ≤ a1_1))) else (some false)) else (some false)) = some r:=H
  have A5:=Aside0.mk A50
  clear A50
  by_cases c6 : t333 = true
  ·subst c6
   have H1 : (if a0_0 ≤ a1_0 then (some (decide (a0_1 ≤ a1_1))) else (some false)) = some r:=by rw [if_pos rfl] at H;exact H
   clear H
   have H:=H1
   clear H1
   by_cases c7 : a0_0 ≤ a1_0
   ·rw [if_pos c7] at H
    have c7b0 : decide (a0_0 ≤ a1_0) = true:=decide_eq_true c7
    clear c7
    obtain rfl:=Option.some.inj H
    go_enter Try.func76,Try.ntmps76
    go_wp2_with (first|((with_reducible refine gate_dst (N:=2) rfl ?_);refine box_event ?hg (N:=2) ?hd (cs:=#[.int .i64 a0_0,.int .i64 a0_1]) (t:=36) ?hr ?_;(case hd=>rfl);(case hg=>rfl);(case hr=>first|(go_simp;done)|(go_simp;rfl));intro gb330 hg w8 hbox hb;have n0_:=Aside0.mk (below_step Q46 hb);have n1_:=Aside0.mk (hbox);have n2_:=Aside0.mk ((Q106 : w.heap.size ≤ gb330));have n3_:=n2_;clear HB;have HB:=n0_;have BK330:=n1_;have GW330:=n2_;have GE330:=n3_;clear n0_ n1_ n2_ n3_;clear hb hbox hg)|((with_reducible refine gate_dst (N:=3) rfl ?_);refine box_event ?hg (N:=3) ?hd (cs:=#[.int .i64 a1_0,.int .i64 a1_1]) (t:=36) ?hr ?_;(case hd=>rfl);(case hg=>rfl);(case hr=>first|(go_simp;done)|(go_simp;rfl));intro gb331 hg w9 hbox hb;have n0_:=Aside0.mk (blk_below (g:=gb330) (o:=.cells #[.int .i64 a0_0,.int .i64 a0_1] 36 (0,0)) Q38 hb);have n1_:=Aside0.mk (below_step Q66 hb);have n2_:=Aside0.mk (hbox);have n3_:=Aside0.mk ((by rw [hg];exact (below_size Q66) : w.heap.size ≤ gb331));have n4_:=n3_;have n5_:=Aside0.mk ((Q112 : gb330 ≠ gb331));have n6_:=Aside0.mk ((Q113 : gb331 ≠ gb330));clear BK330;clear HB;have BK330:=n0_;have HB:=n1_;have BK331:=n2_;have GW331:=n3_;have GE331:=n4_;have NB330_331:=n5_;have NB331_330:=n6_;clear n0_ n1_ n2_ n3_ n4_ n5_ n6_;clear hb hbox hg;have hnb10:=NB330_331.out;have hnc10:=NB331_330.out;obtain ⟨hcz11_0,hcz11_1,hfz11_0,hfz11_1⟩:=bx2_ BK330)|((with_reducible refine gate_callee (f:=60) rfl ?_);refine goesL_ (some 6) rfl rfl Try.func60 Q2 rfl #[.agg #[.int .i64 a0_0,.int .i64 a0_1]] rfl Q50 ?_;(with_reducible refine (spec_TimeOk.calls a0_0 a0_1 true _ A3.out).mono ?_);rintro e w12 ⟨rfl,hb⟩;refine ⟨_,rfl,?_⟩;have n0_:=Aside0.mk (blk_below (g:=gb330) (o:=.cells #[.int .i64 a0_0,.int .i64 a0_1] 36 (0,0)) Q38 hb);have n1_:=Aside0.mk (blk_below (g:=gb331) (o:=.cells #[.int .i64 a1_0,.int .i64 a1_1] 36 (0,0)) Q39 hb);have n2_:=Aside0.mk (below_step Q89 hb);clear BK330;clear BK331;clear HB;have BK330:=n0_;have BK331:=n1_;have HB:=n2_;clear n0_ n1_ n2_;(try clear hb);(try clear hb2);(try clear hk);(try clear hi);obtain ⟨hcz13_0,hcz13_1,hfz13_0,hfz13_1⟩:=bx2_ BK331)|(go_at_call 60;(with_reducible refine (spec_TimeOk.calls a1_0 a1_1 true _ A5.out).mono ?_);rintro e w14 ⟨rfl,hb⟩;have n0_:=Aside0.mk (blk_below (g:=gb330) (o:=.cells #[.int .i64 a0_0,.int .i64 a0_1] 36 (0,0)) Q38 hb);have n1_:=Aside0.mk (blk_below (g:=gb331) (o:=.cells #[.int .i64 a1_0,.int .i64 a1_1] 36 (0,0)) Q39 hb);have n2_:=Aside0.mk (below_step Q89 hb);clear BK330;clear BK331;clear HB;have BK330:=n0_;have BK331:=n1_;have HB:=n2_;clear n0_ n1_ n2_;(try clear hb);(try clear hb2);(try clear hk);(try clear hi);obtain ⟨hcz15_0,hcz15_1,hfz15_0,hfz15_1⟩:=bx2_ BK330;obtain ⟨hcz16_0,hcz16_1,hfz16_0,hfz16_1⟩:=bx2_ BK331))
    go_ret
    exact ⟨Q11,Q89⟩
   ·rw [if_neg c7] at H
    have c7b0 : decide (a0_0 ≤ a1_0) = false:=decide_eq_false c7
    clear c7
    obtain rfl:=Option.some.inj H
    go_enter Try.func76,Try.ntmps76
    go_wp2_with (first|((with_reducible refine gate_dst (N:=2) rfl ?_);refine box_event ?hg (N:=2) ?hd (cs:=#[.int .i64 a0_0,.int .i64 a0_1]) (t:=36) ?hr ?_;(case hd=>rfl);(case hg=>rfl);(case hr=>first|(go_simp;done)|(go_simp;rfl));intro gb330 hg w17 hbox hb;have n0_:=Aside0.mk (below_step Q46 hb);have n1_:=Aside0.mk (hbox);have n2_:=Aside0.mk ((Q106 : w.heap.size ≤ gb330));have n3_:=n2_;clear HB;have HB:=n0_;have BK330:=n1_;have GW330:=n2_;have GE330:=n3_;clear n0_ n1_ n2_ n3_;clear hb hbox hg)|((with_reducible refine gate_dst (N:=3) rfl ?_);refine box_event ?hg (N:=3) ?hd (cs:=#[.int .i64 a1_0,.int .i64 a1_1]) (t:=36) ?hr ?_;(case hd=>rfl);(case hg=>rfl);(case hr=>first|(go_simp;done)|(go_simp;rfl));intro gb331 hg w18 hbox hb;have n0_:=Aside0.mk (blk_below (g:=gb330) (o:=.cells #[.int .i64 a0_0,.int .i64 a0_1] 36 (0,0)) Q38 hb);have n1_:=Aside0.mk (below_step Q66 hb);have n2_:=Aside0.mk (hbox);have n3_:=Aside0.mk ((by rw [hg];exact (below_size Q66) : w.heap.size ≤ gb331));have n4_:=n3_;have n5_:=Aside0.mk ((Q112 : gb330 ≠ gb331));have n6_:=Aside0.mk ((Q113 : gb331 ≠ gb330));clear BK330;clear HB;have BK330:=n0_;have HB:=n1_;have BK331:=n2_;have GW331:=n3_;have GE331:=n4_;have NB330_331:=n5_;have NB331_330:=n6_;clear n0_ n1_ n2_ n3_ n4_ n5_ n6_;clear hb hbox hg;have hnb19:=NB330_331.out;have hnc19:=NB331_330.out;obtain ⟨hcz20_0,hcz20_1,hfz20_0,hfz20_1⟩:=bx2_ BK330)|((with_reducible refine gate_callee (f:=60) rfl ?_);refine goesL_ (some 6) rfl rfl Try.func60 Q2 rfl #[.agg #[.int .i64 a0_0,.int .i64 a0_1]] rfl Q50 ?_;(with_reducible refine (spec_TimeOk.calls a0_0 a0_1 true _ A3.out).mono ?_);rintro e w21 ⟨rfl,hb⟩;refine ⟨_,rfl,?_⟩;have n0_:=Aside0.mk (blk_below (g:=gb330) (o:=.cells #[.int .i64 a0_0,.int .i64 a0_1] 36 (0,0)) Q38 hb);have n1_:=Aside0.mk (blk_below (g:=gb331) (o:=.cells #[.int .i64 a1_0,.int .i64 a1_1] 36 (0,0)) Q39 hb);have n2_:=Aside0.mk (below_step Q89 hb);clear BK330;clear BK331;clear HB;have BK330:=n0_;have BK331:=n1_;have HB:=n2_;clear n0_ n1_ n2_;(try clear hb);(try clear hb2);(try clear hk);(try clear hi);obtain ⟨hcz22_0,hcz22_1,hfz22_0,hfz22_1⟩:=bx2_ BK331)|(go_at_call 60;(with_reducible refine (spec_TimeOk.calls a1_0 a1_1 true _ A5.out).mono ?_);rintro e w23 ⟨rfl,hb⟩;have n0_:=Aside0.mk (blk_below (g:=gb330) (o:=.cells #[.int .i64 a0_0,.int .i64 a0_1] 36 (0,0)) Q38 hb);have n1_:=Aside0.mk (blk_below (g:=gb331) (o:=.cells #[.int .i64 a1_0,.int .i64 a1_1] 36 (0,0)) Q39 hb);have n2_:=Aside0.mk (below_step Q89 hb);clear BK330;clear BK331;clear HB;have BK330:=n0_;have BK331:=n1_;have HB:=n2_;clear n0_ n1_ n2_;(try clear hb);(try clear hb2);(try clear hk);(try clear hi);obtain ⟨hcz24_0,hcz24_1,hfz24_0,hfz24_1⟩:=bx2_ BK330;obtain ⟨hcz25_0,hcz25_1,hfz25_0,hfz25_1⟩:=bx2_ BK331))
    go_ret
    exact ⟨Q11,Q89⟩
  ·replace c6:=Bool.eq_false_iff.mpr c6
   subst c6
   have H1 : (some false) = some r:=by rw [if_neg (show ¬ (false = true) by decide)] at H;exact H
   clear H
   have H:=H1
   clear H1
   obtain rfl:=Option.some.inj H
   go_enter Try.func76,Try.ntmps76
   go_wp2_with (first|((with_reducible refine gate_dst (N:=2) rfl ?_);refine box_event ?hg (N:=2) ?hd (cs:=#[.int .i64 a0_0,.int .i64 a0_1]) (t:=36) ?hr ?_;(case hd=>rfl);(case hg=>rfl);(case hr=>first|(go_simp;done)|(go_simp;rfl));intro gb330 hg w26 hbox hb;have n0_:=Aside0.mk (below_step Q46 hb);have n1_:=Aside0.mk (hbox);have n2_:=Aside0.mk ((Q106 : w.heap.size ≤ gb330));have n3_:=n2_;clear HB;have HB:=n0_;have BK330:=n1_;have GW330:=n2_;have GE330:=n3_;clear n0_ n1_ n2_ n3_;clear hb hbox hg)|((with_reducible refine gate_dst (N:=3) rfl ?_);refine box_event ?hg (N:=3) ?hd (cs:=#[.int .i64 a1_0,.int .i64 a1_1]) (t:=36) ?hr ?_;(case hd=>rfl);(case hg=>rfl);(case hr=>first|(go_simp;done)|(go_simp;rfl));intro gb331 hg w27 hbox hb;have n0_:=Aside0.mk (blk_below (g:=gb330) (o:=.cells #[.int .i64 a0_0,.int .i64 a0_1] 36 (0,0)) Q38 hb);have n1_:=Aside0.mk (below_step Q66 hb);have n2_:=Aside0.mk (hbox);have n3_:=Aside0.mk ((by rw [hg];exact (below_size Q66) : w.heap.size ≤ gb331));have n4_:=n3_;have n5_:=Aside0.mk ((Q112 : gb330 ≠ gb331));have n6_:=Aside0.mk ((Q113 : gb331 ≠ gb330));clear BK330;clear HB;have BK330:=n0_;have HB:=n1_;have BK331:=n2_;have GW331:=n3_;have GE331:=n4_;have NB330_331:=n5_;have NB331_330:=n6_;clear n0_ n1_ n2_ n3_ n4_ n5_ n6_;clear hb hbox hg;have hnb28:=NB330_331.out;have hnc28:=NB331_330.out;obtain ⟨hcz29_0,hcz29_1,hfz29_0,hfz29_1⟩:=bx2_ BK330)|((with_reducible refine gate_callee (f:=60) rfl ?_);refine goesL_ (some 6) rfl rfl Try.func60 Q2 rfl #[.agg #[.int .i64 a0_0,.int .i64 a0_1]] rfl Q50 ?_;(with_reducible refine (spec_TimeOk.calls a0_0 a0_1 true _ A3.out).mono ?_);rintro e w30 ⟨rfl,hb⟩;refine ⟨_,rfl,?_⟩;have n0_:=Aside0.mk (blk_below (g:=gb330) (o:=.cells #[.int .i64 a0_0,.int .i64 a0_1] 36 (0,0)) Q38 hb);have n1_:=Aside0.mk (blk_below (g:=gb331) (o:=.cells #[.int .i64 a1_0,.int .i64 a1_1] 36 (0,0)) Q39 hb);have n2_:=Aside0.mk (below_step Q89 hb);clear BK330;clear BK331;clear HB;have BK330:=n0_;have BK331:=n1_;have HB:=n2_;clear n0_ n1_ n2_;(try clear hb);(try clear hb2);(try clear hk);(try clear hi);obtain ⟨hcz31_0,hcz31_1,hfz31_0,hfz31_1⟩:=bx2_ BK331)|(go_at_call 60;(with_reducible refine (spec_TimeOk.calls a1_0 a1_1 false _ A5.out).mono ?_);rintro e w32 ⟨rfl,hb⟩;have n0_:=Aside0.mk (blk_below (g:=gb330) (o:=.cells #[.int .i64 a0_0,.int .i64 a0_1] 36 (0,0)) Q38 hb);have n1_:=Aside0.mk (blk_below (g:=gb331) (o:=.cells #[.int .i64 a1_0,.int .i64 a1_1] 36 (0,0)) Q39 hb);have n2_:=Aside0.mk (below_step Q89 hb);clear BK330;clear BK331;clear HB;have BK330:=n0_;have BK331:=n1_;have HB:=n2_;clear n0_ n1_ n2_;(try clear hb);(try clear hb2);(try clear hk);(try clear hi)))
   go_ret
   exact ⟨Q11,Q89⟩
 ·replace c4:=Bool.eq_false_iff.mpr c4
  subst c4
  have H1 : (some false) = some r:=by rw [if_neg (show ¬ (false = true) by decide)] at H;exact H
  clear H
  have H:=H1
  clear H1
  obtain rfl:=Option.some.inj H
  go_enter Try.func76,Try.ntmps76
  go_wp2_with (first|((with_reducible refine gate_dst (N:=2) rfl ?_);refine box_event ?hg (N:=2) ?hd (cs:=#[.int .i64 a0_0,.int .i64 a0_1]) (t:=36) ?hr ?_;(case hd=>rfl);(case hg=>rfl);(case hr=>first|(go_simp;done)|(go_simp;rfl));intro gb330 hg w33 hbox hb;have n0_:=Aside0.mk (below_step Q46 hb);have n1_:=Aside0.mk (hbox);have n2_:=Aside0.mk ((Q106 : w.heap.size ≤ gb330));have n3_:=n2_;clear HB;have HB:=n0_;have BK330:=n1_;have GW330:=n2_;have GE330:=n3_;clear n0_ n1_ n2_ n3_;clear hb hbox hg)|((with_reducible refine gate_dst (N:=3) rfl ?_);refine box_event ?hg (N:=3) ?hd (cs:=#[.int .i64 a1_0,.int .i64 a1_1]) (t:=36) ?hr ?_;(case hd=>rfl);(case hg=>rfl);(case hr=>first|(go_simp;done)|(go_simp;rfl));intro gb331 hg w34 hbox hb;have n0_:=Aside0.mk (blk_below (g:=gb330) (o:=.cells #[.int .i64 a0_0,.int .i64 a0_1] 36 (0,0)) Q38 hb);have n1_:=Aside0.mk (below_step Q66 hb);have n2_:=Aside0.mk (hbox);have n3_:=Aside0.mk ((by rw [hg];exact (below_size Q66) : w.heap.size ≤ gb331));have n4_:=n3_;have n5_:=Aside0.mk ((Q112 : gb330 ≠ gb331));have n6_:=Aside0.mk ((Q113 : gb331 ≠ gb330));clear BK330;clear HB;have BK330:=n0_;have HB:=n1_;have BK331:=n2_;have GW331:=n3_;have GE331:=n4_;have NB330_331:=n5_;have NB331_330:=n6_;clear n0_ n1_ n2_ n3_ n4_ n5_ n6_;clear hb hbox hg;have hnb35:=NB330_331.out;have hnc35:=NB331_330.out;obtain ⟨hcz36_0,hcz36_1,hfz36_0,hfz36_1⟩:=bx2_ BK330)|((with_reducible refine gate_callee (f:=60) rfl ?_);refine goesL_ (some 6) rfl rfl Try.func60 Q2 rfl #[.agg #[.int .i64 a0_0,.int .i64 a0_1]] rfl Q50 ?_;(with_reducible refine (spec_TimeOk.calls a0_0 a0_1 false _ A3.out).mono ?_);rintro e w37 ⟨rfl,hb⟩;refine ⟨_,rfl,?_⟩;have n0_:=Aside0.mk (blk_below (g:=gb330) (o:=.cells #[.int .i64 a0_0,.int .i64 a0_1] 36 (0,0)) Q38 hb);have n1_:=Aside0.mk (blk_below (g:=gb331) (o:=.cells #[.int .i64 a1_0,.int .i64 a1_1] 36 (0,0)) Q39 hb);have n2_:=Aside0.mk (below_step Q89 hb);clear BK330;clear BK331;clear HB;have BK330:=n0_;have BK331:=n1_;have HB:=n2_;clear n0_ n1_ n2_;(try clear hb);(try clear hb2);(try clear hk);(try clear hi)))
  go_ret
  exact ⟨Q11,Q89⟩
def spec_FrontCovers.l0 : Nat → List (S36) → Int → Int → Int → Option (Bool)
 | 0, _, _, _, _ => none
 | k + 1, x0, x5, x335000, x335001 => if x5 < (x0.length : Int) then (if 0 ≤ x5 then ((spec_TimeLess.f ((rd_T36 x0 x5).f0) ((rd_T36 x0 x5).f1) x335000 x335001).bind fun t337 => (if t337 = true then (some true) else (spec_FrontCovers.l0 k x0 (wrap64 (x5 + 1)) x335000 x335001))) else (none)) else (some false)
def spec_FrontCovers.f (k : Nat) (l0 : List (S36)) (a1_0 : Int) (a1_1 : Int) : Option (Bool) := (spec_FrontOk.f k l0).bind fun t335 => (if t335 = true then (spec_FrontCovers.l0 k l0 0 a1_0 a1_1) else (some false))
theorem spec_FrontCovers.mono_l : ∀ k,(∀ y0 y1 y2 y3,LeO (spec_FrontCovers.l0 k y0 y1 y2 y3) (spec_FrontCovers.l0 (k + 1) y0 y1 y2 y3))
 | 0=>fun _ _ _ _ r h=>by simp [spec_FrontCovers.l0] at h
 | k + 1=>by
  have ih0:=spec_FrontCovers.mono_l k
  ·intro y0 y1 y2 y3
   unfold spec_FrontCovers.l0
   repeat' first
   | (with_reducible exact ih0 _ _ _ _)
   | (with_reducible exact spec_FrontOk.mono _ _)
   | (with_reducible exact LeO.refl _)
   | (with_reducible exact LeO.none _)
   | (with_reducible refine LeO.ite ?_ ?_)
   | (with_reducible refine LeO.bind ?_ (fun _=>?_))
   | exact ih0 _ _ _ _
   | exact spec_FrontOk.mono _ _
   | exact LeO.none _
   | refine LeO.ite ?_ ?_
   | refine LeO.bind ?_ (fun _=>?_)
theorem spec_FrontCovers.mono : ∀ a0 a1 a2 k,LeO (spec_FrontCovers.f k a0 a1 a2) (spec_FrontCovers.f (k + 1) a0 a1 a2):=by
 intro a0 a1 a2 k
 have ih0:=spec_FrontCovers.mono_l k
 unfold spec_FrontCovers.f
 repeat' first
   | (with_reducible exact ih0 _ _ _ _)
   | (with_reducible exact spec_FrontOk.mono _ _)
   | (with_reducible exact LeO.refl _)
   | (with_reducible exact LeO.none _)
   | (with_reducible refine LeO.ite ?_ ?_)
   | (with_reducible refine LeO.bind ?_ (fun _=>?_))
   | exact ih0 _ _ _ _
   | exact spec_FrontOk.mono _ _
   | exact LeO.none _
   | refine LeO.ite ?_ ?_
   | refine LeO.bind ?_ (fun _=>?_)
set_option maxHeartbeats 8000000 in
set_option maxRecDepth 100000 in
theorem spec_FrontCovers.calls (k : Nat) (A0 : Option Addr) (c0 : Nat) (l0 : List (S36)) (a1_0 : Int) (a1_1 : Int) (r : Bool) (w : World) (hr0 : Kd.C k36 w A0 l0.length l0) (hc0 : l0.length ≤ c0) (h : spec_FrontCovers.f k l0 a1_0 a1_1 = some r) :
  Calls Try.prog 66 #[.slice A0 l0.length c0,.agg #[.int .i64 a1_0,.int .i64 a1_1]] w fun e w'=>e = .returned (.bool r) ∧ Below w.heap.size w w':=by
 have hu36:=Try.underlying36
 have HR0:=Aside0.mk hr0
 have HC0:=Aside0.mk hc0
 clear hr0 hc0
 have HB:=Aside0.mk (Below.refl w.heap.size w)
 have H : ((spec_FrontOk.f k l0).bind fun t335=>(if t335 = true then (spec_FrontCovers.l0 k l0 0 a1_0 a1_1) else (some false))) = some r:=h
 clear h
 replace H:=Option.bind_eq_some_iff.mp H
 obtain ⟨t335,A30,H⟩:=H
 replace H : (if t335 = true then (spec_FrontCovers.l0 k l0 0 a1_0 a1_1) else (some false)) = some r:=H
 have A3:=Aside0.mk A30
 clear A30
 by_cases c4 : t335 = true
 ·subst c4
  have H1 : (spec_FrontCovers.l0 k l0 0 a1_0 a1_1) = some r:=by rw [if_pos rfl] at H;exact H
  clear H
  have H:=H1
  clear H1
  have H':=Aside0.mk H
  clear H
  go_enter Try.func66,Try.ntmps66
  go_wp2_with (first|((with_reducible refine gate_dst (N:=3) rfl ?_);refine box_event ?hg (N:=3) ?hd (cs:=#[.int .i64 a1_0,.int .i64 a1_1]) (t:=36) ?hr ?_;(case hd=>rfl);(case hg=>rfl);(case hr=>first|(go_simp;done)|(go_simp;rfl));intro gb334 hg w5 hbox hb;have n0_:=Aside0.mk (below_step Q46 hb);have n1_:=Aside0.mk (hbox);have n2_:=Aside0.mk ((Q106 : w.heap.size ≤ gb334));have n3_:=n2_;clear HB;have HB:=n0_;have BK334:=n1_;have GW334:=n2_;have GE334:=n3_;clear n0_ n1_ n2_ n3_;clear hb hbox hg)|((with_reducible refine gate_callee (f:=21) rfl ?_);refine goesL_ (some 7) rfl rfl Try.func21 Q2 rfl #[.slice A0 l0.length c0] rfl Q50 ?_;(with_reducible refine (spec_FrontOk.calls k _ _ l0 true _ ?side1 ?side2 A3.out).mono ?_);(case side1=>exact Q73);(case side2=>exact HC0.out);rintro e w6 ⟨rfl,hb⟩;refine ⟨_,rfl,?_⟩;have n0_:=Aside0.mk (blk_below (g:=gb334) (o:=.cells #[.int .i64 a1_0,.int .i64 a1_1] 36 (0,0)) Q40 hb);have n1_:=Aside0.mk (below_step Q67 hb);clear BK334;clear HB;have BK334:=n0_;have HB:=n1_;clear n0_ n1_;(try clear hb);(try clear hb2);(try clear hk);(try clear hi)))
  go_loopg [5] k (fun kq v5 w'=>∃ (x5_1 : Int),v5 = .int .i64 x5_1 ∧ Aside0 (spec_FrontCovers.l0 kq l0 x5_1 a1_0 a1_1 = some r) ∧ Aside0 (kq ≤ k) ∧ Aside0 (w'.heap[gb334]? = some (.cells #[.int .i64 a1_0,.int .i64 a1_1] 36 (0,0))) ∧ Aside0 (Below w.heap.size w w'))
  case atStart=>exact ⟨(0),Q7,H',⟨Nat.le_refl _⟩,⟨Q40⟩,⟨Q67⟩⟩
  case round =>
   clear H'
   try clear c2
   try clear p2
   try clear c4
   try clear c6
   obtain ⟨x5_1,rfl,HA,HK1,BK334,HB⟩:=hrel
   cases gk with
   | zero=>exact absurd HA.out (by simp [spec_FrontCovers.l0])
   | succ k1 =>
    have H:=HA.out
    clear HA
    simp only [spec_FrontCovers.l0] at H
    by_cases c7 : x5_1 < (l0.length : Int)
    ·rw [if_pos c7] at H
     have c7b0 : decide (x5_1 < (l0.length : Int)) = true:=decide_eq_true c7
     clear c7
     by_cases c8 : 0 ≤ x5_1
     ·rw [if_pos c8] at H
      have c8b0 : decide (0 ≤ x5_1) = true:=decide_eq_true c8
      clear c8
      replace H:=Option.bind_eq_some_iff.mp H
      obtain ⟨t337,A90,H⟩:=H
      replace H : (if t337 = true then (some true) else (spec_FrontCovers.l0 k1 l0 (wrap64 (x5_1 + 1)) a1_0 a1_1)) = some r:=H
      have A9:=Aside0.mk A90
      clear A90
      by_cases c10 : t337 = true
      ·subst c10
       have H1 : (some true) = some r:=by rw [if_pos rfl] at H;exact H
       clear H
       have H:=H1
       clear H1
       obtain rfl:=Option.some.inj H
       try go_wp2
       have n0_:=Aside0.mk (blk_drew BK334.out)
       have n1_:=Aside0.mk (below_drew1 HB.out)
       clear BK334
       clear HB
       have BK334:=n0_
       have HB:=n1_
       clear n0_ n1_
       have p336 : 0 ≤ (x5_1 : Int):=of_decide_eq_true Q8
       have q336 : x5_1 < (l0.length : Int):=of_decide_eq_true Q8
       obtain ⟨ad336,e336,hx336_0,hx336_1⟩:=at_T36 HR0.out x5_1 p336 q336
       have hw336_1:=hx336_1
       have hw336_0:=hx336_0
       cases e336
       replace hx336_0:=cb_ HB hx336_0
       replace hx336_1:=cb_ HB hx336_1
       replace p336:=eq_true p336
       replace q336:=eq_true q336
       refine start_ (n:=6) (S:=fun w'=>w'.cell? ⟨gb334,0,none⟩ = some (.int .i64 a1_0) ∧ w'.cell? ⟨gb334,1,none⟩ = some (.int .i64 a1_1) ∧ w'.cell? (ad336.add ((x5_1).toNat * 2)) = some (.int .i64 ((rd_T36 l0 x5_1).f0)) ∧ w'.cell? ⟨(ad336.add ((x5_1).toNat * 2)).block,(ad336.add ((x5_1).toNat * 2)).off + 1,none⟩ = some (.int .i64 ((rd_T36 l0 x5_1).f1))) (ds:=[]) b6_0 Q2 rfl rfl ⟨(blk_cell BK334.out 0).trans rfl,(blk_cell BK334.out 1).trans rfl,(cb_ HB hw336_0:),(cb_ HB hw336_1:)⟩ (fun hHeld=>?_)
       generalize wr.drew = w11 at BK334 HB hx336_0 hx336_1 hHeld ⊢
       refine pU_ 0 15 b6_1 ?_
       refine pU_ 1 16 b6_2 ?_
       refine pU_ 2 17 b6_3 ?_
       refine tU_ 3 18 b6_4 hHeld ?_
       refine tU_ 4 19 b6_5 hHeld ?_
       refine one_ (i:=5) (N:=some 20) b6_6 rfl rfl Q2 Q1 (fun K hK=>?_)
       refine goes_ Try.func76 Q2 rfl #[.agg #[.int .i64 ((rd_T36 l0 x5_1).f0),.int .i64 ((rd_T36 l0 x5_1).f1)],.agg #[.int .i64 a1_0,.int .i64 a1_1]] (by rfl) rfl rfl Q50 ?_
       with_reducible refine (spec_TimeLess.calls ((rd_T36 l0 x5_1).f0) ((rd_T36 l0 x5_1).f1) a1_0 a1_1 true _ A9.out).mono ?_
       rintro e w12 ⟨rfl,hb⟩
       refine ⟨_,rfl,?_⟩
       have n0_:=Aside0.mk (blk_below (g:=gb334) (o:=.cells #[.int .i64 a1_0,.int .i64 a1_1] 36 (0,0)) Q40 hb)
       have n1_:=Aside0.mk (below_step Q67 hb)
       clear BK334
       clear HB
       have BK334:=n0_
       have HB:=n1_
       clear n0_ n1_
       (try clear hb)
       (try clear hb2)
       (try clear hk)
       (try clear hi)
       refine hK.out _ _ ⟨(blk_cell BK334.out 0).trans rfl,(blk_cell BK334.out 1).trans rfl,(cb_ HB hw336_0:),(cb_ HB hw336_1:)⟩ (fun hHeld=>?_)
       clear hK K
       refine norm_ (a':=?_) ?_ ?_
       rotate_left
       ·show Act.put _ (some 20) _ = _
        simp only [Act.put,sA_,sZ_,sS_,i64_w,i32_w]
        rfl
       refine done_ Q2 ?_
       try go_wp2
       go_ret
       exact ⟨Q11,Q67⟩
      ·replace c10:=Bool.eq_false_iff.mpr c10
       subst c10
       have H1 : (spec_FrontCovers.l0 k1 l0 (wrap64 (x5_1 + 1)) a1_0 a1_1) = some r:=by rw [if_neg (show ¬ (false = true) by decide)] at H;exact H
       clear H
       have H:=H1
       clear H1
       have H':=Aside0.mk H
       clear H
       try go_wp2
       have n0_:=Aside0.mk (blk_drew BK334.out)
       have n1_:=Aside0.mk (below_drew1 HB.out)
       clear BK334
       clear HB
       have BK334:=n0_
       have HB:=n1_
       clear n0_ n1_
       have p336 : 0 ≤ (x5_1 : Int):=of_decide_eq_true Q8
       have q336 : x5_1 < (l0.length : Int):=of_decide_eq_true Q8
       obtain ⟨ad336,e336,hx336_0,hx336_1⟩:=at_T36 HR0.out x5_1 p336 q336
       have hw336_1:=hx336_1
       have hw336_0:=hx336_0
       cases e336
       replace hx336_0:=cb_ HB hx336_0
       replace hx336_1:=cb_ HB hx336_1
       replace p336:=eq_true p336
       replace q336:=eq_true q336
       refine start_ (n:=6) (S:=fun w'=>w'.cell? ⟨gb334,0,none⟩ = some (.int .i64 a1_0) ∧ w'.cell? ⟨gb334,1,none⟩ = some (.int .i64 a1_1) ∧ w'.cell? (ad336.add ((x5_1).toNat * 2)) = some (.int .i64 ((rd_T36 l0 x5_1).f0)) ∧ w'.cell? ⟨(ad336.add ((x5_1).toNat * 2)).block,(ad336.add ((x5_1).toNat * 2)).off + 1,none⟩ = some (.int .i64 ((rd_T36 l0 x5_1).f1))) (ds:=[]) b6_0 Q2 rfl rfl ⟨(blk_cell BK334.out 0).trans rfl,(blk_cell BK334.out 1).trans rfl,(cb_ HB hw336_0:),(cb_ HB hw336_1:)⟩ (fun hHeld=>?_)
       generalize wr.drew = w13 at BK334 HB hx336_0 hx336_1 hHeld ⊢
       refine pU_ 0 15 b6_1 ?_
       refine pU_ 1 16 b6_2 ?_
       refine pU_ 2 17 b6_3 ?_
       refine tU_ 3 18 b6_4 hHeld ?_
       refine tU_ 4 19 b6_5 hHeld ?_
       refine one_ (i:=5) (N:=some 20) b6_6 rfl rfl Q2 Q1 (fun K hK=>?_)
       refine goes_ Try.func76 Q2 rfl #[.agg #[.int .i64 ((rd_T36 l0 x5_1).f0),.int .i64 ((rd_T36 l0 x5_1).f1)],.agg #[.int .i64 a1_0,.int .i64 a1_1]] (by rfl) rfl rfl Q50 ?_
       with_reducible refine (spec_TimeLess.calls ((rd_T36 l0 x5_1).f0) ((rd_T36 l0 x5_1).f1) a1_0 a1_1 false _ A9.out).mono ?_
       rintro e w14 ⟨rfl,hb⟩
       refine ⟨_,rfl,?_⟩
       have n0_:=Aside0.mk (blk_below (g:=gb334) (o:=.cells #[.int .i64 a1_0,.int .i64 a1_1] 36 (0,0)) Q40 hb)
       have n1_:=Aside0.mk (below_step Q67 hb)
       clear BK334
       clear HB
       have BK334:=n0_
       have HB:=n1_
       clear n0_ n1_
       (try clear hb)
       (try clear hb2)
       (try clear hk)
       (try clear hi)
       refine hK.out _ _ ⟨(blk_cell BK334.out 0).trans rfl,(blk_cell BK334.out 1).trans rfl,(cb_ HB hw336_0:),(cb_ HB hw336_1:)⟩ (fun hHeld=>?_)
       clear hK K
       refine norm_ (a':=?_) ?_ ?_
       rotate_left
       ·show Act.put _ (some 20) _ = _
        simp only [Act.put,sA_,sZ_,sS_,i64_w,i32_w]
        rfl
       refine done_ Q2 ?_
       try go_wp2
       go_roundg k1
       case measure=>have:=HK1.out;omega
       case rel=>exact ⟨(wrap64 (x5_1 + 1)),Q7,H',⟨Q4⟩,⟨Q40⟩,⟨Q67⟩⟩
     ·rw [if_neg c8] at H
      exact absurd H Q0
    ·rw [if_neg c7] at H
     have c7b0 : decide (x5_1 < (l0.length : Int)) = false:=decide_eq_false c7
     clear c7
     obtain rfl:=Option.some.inj H
     go_wp2
     go_ret
     exact ⟨Q11,Q67⟩
 ·replace c4:=Bool.eq_false_iff.mpr c4
  subst c4
  have H1 : (some false) = some r:=by rw [if_neg (show ¬ (false = true) by decide)] at H;exact H
  clear H
  have H:=H1
  clear H1
  obtain rfl:=Option.some.inj H
  go_enter Try.func66,Try.ntmps66
  go_wp2_with (first|((with_reducible refine gate_dst (N:=3) rfl ?_);refine box_event ?hg (N:=3) ?hd (cs:=#[.int .i64 a1_0,.int .i64 a1_1]) (t:=36) ?hr ?_;(case hd=>rfl);(case hg=>rfl);(case hr=>first|(go_simp;done)|(go_simp;rfl));intro gb334 hg w15 hbox hb;have n0_:=Aside0.mk (below_step Q46 hb);have n1_:=Aside0.mk (hbox);have n2_:=Aside0.mk ((Q106 : w.heap.size ≤ gb334));have n3_:=n2_;clear HB;have HB:=n0_;have BK334:=n1_;have GW334:=n2_;have GE334:=n3_;clear n0_ n1_ n2_ n3_;clear hb hbox hg)|((with_reducible refine gate_callee (f:=21) rfl ?_);refine goesL_ (some 7) rfl rfl Try.func21 Q2 rfl #[.slice A0 l0.length c0] rfl Q50 ?_;(with_reducible refine (spec_FrontOk.calls k _ _ l0 false _ ?side1 ?side2 A3.out).mono ?_);(case side1=>exact Q73);(case side2=>exact HC0.out);rintro e w16 ⟨rfl,hb⟩;refine ⟨_,rfl,?_⟩;have n0_:=Aside0.mk (blk_below (g:=gb334) (o:=.cells #[.int .i64 a1_0,.int .i64 a1_1] 36 (0,0)) Q40 hb);have n1_:=Aside0.mk (below_step Q67 hb);clear BK334;clear HB;have BK334:=n0_;have HB:=n1_;clear n0_ n1_;(try clear hb);(try clear hb2);(try clear hk);(try clear hi)))
  go_ret
  exact ⟨Q11,Q67⟩
def laws_lwItems.l0 : Nat → List (S83) → List (S83) → Int → Option (Bool)
 | 0, _, _, _ => none
 | k + 1, x0, x1, x5 => if x5 < (x0.length : Int) then (if 0 ≤ x5 then (if x5 < (x1.length : Int) then (if (!(((rd_T83 x0 x5).f0) == ((rd_T83 x1 x5).f0)) || (!(((rd_T83 x0 x5).f1) == ((rd_T83 x1 x5).f1)) || (!(((rd_T83 x0 x5).f2) == ((rd_T83 x1 x5).f2))))) = true then (some false) else (laws_lwItems.l0 k x0 x1 (wrap64 (x5 + 1)))) else (none)) else (none)) else (some true)
def laws_lwItems.f (k : Nat) (l0 : List (S83)) (l1 : List (S83)) : Option (Bool) := if (l0.length : Int) = (l1.length : Int) then (laws_lwItems.l0 k l0 l1 0) else (some false)
theorem laws_lwItems.mono_l : ∀ k,(∀ y0 y1 y2,LeO (laws_lwItems.l0 k y0 y1 y2) (laws_lwItems.l0 (k + 1) y0 y1 y2))
 | 0=>fun _ _ _ r h=>by simp [laws_lwItems.l0] at h
 | k + 1=>by
  have ih0:=laws_lwItems.mono_l k
  ·intro y0 y1 y2
   unfold laws_lwItems.l0
   repeat' first
   | (with_reducible exact ih0 _ _ _)
   | (with_reducible exact LeO.refl _)
   | (with_reducible exact LeO.none _)
   | (with_reducible refine LeO.ite ?_ ?_)
   | (with_reducible refine LeO.bind ?_ (fun _=>?_))
   | exact ih0 _ _ _
   | exact LeO.none _
   | refine LeO.ite ?_ ?_
   | refine LeO.bind ?_ (fun _=>?_)
theorem laws_lwItems.mono : ∀ a0 a1 k,LeO (laws_lwItems.f k a0 a1) (laws_lwItems.f (k + 1) a0 a1):=by
 intro a0 a1 k
 have ih0:=laws_lwItems.mono_l k
 unfold laws_lwItems.f
 repeat' first
   | (with_reducible exact ih0 _ _ _)
   | (with_reducible exact LeO.refl _)
   | (with_reducible exact LeO.none _)
   | (with_reducible refine LeO.ite ?_ ?_)
   | (with_reducible refine LeO.bind ?_ (fun _=>?_))
   | exact ih0 _ _ _
   | exact LeO.none _
   | refine LeO.ite ?_ ?_
   | refine LeO.bind ?_ (fun _=>?_)
set_option maxHeartbeats 8000000 in
set_option maxRecDepth 100000 in
theorem laws_lwItems.calls (k : Nat) (A0 : Option Addr) (c0 : Nat) (l0 : List (S83)) (A1 : Option Addr) (c1 : Nat) (l1 : List (S83)) (r : Bool) (w : World) (hr0 : Kd.C k83 w A0 l0.length l0) (hc0 : l0.length ≤ c0) (hr1 : Kd.C k83 w A1 l1.length l1) (hc1 : l1.length ≤ c1) (h : laws_lwItems.f k l0 l1 = some r) :
  Calls Try.prog 67 #[.slice A0 l0.length c0,.slice A1 l1.length c1] w fun e w'=>e = .returned (.bool r) ∧ Drawn0 w w':=by
 have hu83:=Try.underlying83
 have HR0:=Aside0.mk hr0
 have HC0:=Aside0.mk hc0
 clear hr0 hc0
 have HR1:=Aside0.mk hr1
 have HC1:=Aside0.mk hc1
 clear hr1 hc1
 have H : (if (l0.length : Int) = (l1.length : Int) then (laws_lwItems.l0 k l0 l1 0) else (some false)) = some r:=h
 clear h
 by_cases c3 : (l0.length : Int) = (l1.length : Int)
 ·rw [if_pos c3] at H
  have c3b0 : ((l0.length : Int) == (l1.length : Int)) = true:=beq_iff_eq.mpr c3
  have c3b1 : ((l0.length : Int) != (l1.length : Int)) = false:=bne_eq_false_iff_eq.mpr c3
  have c3b2 : (l0.length == l1.length) = true:=by first|simpa using c3|(simp at c3 ⊢;omega)
  clear c3
  have H':=Aside0.mk H
  clear H
  go_enter Try.func67,Try.ntmps67
  go_wp2
  repeat (go_quiet (fail);try go_wp2)
  go_loopg [5] k (fun kq v5 w'=>∃ (x5_1 : Int),v5 = .int .i64 x5_1 ∧ Aside0 (laws_lwItems.l0 kq l0 l1 x5_1 = some r) ∧ Aside0 (kq ≤ k) ∧ Drawn0 w w')
  case atStart=>exact ⟨(0),Q7,H',⟨Nat.le_refl _⟩,Q10⟩
  case round =>
   clear H'
   try clear c1
   try clear p2
   try clear c3
   try clear c3b0
   try clear c3b1
   try clear c3b2
   obtain ⟨x5_1,rfl,HA,HK1,⟨m1,rfl⟩⟩:=hrel
   cases gk with
   | zero=>exact absurd HA.out (by simp [laws_lwItems.l0])
   | succ k1 =>
    have H:=HA.out
    clear HA
    simp only [laws_lwItems.l0] at H
    by_cases c4 : x5_1 < (l0.length : Int)
    ·rw [if_pos c4] at H
     have c4b0 : decide (x5_1 < (l0.length : Int)) = true:=decide_eq_true c4
     clear c4
     by_cases c5 : 0 ≤ x5_1
     ·rw [if_pos c5] at H
      have c5b0 : decide (0 ≤ x5_1) = true:=decide_eq_true c5
      clear c5
      by_cases c6 : x5_1 < (l1.length : Int)
      ·rw [if_pos c6] at H
       have c6b0 : decide (x5_1 < (l1.length : Int)) = true:=decide_eq_true c6
       clear c6
       by_cases c7 : (!(((rd_T83 l0 x5_1).f0) == ((rd_T83 l1 x5_1).f0)) || (!(((rd_T83 l0 x5_1).f1) == ((rd_T83 l1 x5_1).f1)) || (!(((rd_T83 l0 x5_1).f2) == ((rd_T83 l1 x5_1).f2))))) = true
       ·rw [if_pos c7] at H
        have c7b0 : (!(((rd_T83 l0 x5_1).f0) == ((rd_T83 l1 x5_1).f0)) || (!(((rd_T83 l0 x5_1).f1) == ((rd_T83 l1 x5_1).f1)) || (!(((rd_T83 l0 x5_1).f2) == ((rd_T83 l1 x5_1).f2))))) = true:=c7
        clear c7
        obtain rfl:=Option.some.inj H
        have p338 : 0 ≤ (x5_1 : Int):=of_decide_eq_true Q8
        have q338 : x5_1 < (l0.length : Int):=of_decide_eq_true Q8
        obtain ⟨ad338,e338,hx338_0,hx338_1,hx338_2⟩:=at_T83 HR0.out x5_1 p338 q338
        cases e338
        replace p338:=eq_true p338
        replace q338:=eq_true q338
        have p339 : 0 ≤ (x5_1 : Int):=of_decide_eq_true Q8
        have q339 : x5_1 < (l1.length : Int):=of_decide_eq_true Q8
        obtain ⟨ad339,e339,hx339_0,hx339_1,hx339_2⟩:=at_T83 HR1.out x5_1 p339 q339
        cases e339
        replace p339:=eq_true p339
        replace q339:=eq_true q339
        go_wp2
        repeat (go_quiet (fail);try go_wp2)
        go_ret
        exact ⟨Q7,Q10⟩
       ·rw [if_neg c7] at H
        have c7b0 : (!(((rd_T83 l0 x5_1).f0) == ((rd_T83 l1 x5_1).f0)) || (!(((rd_T83 l0 x5_1).f1) == ((rd_T83 l1 x5_1).f1)) || (!(((rd_T83 l0 x5_1).f2) == ((rd_T83 l1 x5_1).f2))))) = false:=by simpa using c7
        clear c7
        have H':=Aside0.mk H
        clear H
        have p338 : 0 ≤ (x5_1 : Int):=of_decide_eq_true Q8
        have q338 : x5_1 < (l0.length : Int):=of_decide_eq_true Q8
        obtain ⟨ad338,e338,hx338_0,hx338_1,hx338_2⟩:=at_T83 HR0.out x5_1 p338 q338
        cases e338
        replace p338:=eq_true p338
        replace q338:=eq_true q338
        have p339 : 0 ≤ (x5_1 : Int):=of_decide_eq_true Q8
        have q339 : x5_1 < (l1.length : Int):=of_decide_eq_true Q8
        obtain ⟨ad339,e339,hx339_0,hx339_1,hx339_2⟩:=at_T83 HR1.out x5_1 p339 q339
        cases e339
        replace p339:=eq_true p339
        replace q339:=eq_true q339
        go_wp2
        repeat (go_quiet (fail);try go_wp2)
        go_roundg k1
        case measure=>have:=HK1.out;omega
        case rel=>exact ⟨(wrap64 (x5_1 + 1)),Q7,H',⟨Q4⟩,Q10⟩
      ·rw [if_neg c6] at H
       exact absurd H Q0
     ·rw [if_neg c5] at H
      exact absurd H Q0
    ·rw [if_neg c4] at H
     have c4b0 : decide (x5_1 < (l0.length : Int)) = false:=decide_eq_false c4
     clear c4
     obtain rfl:=Option.some.inj H
     go_wp2
     repeat (go_quiet (fail);try go_wp2)
     go_ret
     exact ⟨Q7,Q10⟩
 ·rw [if_neg c3] at H
  have c3b0 : ((l0.length : Int) == (l1.length : Int)) = false:=beq_eq_false_iff_ne.mpr c3
  have c3b1 : ((l0.length : Int) != (l1.length : Int)) = true:=bne_iff_ne.mpr c3
  have c3b2 : (l0.length == l1.length) = false:=by first|simpa using c3|(simp at c3 ⊢;omega)
  obtain rfl:=Option.some.inj H
  go_enter Try.func67,Try.ntmps67
  go_wp2
  repeat (go_quiet (fail);try go_wp2)
  go_ret
  exact ⟨Q7,Q10⟩
mutual
def laws_lwSame.l0 : Nat → List (S38) → List (S38) → List (S36) → List (S36) → Int → Option (Bool)
 | 0, _, _, _, _, _ => none
 | k + 1, x0, x1, x2, x7, x8 => if x8 < (x7.length : Int) then (if (x2.length : Int) > 0 then (if 0 ≤ x8 then ((spec_FrontCovers.f k x2 ((rd_T36 x7 x8).f0) ((rd_T36 x7 x8).f1)).bind fun t344 => (laws_lwSame.j1 k x0 x1 x2 x7 x8 (!t344))) else (none)) else (laws_lwSame.j1 k x0 x1 x2 x7 x8 false)) else (some true)
def laws_lwSame.j1 : Nat → List (S38) → List (S38) → List (S36) → List (S36) → Int → Bool → Option (Bool)
 | 0, _, _, _, _, _, _ => none
 | k + 1, x0, x1, x2, x7, x8, x27 => if x27 = true then (laws_lwSame.l0 k x0 x1 x2 x7 (wrap64 (x8 + 1))) else (if 0 ≤ x8 then (if x8 < (x7.length : Int) then ((impl_BatchAt.f k x0 ((rd_T36 x7 x8).f0) ((rd_T36 x7 x8).f1)).bind fun t346 => ((impl_BatchAt.f k x1 ((rd_T36 x7 x8).f0) ((rd_T36 x7 x8).f1)).bind fun t350 => ((laws_lwItems.f k t346 t350).bind fun t353 => (if t353 = true then (laws_lwSame.l0 k x0 x1 x2 x7 (wrap64 (x8 + 1))) else (some false))))) else (none)) else (none))
end
def laws_lwSame.f (k : Nat) (l0 : List (S38)) (l1 : List (S38)) (l2 : List (S36)) : Option (Bool) := (laws_lwAll.f k).bind fun t340 => (laws_lwSame.l0 k l0 l1 l2 t340 0)
theorem laws_lwSame.mono_l : ∀ k,(∀ y0 y1 y2 y3 y4,LeO (laws_lwSame.l0 k y0 y1 y2 y3 y4) (laws_lwSame.l0 (k + 1) y0 y1 y2 y3 y4)) ∧ (∀ y0 y1 y2 y3 y4 y5,LeO (laws_lwSame.j1 k y0 y1 y2 y3 y4 y5) (laws_lwSame.j1 (k + 1) y0 y1 y2 y3 y4 y5))
 | 0=>⟨fun _ _ _ _ _ r h=>by simp [laws_lwSame.l0] at h,fun _ _ _ _ _ _ r h=>by simp [laws_lwSame.j1] at h⟩
 | k + 1=>by
  obtain ⟨ih0,ih1⟩:=laws_lwSame.mono_l k
  refine ⟨?_,?_⟩
  ·intro y0 y1 y2 y3 y4
   unfold laws_lwSame.l0
   repeat' first
   | (with_reducible exact ih0 _ _ _ _ _)
   | (with_reducible exact ih1 _ _ _ _ _ _)
   | (with_reducible exact impl_BatchAt.mono _ _ _ _)
   | (with_reducible exact laws_lwAll.mono _)
   | (with_reducible exact laws_lwItems.mono _ _ _)
   | (with_reducible exact spec_FrontCovers.mono _ _ _ _)
   | (with_reducible exact LeO.refl _)
   | (with_reducible exact LeO.none _)
   | (with_reducible refine LeO.ite ?_ ?_)
   | (with_reducible refine LeO.bind ?_ (fun _=>?_))
   | exact ih0 _ _ _ _ _
   | exact ih1 _ _ _ _ _ _
   | exact impl_BatchAt.mono _ _ _ _
   | exact laws_lwAll.mono _
   | exact laws_lwItems.mono _ _ _
   | exact spec_FrontCovers.mono _ _ _ _
   | exact LeO.none _
   | refine LeO.ite ?_ ?_
   | refine LeO.bind ?_ (fun _=>?_)
  ·intro y0 y1 y2 y3 y4 y5
   unfold laws_lwSame.j1
   repeat' first
   | (with_reducible exact ih0 _ _ _ _ _)
   | (with_reducible exact ih1 _ _ _ _ _ _)
   | (with_reducible exact impl_BatchAt.mono _ _ _ _)
   | (with_reducible exact laws_lwAll.mono _)
   | (with_reducible exact laws_lwItems.mono _ _ _)
   | (with_reducible exact spec_FrontCovers.mono _ _ _ _)
   | (with_reducible exact LeO.refl _)
   | (with_reducible exact LeO.none _)
   | (with_reducible refine LeO.ite ?_ ?_)
   | (with_reducible refine LeO.bind ?_ (fun _=>?_))
   | exact ih0 _ _ _ _ _
   | exact ih1 _ _ _ _ _ _
   | exact impl_BatchAt.mono _ _ _ _
   | exact laws_lwAll.mono _
   | exact laws_lwItems.mono _ _ _
   | exact spec_FrontCovers.mono _ _ _ _
   | exact LeO.none _
   | refine LeO.ite ?_ ?_
   | refine LeO.bind ?_ (fun _=>?_)
theorem laws_lwSame.mono : ∀ a0 a1 a2 k,LeO (laws_lwSame.f k a0 a1 a2) (laws_lwSame.f (k + 1) a0 a1 a2):=by
 intro a0 a1 a2 k
 obtain ⟨ih0,ih1⟩:=laws_lwSame.mono_l k
 unfold laws_lwSame.f
 repeat' first
   | (with_reducible exact ih0 _ _ _ _ _)
   | (with_reducible exact ih1 _ _ _ _ _ _)
   | (with_reducible exact impl_BatchAt.mono _ _ _ _)
   | (with_reducible exact laws_lwAll.mono _)
   | (with_reducible exact laws_lwItems.mono _ _ _)
   | (with_reducible exact spec_FrontCovers.mono _ _ _ _)
   | (with_reducible exact LeO.refl _)
   | (with_reducible exact LeO.none _)
   | (with_reducible refine LeO.ite ?_ ?_)
   | (with_reducible refine LeO.bind ?_ (fun _=>?_))
   | exact ih0 _ _ _ _ _
   | exact ih1 _ _ _ _ _ _
   | exact impl_BatchAt.mono _ _ _ _
   | exact laws_lwAll.mono _
   | exact laws_lwItems.mono _ _ _
   | exact spec_FrontCovers.mono _ _ _ _
   | exact LeO.none _
   | refine LeO.ite ?_ ?_
   | refine LeO.bind ?_ (fun _=>?_)
def laws_lwSame.T6 : Bool × List (List Nat × List Nat) := (true, [([], []), ([], []), ([], []), ([1, 2], [1, 2]), ([3], [3]), ([0, 4], [0, 4]), ([], []), ([], []), ([], []), ([7, 8], [7, 8]), ([9], [9]), ([6, 10, 5], [6, 10]), ([5, 11, 11], [5, 11]), ([12], [12])])
def laws_lwSame.B6 : List Nat := [0, 0, 0, 6, 14, 31, 0, 0, 0, 384, 896, 2047, 4095, 8191]
theorem laws_lwSame.tab6 : rtab .any (opsOf Try.f25 6) = laws_lwSame.T6:=by kernel_rfl
theorem laws_lwSame.bits6 : waitsOk laws_lwSame.T6.2 laws_lwSame.B6 = true:=by kernel_rfl
set_option maxHeartbeats 8000000 in
set_option maxRecDepth 100000 in
theorem laws_lwSame.calls (k : Nat) (A0 : Option Addr) (c0 : Nat) (l0 : List (S38)) (A1 : Option Addr) (c1 : Nat) (l1 : List (S38)) (A2 : Option Addr) (c2 : Nat) (l2 : List (S36)) (r : Bool) (w : World) (hr0 : Kd.C k38 w A0 l0.length l0) (hc0 : l0.length ≤ c0) (hr1 : Kd.C k38 w A1 l1.length l1) (hc1 : l1.length ≤ c1) (hr2 : Kd.C k36 w A2 l2.length l2) (hc2 : l2.length ≤ c2) (h : laws_lwSame.f k l0 l1 l2 = some r) :
  Calls Try.prog 25 #[.slice A0 l0.length c0,.slice A1 l1.length c1,.slice A2 l2.length c2] w fun e w'=>e = .returned (.bool r) ∧ Below w.heap.size w w':=by
 have hu36:=Try.underlying36
 have HR0:=Aside0.mk hr0
 have HC0:=Aside0.mk hc0
 clear hr0 hc0
 have HR1:=Aside0.mk hr1
 have HC1:=Aside0.mk hc1
 clear hr1 hc1
 have HR2:=Aside0.mk hr2
 have HC2:=Aside0.mk hc2
 clear hr2 hc2
 have HB:=Aside0.mk (Below.refl w.heap.size w)
 have H : ((laws_lwAll.f k).bind fun t340=>(laws_lwSame.l0 k l0 l1 l2 t340 0)) = some r:=h
 clear h
 replace H:=Option.bind_eq_some_iff.mp H
 obtain ⟨t340,A40,H⟩:=H
 replace H : (laws_lwSame.l0 k l0 l1 l2 t340 0) = some r:=H
 have A4:=Aside0.mk A40
 clear A40
 have H':=Aside0.mk H
 clear H
 go_enter Try.func25,Try.ntmps25
 go_wp2_with (first|((with_reducible refine gate_callee (f:=65) rfl ?_);refine goesL_ (some 9) rfl rfl Try.func65 Q2 rfl #[] rfl Q50 ?_;(with_reducible refine (laws_lwAll.calls k  t340 _ A4.out).mono ?_);rintro e w5 ⟨v341,rfl,ho0,hb⟩;refine ⟨_,rfl,?_⟩;have n0_:=Aside0.mk (Kd.R_lower ho0 (below_size Q46));have n1_:=Aside0.mk (below_step Q46 hb);clear HB;have HO342:=n0_;have HB:=n1_;clear n0_ n1_;(try clear hb);(try clear hb2);(try clear hk);(try clear hi);(try clear ho0)))
 go_loopg [8] k (fun kq v8 w'=>∃ (x8_1 : Int),v8 = .int .i64 x8_1 ∧ Aside0 (laws_lwSame.l0 kq l0 l1 l2 t340 x8_1 = some r) ∧ Aside0 (kq ≤ k) ∧ Aside0 (Kd.R k36 36 w' w.heap.size (fun _=>True) v341 t340) ∧ Aside0 (Below w.heap.size w w'))
 case atStart=>exact ⟨(0),Q7,H',⟨Nat.le_refl _⟩,⟨by (with_reducible repeat (first|apply Kd.R_alloc|apply Kd.R_drewN|apply Kd.R_drew));exact HO342.out⟩,⟨Q46⟩⟩
 case round =>
  clear H'
  try clear c1
  try clear c2
  try clear p2
  obtain ⟨x8_1,rfl,HA,HK1,HO_7,HB⟩:=hrel
  cases gk with
  | zero=>exact absurd HA.out (by simp [laws_lwSame.l0])
  | succ k1 =>
   have H:=HA.out
   clear HA
   simp only [laws_lwSame.l0] at H
   by_cases c6 : x8_1 < (t340.length : Int)
   ·rw [if_pos c6] at H
    have c6b0 : decide (x8_1 < (t340.length : Int)) = true:=decide_eq_true c6
    clear c6
    have HC7:=Aside0.mk H
    clear H
    obtain ⟨Ao8,co8,eo8⟩:=Kd.R_slice HO_7.out
    subst eo8
    go_upto_region 5 with (fail)
    go_cut [27] (fun v27 wc=>∃ (kq : Nat) (x27_6 : Bool),v27 = .bool x27_6 ∧ Aside0 (laws_lwSame.j1 kq l0 l1 l2 t340 x8_1 x27_6 = some r) ∧ Aside0 (kq ≤ k1) ∧ Aside0 (Kd.R k36 36 wc w.heap.size (fun _=>True) (.slice Ao8 t340.length co8) t340) ∧ Aside0 (Below w.heap.size w wc))
    case first =>
     have H:=HC7.out
     clear HC7
     by_cases c9 : (l2.length : Int) > 0
     ·rw [if_pos c9] at H
      have c9b0 : decide (0 < (l2.length : Int)) = true:=decide_eq_true c9
      have c9b1 : decide (0 < l2.length) = true:=decide_eq_true (by omega)
      clear c9
      (first|rw [c9b0]|(simp only [i64_w,i32_w];rw [c9b0])|skip)
      by_cases c10 : 0 ≤ x8_1
      ·rw [if_pos c10] at H
       have c10b0 : decide (0 ≤ x8_1) = true:=decide_eq_true c10
       clear c10
       replace H:=Option.bind_eq_some_iff.mp H
       obtain ⟨t344,A110,H⟩:=H
       replace H : (laws_lwSame.j1 k1 l0 l1 l2 t340 x8_1 (!t344)) = some r:=H
       have A11:=Aside0.mk A110
       clear A110
       have H':=Aside0.mk H
       clear H
       have p343 : 0 ≤ (x8_1 : Int):=of_decide_eq_true Q8
       have q343 : x8_1 < (t340.length : Int):=of_decide_eq_true Q8
       obtain ⟨ad343,e343,hx343_0,hx343_1⟩:=at_T36 (Kd.R_reads' HO_7.out).2.2 x8_1 p343 q343
       cases e343
       replace p343:=eq_true p343
       replace q343:=eq_true q343
       go_wp2_with (first|(go_at_call 66;(with_reducible refine (spec_FrontCovers.calls k1 _ _ l2 ((rd_T36 t340 x8_1).f0) ((rd_T36 t340 x8_1).f1) t344 _ ?side1 ?side2 A11.out).mono ?_);(case side1=>exact (by repeat (first|exact (Kd.C_below HR2.out HB.out)|(with_reducible refine Kd.C_alloc ?_ _)|(with_reducible refine Kd.C_drewN ?_ _)|(with_reducible refine Kd.C_drew ?_))));(case side2=>exact HC2.out);rintro e w12 ⟨rfl,hb⟩;have n0_:=Aside0.mk (Kd.R_below Q15 hb);have n1_:=Aside0.mk (below_step Q46 hb);clear HO_7;clear HB;have HO_7:=n0_;have HB:=n1_;clear n0_ n1_;(try clear hb);(try clear hb2);(try clear hk);(try clear hi)))
       go_meet
       case rel=>exact ⟨_,(!t344),Q7,H',⟨Q9⟩,⟨Q15⟩,⟨Q46⟩⟩
      ·rw [if_neg c10] at H
       exact absurd H Q0
     ·rw [if_neg c9] at H
      have c9b0 : decide (0 < (l2.length : Int)) = false:=decide_eq_false c9
      have c9b1 : decide (0 < l2.length) = false:=decide_eq_false (by omega)
      clear c9
      (first|rw [c9b0]|(simp only [i64_w,i32_w];rw [c9b0])|skip)
      have H':=Aside0.mk H
      clear H
      go_wp2
      go_meet
      case rel=>exact ⟨_,(false),Q7,H',⟨Q9⟩,⟨Q15⟩,⟨Q46⟩⟩
    case rest =>
     clear HC7
     try clear c1
     try clear c2
     try clear p2
     try clear p3
     try clear q3
     try clear hx3
     try clear c6
     try clear c6b0
     try clear c9
     try clear c9b0
     try clear c9b1
     try clear c10
     try clear c10b0
     try clear hx343_0
     try clear hx343_1
     try clear p2
     try clear p343
     try clear q343
     obtain ⟨kq,x27_6,rfl,HA,HJ6,HO_7,HB⟩:=hcut
     cases kq with
     | zero=>exact absurd HA.out (by simp [laws_lwSame.j1])
     | succ kj6 =>
      have H:=HA.out
      clear HA
      simp only [laws_lwSame.j1] at H
      by_cases c13 : x27_6 = true
      ·subst c13
       have H1 : (laws_lwSame.l0 kj6 l0 l1 l2 t340 (wrap64 (x8_1 + 1))) = some r:=by rw [if_pos rfl] at H;exact H
       clear H
       have H:=H1
       clear H1
       have H':=Aside0.mk H
       clear H
       go_wp2
       go_roundg kj6
       case measure=>have:=HK1.out;have:=HJ6.out;omega
       case rel=>exact ⟨(wrap64 (x8_1 + 1)),Q7,H',⟨by have:=HK1.out;have:=HJ6.out;omega⟩,⟨Q15⟩,⟨Q46⟩⟩
      ·replace c13:=Bool.eq_false_iff.mpr c13
       subst c13
       have H1 : (if 0 ≤ x8_1 then (if x8_1 < (t340.length : Int) then ((impl_BatchAt.f kj6 l0 ((rd_T36 t340 x8_1).f0) ((rd_T36 t340 x8_1).f1)).bind fun t346=>((impl_BatchAt.f kj6 l1 ((rd_T36 t340 x8_1).f0) ((rd_T36 t340 x8_1).f1)).bind fun t350=>((laws_lwItems.f kj6 t346 t350).bind fun t353=>(if t353 = true then (laws_lwSame.l0 kj6 l0 l1 l2 t340 (wrap64 (x8_1 + 1))) else (some false))))) else (none)) else (none)) = some r:=by rw [if_neg (show ¬ (false = true) by decide)] at H;exact H
       clear H
       have H:=H1
       clear H1
       by_cases c14 : 0 ≤ x8_1
       ·rw [if_pos c14] at H
        have c14b0 : decide (0 ≤ x8_1) = true:=decide_eq_true c14
        clear c14
        by_cases c15 : x8_1 < (t340.length : Int)
        ·rw [if_pos c15] at H
         have c15b0 : decide (x8_1 < (t340.length : Int)) = true:=decide_eq_true c15
         clear c15
         replace H:=Option.bind_eq_some_iff.mp H
         obtain ⟨t346,A160,H⟩:=H
         replace H : ((impl_BatchAt.f kj6 l1 ((rd_T36 t340 x8_1).f0) ((rd_T36 t340 x8_1).f1)).bind fun t350=>((laws_lwItems.f kj6 t346 t350).bind fun t353=>(if t353 = true then (laws_lwSame.l0 kj6 l0 l1 l2 t340 (wrap64 (x8_1 + 1))) else (some false)))) = some r:=H
         have A16:=Aside0.mk A160
         clear A160
         replace H:=Option.bind_eq_some_iff.mp H
         obtain ⟨t350,A170,H⟩:=H
         replace H : ((laws_lwItems.f kj6 t346 t350).bind fun t353=>(if t353 = true then (laws_lwSame.l0 kj6 l0 l1 l2 t340 (wrap64 (x8_1 + 1))) else (some false))) = some r:=H
         have A17:=Aside0.mk A170
         clear A170
         replace H:=Option.bind_eq_some_iff.mp H
         obtain ⟨t353,A180,H⟩:=H
         replace H : (if t353 = true then (laws_lwSame.l0 kj6 l0 l1 l2 t340 (wrap64 (x8_1 + 1))) else (some false)) = some r:=H
         have A18:=Aside0.mk A180
         clear A180
         by_cases c19 : t353 = true
         ·subst c19
          have H1 : (laws_lwSame.l0 kj6 l0 l1 l2 t340 (wrap64 (x8_1 + 1))) = some r:=by rw [if_pos rfl] at H;exact H
          clear H
          have H:=H1
          clear H1
          have H':=Aside0.mk H
          clear H
          try go_wp2
          have n0_:=Aside0.mk (Kd.R_drew HO_7.out)
          have n1_:=Aside0.mk (below_drew1 HB.out)
          clear HO_7
          clear HB
          have HO_7:=n0_
          have HB:=n1_
          clear n0_ n1_
          have p345 : 0 ≤ (x8_1 : Int):=of_decide_eq_true Q8
          have q345 : x8_1 < (t340.length : Int):=of_decide_eq_true Q8
          obtain ⟨ad345,e345,hx345_0,hx345_1⟩:=at_T36 (Kd.R_reads' HO_7.out).2.2 x8_1 p345 q345
          cases e345
          replace p345:=eq_true p345
          replace q345:=eq_true q345
          have p349 : 0 ≤ (x8_1 : Int):=of_decide_eq_true Q8
          have q349 : x8_1 < (t340.length : Int):=of_decide_eq_true Q8
          obtain ⟨ad349,e349,hx349_0,hx349_1⟩:=at_T36 (Kd.R_reads' HO_7.out).2.2 x8_1 p349 q349
          obtain rfl : ad345 = ad349:=(by injection e349)
          replace p349:=eq_true p349
          replace q349:=eq_true q349
          refine start_ (n:=14) (S:=fun w'=>w'.cell? (ad345.add ((x8_1).toNat * 2)) = some (.int .i64 ((rd_T36 t340 x8_1).f0)) ∧ w'.cell? ⟨(ad345.add ((x8_1).toNat * 2)).block,(ad345.add ((x8_1).toNat * 2)).off + 1,none⟩ = some (.int .i64 ((rd_T36 t340 x8_1).f1)) ∧ w'.cell? (ad345.add ((x8_1).toNat * 2)) = some (.int .i64 ((rd_T36 t340 x8_1).f0)) ∧ w'.cell? ⟨(ad345.add ((x8_1).toNat * 2)).block,(ad345.add ((x8_1).toNat * 2)).off + 1,none⟩ = some (.int .i64 ((rd_T36 t340 x8_1).f1))) (ds:=[]) b14_0 Q2 rfl rfl ⟨hx345_0,hx345_1,hx349_0,hx349_1⟩ (fun hHeld=>?_);refine with_tabW laws_lwSame.tab6 laws_lwSame.bits6 (fun HT_ HW_=>?_)
          generalize wc.drew = w20 at HO_7 HB hx345_0 hx345_1 hx349_0 hx349_1 hHeld ⊢
          refine pU_ 0 28 b14_1 ?_
          refine pU_ 1 29 b14_2 ?_
          refine pU_ 2 30 b14_3 ?_
          refine pU_ 3 31 b14_4 ?_
          refine pU_ 6 34 c92 ?_
          refine pU_ 7 35 c93 ?_
          refine pU_ 8 36 c94 ?_
          refine pU_ 9 37 c95 ?_
          refine tU_ 4 32 c96 hHeld ?_
          refine tU_ 10 38 c97 hHeld ?_
          refine one_ (i:=5) (N:=some 33) b14_11 rfl rfl (one_of HT_.out Q2) Q1 (fun K hK=>?_)
          refine goes_ Try.func46 Q2 rfl #[.slice A0 l0.length c0,.agg #[.int .i64 ((rd_T36 t340 x8_1).f0),.int .i64 ((rd_T36 t340 x8_1).f1)]] (by rfl) rfl rfl Q50 ?_
          with_reducible refine (impl_BatchAt.calls kj6 _ _ l0 ((rd_T36 t340 x8_1).f0) ((rd_T36 t340 x8_1).f1) t346 _ ?side1 ?side2 A16.out).mono ?_
          (case side1=>exact Q73)
          (case side2=>exact HC0.out)
          rintro e w21 ⟨v347,rfl,ho0,hb⟩
          have HS0_:=(hb.cell (bl_ _ _ (hHeld.1))).trans (hHeld.1)
          have HS1_:=(hb.cell (bl_ _ _ (hHeld.2.1))).trans (hHeld.2.1)
          have HS2_:=(hb.cell (bl_ _ _ (hHeld.2.2.1))).trans (hHeld.2.2.1)
          have HS3_:=(hb.cell (bl_ _ _ (hHeld.2.2.2))).trans (hHeld.2.2.2)
          refine ⟨_,rfl,?_⟩
          have n0_:=Aside0.mk (Kd.R_below Q15 hb)
          have n1_:=Aside0.mk (Kd.R_lower ho0 (below_size Q46))
          have n2_:=Aside0.mk (below_step Q46 hb)
          clear HO_7
          clear HB
          have HO_7:=n0_
          have HO348:=n1_
          have HB:=n2_
          clear n0_ n1_ n2_
          (try clear hb)
          (try clear hb2)
          (try clear hk)
          (try clear hi)
          (try clear ho0)
          refine hK.out _ _ ⟨HS0_,HS1_,HS2_,HS3_⟩ (fun hHeld=>?_)
          clear hK K
          refine norm_ (a':=?_) ?_ ?_
          rotate_left
          ·show Act.put _ (some 33) _ = _
           simp only [Act.put,sA_,sZ_,sS_,i64_w,i32_w]
           rfl
          refine one_ (i:=11) (N:=some 39) b14_12 rfl rfl (one_of HT_.out Q2) Q1 (fun K hK=>?_)
          refine goes_ Try.func46 Q2 rfl #[.slice A1 l1.length c1,.agg #[.int .i64 ((rd_T36 t340 x8_1).f0),.int .i64 ((rd_T36 t340 x8_1).f1)]] (by rfl) rfl rfl Q50 ?_
          with_reducible refine (impl_BatchAt.calls kj6 _ _ l1 ((rd_T36 t340 x8_1).f0) ((rd_T36 t340 x8_1).f1) t350 _ ?side1 ?side2 A17.out).mono ?_
          (case side1=>exact (by repeat (first|exact (Kd.C_below HR1.out HB.out)|(with_reducible refine Kd.C_alloc ?_ _)|(with_reducible refine Kd.C_drewN ?_ _)|(with_reducible refine Kd.C_drew ?_))))
          (case side2=>exact HC1.out)
          rintro e w22 ⟨v351,rfl,ho0,hb⟩
          have HS0_:=(hb.cell (bl_ _ _ (hHeld.1))).trans (hHeld.1)
          have HS1_:=(hb.cell (bl_ _ _ (hHeld.2.1))).trans (hHeld.2.1)
          have HS2_:=(hb.cell (bl_ _ _ (hHeld.2.2.1))).trans (hHeld.2.2.1)
          have HS3_:=(hb.cell (bl_ _ _ (hHeld.2.2.2))).trans (hHeld.2.2.2)
          refine ⟨_,rfl,?_⟩
          have n0_:=Aside0.mk (Kd.R_below Q15 hb)
          have n1_:=Aside0.mk (Kd.R_elder' Q21 (Kd.R_base ho0) hb)
          have n2_:=Aside0.mk (Kd.R_lower (Kd.R_new' ho0 (Kd.R_lt Q21)) (below_size Q46))
          have n3_:=Aside0.mk (below_step Q46 hb)
          clear HO_7
          clear HO348
          clear HB
          have HO_7:=n0_
          have HO348:=n1_
          have HO352:=n2_
          have HB:=n3_
          clear n0_ n1_ n2_ n3_
          (try clear hb)
          (try clear hb2)
          (try clear hk)
          (try clear hi)
          (try clear ho0)
          obtain ⟨Ao23,co23,eo23⟩:=Kd.R_slice HO348.out
          (first|subst eo23|(injection eo23 with f1_ f2_ f3_;have f4_:=f1_.symm;have f5_:=f3_.symm;clear f1_ f2_ f3_;subst f4_;subst f5_))
          obtain ⟨Ao24,co24,eo24⟩:=Kd.R_slice HO352.out
          (first|subst eo24|(injection eo24 with f1_ f2_ f3_;have f4_:=f1_.symm;have f5_:=f3_.symm;clear f1_ f2_ f3_;subst f4_;subst f5_))
          refine hK.out _ _ ⟨HS0_,HS1_,HS2_,HS3_⟩ (fun hHeld=>?_)
          clear hK K
          refine norm_ (a':=?_) ?_ ?_
          rotate_left
          ·show Act.put _ (some 39) _ = _
           simp only [Act.put,sA_,sZ_,sS_,i64_w,i32_w]
           rfl
          refine one_ (i:=12) (N:=some 40) b14_13 rfl rfl (one_of HT_.out Q2) Q1 (fun K hK=>?_)
          refine goes_ Try.func67 Q2 rfl #[.slice Ao23 t346.length co23,.slice Ao24 t350.length co24] (by rfl) rfl rfl Q50 ?_
          with_reducible refine (laws_lwItems.calls kj6 _ _ t346 _ _ t350 true _ ?side1 ?side2 ?side3 ?side4 A18.out).mono ?_
          (case side1=>exact (by repeat (first|exact (Kd.R_reads' HO348.out).2.2|(with_reducible refine Kd.C_alloc ?_ _)|(with_reducible refine Kd.C_drewN ?_ _)|(with_reducible refine Kd.C_drew ?_))))
          (case side2=>exact (Kd.R_reads' HO348.out).2.1)
          (case side3=>exact (by repeat (first|exact (Kd.R_reads' HO352.out).2.2|(with_reducible refine Kd.C_alloc ?_ _)|(with_reducible refine Kd.C_drewN ?_ _)|(with_reducible refine Kd.C_drew ?_))))
          (case side4=>exact (Kd.R_reads' HO352.out).2.1)
          rintro e w' ⟨rfl,⟨nd,rfl⟩⟩
          refine ⟨_,rfl,?_⟩
          refine hK.out _ _ ⟨hHeld.1,hHeld.2.1,hHeld.2.2.1,hHeld.2.2.2⟩ (fun hHeld=>?_)
          clear hK K
          refine norm_ (a':=?_) ?_ ?_
          rotate_left
          ·show Act.put _ (some 40) _ = _
           simp only [Act.put,sA_,sZ_,sS_,i64_w,i32_w]
           rfl
          refine pU_ 13 41 b14_14 ?_
          refine done_ (done_of HT_.out Q2) ?_
          try go_wp2
          go_roundg kj6
          case measure=>have:=HK1.out;have:=HJ6.out;omega
          case rel=>exact ⟨(wrap64 (x8_1 + 1)),Q7,H',⟨by have:=HK1.out;have:=HJ6.out;omega⟩,⟨Q15⟩,⟨Q46⟩⟩
         ·replace c19:=Bool.eq_false_iff.mpr c19
          subst c19
          have H1 : (some false) = some r:=by rw [if_neg (show ¬ (false = true) by decide)] at H;exact H
          clear H
          have H:=H1
          clear H1
          obtain rfl:=Option.some.inj H
          try go_wp2
          have n0_:=Aside0.mk (Kd.R_drew HO_7.out)
          have n1_:=Aside0.mk (below_drew1 HB.out)
          clear HO_7
          clear HB
          have HO_7:=n0_
          have HB:=n1_
          clear n0_ n1_
          have p345 : 0 ≤ (x8_1 : Int):=of_decide_eq_true Q8
          have q345 : x8_1 < (t340.length : Int):=of_decide_eq_true Q8
          obtain ⟨ad345,e345,hx345_0,hx345_1⟩:=at_T36 (Kd.R_reads' HO_7.out).2.2 x8_1 p345 q345
          cases e345
          replace p345:=eq_true p345
          replace q345:=eq_true q345
          have p349 : 0 ≤ (x8_1 : Int):=of_decide_eq_true Q8
          have q349 : x8_1 < (t340.length : Int):=of_decide_eq_true Q8
          obtain ⟨ad349,e349,hx349_0,hx349_1⟩:=at_T36 (Kd.R_reads' HO_7.out).2.2 x8_1 p349 q349
          obtain rfl : ad345 = ad349:=(by injection e349)
          replace p349:=eq_true p349
          replace q349:=eq_true q349
          refine start_ (n:=14) (S:=fun w'=>w'.cell? (ad345.add ((x8_1).toNat * 2)) = some (.int .i64 ((rd_T36 t340 x8_1).f0)) ∧ w'.cell? ⟨(ad345.add ((x8_1).toNat * 2)).block,(ad345.add ((x8_1).toNat * 2)).off + 1,none⟩ = some (.int .i64 ((rd_T36 t340 x8_1).f1)) ∧ w'.cell? (ad345.add ((x8_1).toNat * 2)) = some (.int .i64 ((rd_T36 t340 x8_1).f0)) ∧ w'.cell? ⟨(ad345.add ((x8_1).toNat * 2)).block,(ad345.add ((x8_1).toNat * 2)).off + 1,none⟩ = some (.int .i64 ((rd_T36 t340 x8_1).f1))) (ds:=[]) b14_0 Q2 rfl rfl ⟨hx345_0,hx345_1,hx349_0,hx349_1⟩ (fun hHeld=>?_);refine with_tabW laws_lwSame.tab6 laws_lwSame.bits6 (fun HT_ HW_=>?_)
          generalize wc.drew = w25 at HO_7 HB hx345_0 hx345_1 hx349_0 hx349_1 hHeld ⊢
          refine pU_ 0 28 b14_1 ?_
          refine pU_ 1 29 b14_2 ?_
          refine pU_ 2 30 b14_3 ?_
          refine pU_ 3 31 b14_4 ?_
          refine pU_ 6 34 c92 ?_
          refine pU_ 7 35 c93 ?_
          refine pU_ 8 36 c94 ?_
          refine pU_ 9 37 c95 ?_
          refine tU_ 4 32 c96 hHeld ?_
          refine tU_ 10 38 c97 hHeld ?_
          refine one_ (i:=5) (N:=some 33) b14_11 rfl rfl (one_of HT_.out Q2) Q1 (fun K hK=>?_)
          refine goes_ Try.func46 Q2 rfl #[.slice A0 l0.length c0,.agg #[.int .i64 ((rd_T36 t340 x8_1).f0),.int .i64 ((rd_T36 t340 x8_1).f1)]] (by rfl) rfl rfl Q50 ?_
          with_reducible refine (impl_BatchAt.calls kj6 _ _ l0 ((rd_T36 t340 x8_1).f0) ((rd_T36 t340 x8_1).f1) t346 _ ?side1 ?side2 A16.out).mono ?_
          (case side1=>exact Q73)
          (case side2=>exact HC0.out)
          rintro e w26 ⟨v347,rfl,ho0,hb⟩
          have HS0_:=(hb.cell (bl_ _ _ (hHeld.1))).trans (hHeld.1)
          have HS1_:=(hb.cell (bl_ _ _ (hHeld.2.1))).trans (hHeld.2.1)
          have HS2_:=(hb.cell (bl_ _ _ (hHeld.2.2.1))).trans (hHeld.2.2.1)
          have HS3_:=(hb.cell (bl_ _ _ (hHeld.2.2.2))).trans (hHeld.2.2.2)
          refine ⟨_,rfl,?_⟩
          have n0_:=Aside0.mk (Kd.R_below Q15 hb)
          have n1_:=Aside0.mk (Kd.R_lower ho0 (below_size Q46))
          have n2_:=Aside0.mk (below_step Q46 hb)
          clear HO_7
          clear HB
          have HO_7:=n0_
          have HO348:=n1_
          have HB:=n2_
          clear n0_ n1_ n2_
          (try clear hb)
          (try clear hb2)
          (try clear hk)
          (try clear hi)
          (try clear ho0)
          refine hK.out _ _ ⟨HS0_,HS1_,HS2_,HS3_⟩ (fun hHeld=>?_)
          clear hK K
          refine norm_ (a':=?_) ?_ ?_
          rotate_left
          ·show Act.put _ (some 33) _ = _
           simp only [Act.put,sA_,sZ_,sS_,i64_w,i32_w]
           rfl
          refine one_ (i:=11) (N:=some 39) b14_12 rfl rfl (one_of HT_.out Q2) Q1 (fun K hK=>?_)
          refine goes_ Try.func46 Q2 rfl #[.slice A1 l1.length c1,.agg #[.int .i64 ((rd_T36 t340 x8_1).f0),.int .i64 ((rd_T36 t340 x8_1).f1)]] (by rfl) rfl rfl Q50 ?_
          with_reducible refine (impl_BatchAt.calls kj6 _ _ l1 ((rd_T36 t340 x8_1).f0) ((rd_T36 t340 x8_1).f1) t350 _ ?side1 ?side2 A17.out).mono ?_
          (case side1=>exact (by repeat (first|exact (Kd.C_below HR1.out HB.out)|(with_reducible refine Kd.C_alloc ?_ _)|(with_reducible refine Kd.C_drewN ?_ _)|(with_reducible refine Kd.C_drew ?_))))
          (case side2=>exact HC1.out)
          rintro e w27 ⟨v351,rfl,ho0,hb⟩
          have HS0_:=(hb.cell (bl_ _ _ (hHeld.1))).trans (hHeld.1)
          have HS1_:=(hb.cell (bl_ _ _ (hHeld.2.1))).trans (hHeld.2.1)
          have HS2_:=(hb.cell (bl_ _ _ (hHeld.2.2.1))).trans (hHeld.2.2.1)
          have HS3_:=(hb.cell (bl_ _ _ (hHeld.2.2.2))).trans (hHeld.2.2.2)
          refine ⟨_,rfl,?_⟩
          have n0_:=Aside0.mk (Kd.R_below Q15 hb)
          have n1_:=Aside0.mk (Kd.R_elder' Q21 (Kd.R_base ho0) hb)
          have n2_:=Aside0.mk (Kd.R_lower (Kd.R_new' ho0 (Kd.R_lt Q21)) (below_size Q46))
          have n3_:=Aside0.mk (below_step Q46 hb)
          clear HO_7
          clear HO348
          clear HB
          have HO_7:=n0_
          have HO348:=n1_
          have HO352:=n2_
          have HB:=n3_
          clear n0_ n1_ n2_ n3_
          (try clear hb)
          (try clear hb2)
          (try clear hk)
          (try clear hi)
          (try clear ho0)
          obtain ⟨Ao28,co28,eo28⟩:=Kd.R_slice HO348.out
          (first|subst eo28|(injection eo28 with f1_ f2_ f3_;have f4_:=f1_.symm;have f5_:=f3_.symm;clear f1_ f2_ f3_;subst f4_;subst f5_))
          obtain ⟨Ao29,co29,eo29⟩:=Kd.R_slice HO352.out
          (first|subst eo29|(injection eo29 with f1_ f2_ f3_;have f4_:=f1_.symm;have f5_:=f3_.symm;clear f1_ f2_ f3_;subst f4_;subst f5_))
          refine hK.out _ _ ⟨HS0_,HS1_,HS2_,HS3_⟩ (fun hHeld=>?_)
          clear hK K
          refine norm_ (a':=?_) ?_ ?_
          rotate_left
          ·show Act.put _ (some 39) _ = _
           simp only [Act.put,sA_,sZ_,sS_,i64_w,i32_w]
           rfl
          refine one_ (i:=12) (N:=some 40) b14_13 rfl rfl (one_of HT_.out Q2) Q1 (fun K hK=>?_)
          refine goes_ Try.func67 Q2 rfl #[.slice Ao28 t346.length co28,.slice Ao29 t350.length co29] (by rfl) rfl rfl Q50 ?_
          with_reducible refine (laws_lwItems.calls kj6 _ _ t346 _ _ t350 false _ ?side1 ?side2 ?side3 ?side4 A18.out).mono ?_
          (case side1=>exact (by repeat (first|exact (Kd.R_reads' HO348.out).2.2|(with_reducible refine Kd.C_alloc ?_ _)|(with_reducible refine Kd.C_drewN ?_ _)|(with_reducible refine Kd.C_drew ?_))))
          (case side2=>exact (Kd.R_reads' HO348.out).2.1)
          (case side3=>exact (by repeat (first|exact (Kd.R_reads' HO352.out).2.2|(with_reducible refine Kd.C_alloc ?_ _)|(with_reducible refine Kd.C_drewN ?_ _)|(with_reducible refine Kd.C_drew ?_))))
          (case side4=>exact (Kd.R_reads' HO352.out).2.1)
          rintro e w' ⟨rfl,⟨nd,rfl⟩⟩
          refine ⟨_,rfl,?_⟩
          refine hK.out _ _ ⟨hHeld.1,hHeld.2.1,hHeld.2.2.1,hHeld.2.2.2⟩ (fun hHeld=>?_)
          clear hK K
          refine norm_ (a':=?_) ?_ ?_
          rotate_left
          ·show Act.put _ (some 40) _ = _
           simp only [Act.put,sA_,sZ_,sS_,i64_w,i32_w]
           rfl
          refine pU_ 13 41 b14_14 ?_
          refine done_ (done_of HT_.out Q2) ?_
          try go_wp2
          go_ret
          exact ⟨Q11,Q46⟩
        ·rw [if_neg c15] at H
         exact absurd H Q0
       ·rw [if_neg c14] at H
        exact absurd H Q0
   ·rw [if_neg c6] at H
    have c6b0 : decide (x8_1 < (t340.length : Int)) = false:=decide_eq_false c6
    clear c6
    obtain rfl:=Option.some.inj H
    obtain ⟨Ao30,co30,eo30⟩:=Kd.R_slice HO_7.out
    subst eo30
    go_wp2
    go_ret
    exact ⟨Q11,Q46⟩
noncomputable def impl_batch.f (k : Nat) (l0 : List (S38)) : Option ((List (S38)) × Bool) := (impl_consolidated.f l0).bind fun t354 => ((impl_BatchOk.f k t354).bind fun t357 => (if t357 = true then (some (t354, true)) else (some (([] : List (S38)), false))))
theorem impl_batch.mono : ∀ a0 k,LeO (impl_batch.f k a0) (impl_batch.f (k + 1) a0):=by
 intro a0 k
 unfold impl_batch.f
 repeat' first
   | (with_reducible exact impl_BatchOk.mono _ _)
   | (with_reducible exact LeO.refl _)
   | (with_reducible exact LeO.none _)
   | (with_reducible refine LeO.ite ?_ ?_)
   | (with_reducible refine LeO.bind ?_ (fun _=>?_))
   | exact impl_BatchOk.mono _ _
   | exact LeO.none _
   | refine LeO.ite ?_ ?_
   | refine LeO.bind ?_ (fun _=>?_)
set_option maxHeartbeats 8000000 in
set_option maxRecDepth 100000 in
theorem impl_batch.calls (k : Nat) (A0 : Option Addr) (c0 : Nat) (l0 : List (S38)) (r1 : List (S38)) (r2 : Bool) (w : World) (hr0 : Kd.C k38 w A0 l0.length l0) (hc0 : l0.length ≤ c0) (h : impl_batch.f k l0 = some (r1,r2)) :
  Calls Try.prog 54 #[.slice A0 l0.length c0] w fun e w'=>∃ v0_ : Value,e = .returned (.tuple #[v0_,.bool r2]) ∧ Kd.R k38 38 w' w.heap.size (fun _=>True) v0_ r1 ∧ Below w.heap.size w w':=by
 have HR0:=Aside0.mk hr0
 have HC0:=Aside0.mk hc0
 clear hr0 hc0
 have HB:=Aside0.mk (Below.refl w.heap.size w)
 have H : ((impl_consolidated.f l0).bind fun t354=>((impl_BatchOk.f k t354).bind fun t357=>(if t357 = true then (some (t354,true)) else (some (([] : List (S38)),false))))) = some (r1,r2):=h
 clear h
 replace H:=Option.bind_eq_some_iff.mp H
 obtain ⟨t354,A20,H⟩:=H
 replace H : ((impl_BatchOk.f k t354).bind fun t357=>(if t357 = true then (some (t354,true)) else (some (([] : List (S38)),false)))) = some (r1,r2):=H
 have A2:=Aside0.mk A20
 clear A20
 replace H:=Option.bind_eq_some_iff.mp H
 obtain ⟨t357,A30,H⟩:=H
 replace H : (if t357 = true then (some (t354,true)) else (some (([] : List (S38)),false))) = some (r1,r2):=H
 have A3:=Aside0.mk A30
 clear A30
 by_cases c4 : t357 = true
 ·subst c4
  have H1 : (some (t354,true)) = some (r1,r2):=by rw [if_pos rfl] at H;exact H
  clear H
  have H:=H1
  clear H1
  simp only [Option.some.injEq,Prod.mk.injEq] at H
  obtain ⟨rfl,rfl⟩:=H
  go_enter Try.func54,Try.ntmps54
  go_wp2_with (first|((with_reducible refine gate_callee (f:=84) rfl ?_);refine goesL_ (some 6) rfl rfl Try.func84 Q2 rfl #[.slice A0 l0.length c0] rfl Q50 ?_;(with_reducible refine (impl_consolidated.calls _ _ l0 t354 _ ?side1 ?side2 A2.out).mono ?_);(case side1=>exact Q55);(case side2=>exact HC0.out);rintro e w5 ⟨v355,rfl,ho0,hb⟩;refine ⟨_,rfl,?_⟩;have n0_:=Aside0.mk (Kd.R_lower ho0 (below_size Q46));have n1_:=Aside0.mk (below_step Q46 hb);clear HB;have HO356:=n0_;have HB:=n1_;clear n0_ n1_;(try clear hb);(try clear hb2);(try clear hk);(try clear hi);(try clear ho0);obtain ⟨Ao6,co6,eo6⟩:=Kd.R_slice HO356.out;subst eo6)|((with_reducible refine gate_callee (f:=24) rfl ?_);refine goesL_ (some 8) rfl rfl Try.func24 Q2 rfl #[.slice Ao6 t354.length co6] rfl Q50 ?_;(with_reducible refine (impl_BatchOk.calls k _ _ t354 true _ ?side1 ?side2 A3.out).mono ?_);(case side1=>exact (by repeat (first|exact (Kd.R_reads' HO356.out).2.2|(with_reducible refine Kd.C_alloc ?_ _)|(with_reducible refine Kd.C_drewN ?_ _)|(with_reducible refine Kd.C_drew ?_))));(case side2=>exact (Kd.R_reads' HO356.out).2.1);rintro e w7 ⟨rfl,hb⟩;refine ⟨_,rfl,?_⟩;have n0_:=Aside0.mk (Kd.R_below Q22 hb);have n1_:=Aside0.mk (below_step Q46 hb);clear HO356;clear HB;have HO356:=n0_;have HB:=n1_;clear n0_ n1_;(try clear hb);(try clear hb2);(try clear hk);(try clear hi)))
  go_ret2
  exact ⟨_,Q11,Q22,Q46⟩
 ·replace c4:=Bool.eq_false_iff.mpr c4
  subst c4
  have H1 : (some (([] : List (S38)),false)) = some (r1,r2):=by rw [if_neg (show ¬ (false = true) by decide)] at H;exact H
  clear H
  have H:=H1
  clear H1
  simp only [Option.some.injEq,Prod.mk.injEq] at H
  obtain ⟨rfl,rfl⟩:=H
  go_enter Try.func54,Try.ntmps54
  go_wp2_with (first|((with_reducible refine gate_callee (f:=84) rfl ?_);refine goesL_ (some 6) rfl rfl Try.func84 Q2 rfl #[.slice A0 l0.length c0] rfl Q50 ?_;(with_reducible refine (impl_consolidated.calls _ _ l0 t354 _ ?side1 ?side2 A2.out).mono ?_);(case side1=>exact Q55);(case side2=>exact HC0.out);rintro e w8 ⟨v355,rfl,ho0,hb⟩;refine ⟨_,rfl,?_⟩;have n0_:=Aside0.mk (Kd.R_lower ho0 (below_size Q46));have n1_:=Aside0.mk (below_step Q46 hb);clear HB;have HO356:=n0_;have HB:=n1_;clear n0_ n1_;(try clear hb);(try clear hb2);(try clear hk);(try clear hi);(try clear ho0);obtain ⟨Ao9,co9,eo9⟩:=Kd.R_slice HO356.out;subst eo9)|((with_reducible refine gate_callee (f:=24) rfl ?_);refine goesL_ (some 8) rfl rfl Try.func24 Q2 rfl #[.slice Ao9 t354.length co9] rfl Q50 ?_;(with_reducible refine (impl_BatchOk.calls k _ _ t354 false _ ?side1 ?side2 A3.out).mono ?_);(case side1=>exact (by repeat (first|exact (Kd.R_reads' HO356.out).2.2|(with_reducible refine Kd.C_alloc ?_ _)|(with_reducible refine Kd.C_drewN ?_ _)|(with_reducible refine Kd.C_drew ?_))));(case side2=>exact (Kd.R_reads' HO356.out).2.1);rintro e w10 ⟨rfl,hb⟩;refine ⟨_,rfl,?_⟩;have n0_:=Aside0.mk (Kd.R_below Q22 hb);have n1_:=Aside0.mk (below_step Q46 hb);clear HO356;clear HB;have HO356:=n0_;have HB:=n1_;clear n0_ n1_;(try clear hb);(try clear hb2);(try clear hk);(try clear hi)))
  go_ret2
  exact ⟨_,Q11,Q51,Q46⟩
noncomputable def impl_BatchOf.f (k : Nat) (l0 : List (S38)) : Option ((List (S38))) := (impl_RowsOk.f k l0).bind fun t358 => (if t358 = true then ((impl_batch.f k l0).bind fun bt359 => (some bt359.1)) else (some ([] : List (S38))))
theorem impl_BatchOf.mono : ∀ a0 k,LeO (impl_BatchOf.f k a0) (impl_BatchOf.f (k + 1) a0):=by
 intro a0 k
 unfold impl_BatchOf.f
 repeat' first
   | (with_reducible exact impl_RowsOk.mono _ _)
   | (with_reducible exact impl_batch.mono _ _)
   | (with_reducible exact LeO.refl _)
   | (with_reducible exact LeO.none _)
   | (with_reducible refine LeO.ite ?_ ?_)
   | (with_reducible refine LeO.bind ?_ (fun _=>?_))
   | exact impl_RowsOk.mono _ _
   | exact impl_batch.mono _ _
   | exact LeO.none _
   | refine LeO.ite ?_ ?_
   | refine LeO.bind ?_ (fun _=>?_)
set_option maxHeartbeats 8000000 in
set_option maxRecDepth 100000 in
theorem impl_BatchOf.calls (k : Nat) (A0 : Option Addr) (c0 : Nat) (l0 : List (S38)) (r : List (S38)) (w : World) (hr0 : Kd.C k38 w A0 l0.length l0) (hc0 : l0.length ≤ c0) (h : impl_BatchOf.f k l0 = some r) :
  Calls Try.prog 26 #[.slice A0 l0.length c0] w fun e w'=>∃ v0_ : Value,e = .returned (v0_) ∧ Kd.R k38 38 w' w.heap.size (fun _=>True) v0_ r ∧ Below w.heap.size w w':=by
 have HR0:=Aside0.mk hr0
 have HC0:=Aside0.mk hc0
 clear hr0 hc0
 have HB:=Aside0.mk (Below.refl w.heap.size w)
 have H : ((impl_RowsOk.f k l0).bind fun t358=>(if t358 = true then ((impl_batch.f k l0).bind fun bt359=>(some bt359.1)) else (some ([] : List (S38))))) = some r:=h
 clear h
 replace H:=Option.bind_eq_some_iff.mp H
 obtain ⟨t358,A20,H⟩:=H
 replace H : (if t358 = true then ((impl_batch.f k l0).bind fun bt359=>(some bt359.1)) else (some ([] : List (S38)))) = some r:=H
 have A2:=Aside0.mk A20
 clear A20
 by_cases c3 : t358 = true
 ·subst c3
  have H1 : ((impl_batch.f k l0).bind fun bt359=>(some bt359.1)) = some r:=by rw [if_pos rfl] at H;exact H
  clear H
  have H:=H1
  clear H1
  replace H:=Option.bind_eq_some_iff.mp H
  obtain ⟨⟨t359,t360⟩,A40,H⟩:=H
  replace H : (some t359) = some r:=H
  have A4:=Aside0.mk A40
  clear A40
  obtain rfl:=Option.some.inj H
  go_enter Try.func26,Try.ntmps26
  go_wp2_with (first|((with_reducible refine gate_callee (f:=39) rfl ?_);refine goesL_ (some 6) rfl rfl Try.func39 Q2 rfl #[.slice A0 l0.length c0] rfl Q50 ?_;(with_reducible refine (impl_RowsOk.calls k _ _ l0 true _ ?side1 ?side2 A2.out).mono ?_);(case side1=>exact Q55);(case side2=>exact HC0.out);rintro e w5 ⟨rfl,hb⟩;refine ⟨_,rfl,?_⟩;have n0_:=Aside0.mk (below_step Q46 hb);clear HB;have HB:=n0_;clear n0_;(try clear hb);(try clear hb2);(try clear hk);(try clear hi))|((with_reducible refine gate_callee (f:=54) rfl ?_);refine goesL_ (some 10) rfl rfl Try.func54 Q2 rfl #[.slice A0 l0.length c0] rfl Q50 ?_;(with_reducible refine (impl_batch.calls k _ _ l0 t359 t360 _ ?side1 ?side2 A4.out).mono ?_);(case side1=>exact Q73);(case side2=>exact HC0.out);rintro e w6 ⟨v361,rfl,ho0,hb⟩;refine ⟨_,rfl,?_⟩;have n0_:=Aside0.mk (Kd.R_lower ho0 (below_size Q46));have n1_:=Aside0.mk (below_step Q46 hb);clear HB;have HO362:=n0_;have HB:=n1_;clear n0_ n1_;(try clear hb);(try clear hb2);(try clear hk);(try clear hi);(try clear ho0)))
  go_ret
  exact ⟨_,Q11,by (with_reducible repeat (first|apply Kd.R_alloc|apply Kd.R_drewN|apply Kd.R_drew));exact HO362.out,Q46⟩
 ·replace c3:=Bool.eq_false_iff.mpr c3
  subst c3
  have H1 : (some ([] : List (S38))) = some r:=by rw [if_neg (show ¬ (false = true) by decide)] at H;exact H
  clear H
  have H:=H1
  clear H1
  obtain rfl:=Option.some.inj H
  go_enter Try.func26,Try.ntmps26
  go_wp2_with (first|((with_reducible refine gate_callee (f:=39) rfl ?_);refine goesL_ (some 6) rfl rfl Try.func39 Q2 rfl #[.slice A0 l0.length c0] rfl Q50 ?_;(with_reducible refine (impl_RowsOk.calls k _ _ l0 false _ ?side1 ?side2 A2.out).mono ?_);(case side1=>exact Q55);(case side2=>exact HC0.out);rintro e w7 ⟨rfl,hb⟩;refine ⟨_,rfl,?_⟩;have n0_:=Aside0.mk (below_step Q46 hb);clear HB;have HB:=n0_;clear n0_;(try clear hb);(try clear hb2);(try clear hk);(try clear hi)))
  go_ret
  exact ⟨_,Q11,Q51,Q46⟩
def spec_l2Comp.l0 : Nat → List Int → List Int → Int → Option (Int)
 | 0, _, _, _ => none
 | k + 1, x5, x6, x7 => if x7 < (x5.length : Int) then (if 0 ≤ x7 then (if x7 < (x6.length : Int) then (if (rd x5 x7) < (rd x6 x7) then (some (-1)) else (if (rd x5 x7) > (rd x6 x7) then (some 1) else (spec_l2Comp.l0 k x5 x6 (wrap64 (x7 + 1))))) else (none)) else (none)) else (some 0)
def spec_l2Comp.f (k : Nat) (a0_0 : Int) (a0_1 : Int) (a0_2 : Int) (a0_3 : Int) (a0_4 : Int) (a1_0 : Int) (a1_1 : Int) (a1_2 : Int) (a1_3 : Int) (a1_4 : Int) : Option (Int) := spec_l2Comp.l0 k (([a0_0, a0_1, a0_2, a0_3] : List Int)) (([a1_0, a1_1, a1_2, a1_3] : List Int)) 0
theorem spec_l2Comp.mono_l : ∀ k,(∀ y0 y1 y2,LeO (spec_l2Comp.l0 k y0 y1 y2) (spec_l2Comp.l0 (k + 1) y0 y1 y2))
 | 0=>fun _ _ _ r h=>by simp [spec_l2Comp.l0] at h
 | k + 1=>by
  have ih0:=spec_l2Comp.mono_l k
  ·intro y0 y1 y2
   unfold spec_l2Comp.l0
   repeat' first
   | (with_reducible exact ih0 _ _ _)
   | (with_reducible exact LeO.refl _)
   | (with_reducible exact LeO.none _)
   | (with_reducible refine LeO.ite ?_ ?_)
   | (with_reducible refine LeO.bind ?_ (fun _=>?_))
   | exact ih0 _ _ _
   | exact LeO.none _
   | refine LeO.ite ?_ ?_
   | refine LeO.bind ?_ (fun _=>?_)
theorem spec_l2Comp.mono : ∀ a0 a1 a2 a3 a4 a5 a6 a7 a8 a9 k,LeO (spec_l2Comp.f k a0 a1 a2 a3 a4 a5 a6 a7 a8 a9) (spec_l2Comp.f (k + 1) a0 a1 a2 a3 a4 a5 a6 a7 a8 a9):=by
 intro a0 a1 a2 a3 a4 a5 a6 a7 a8 a9 k
 have ih0:=spec_l2Comp.mono_l k
 unfold spec_l2Comp.f
 repeat' first
   | (with_reducible exact ih0 _ _ _)
   | (with_reducible exact LeO.refl _)
   | (with_reducible exact LeO.none _)
   | (with_reducible refine LeO.ite ?_ ?_)
   | (with_reducible refine LeO.bind ?_ (fun _=>?_))
   | exact ih0 _ _ _
   | exact LeO.none _
   | refine LeO.ite ?_ ?_
   | refine LeO.bind ?_ (fun _=>?_)
set_option maxHeartbeats 8000000 in
set_option maxRecDepth 100000 in
theorem spec_l2Comp.calls (k : Nat) (a0_0 : Int) (a0_1 : Int) (a0_2 : Int) (a0_3 : Int) (a0_4 : Int) (a1_0 : Int) (a1_1 : Int) (a1_2 : Int) (a1_3 : Int) (a1_4 : Int) (r : Int) (w : World) (h : spec_l2Comp.f k a0_0 a0_1 a0_2 a0_3 a0_4 a1_0 a1_1 a1_2 a1_3 a1_4 = some r) :
  Calls Try.prog 71 #[.agg #[.int .i64 a0_0,.int .i64 a0_1,.int .i64 a0_2,.int .i64 a0_3,.int .i64 a0_4],.agg #[.int .i64 a1_0,.int .i64 a1_1,.int .i64 a1_2,.int .i64 a1_3,.int .i64 a1_4]] w fun e w'=>e = .returned (.int .i64 r) ∧ Below w.heap.size w w':=by
 have hu38:=Try.underlying38
 have HB:=Aside0.mk (Below.refl w.heap.size w)
 have H : (spec_l2Comp.l0 k (([a0_0,a0_1,a0_2,a0_3] : List Int)) (([a1_0,a1_1,a1_2,a1_3] : List Int)) 0) = some r:=h
 clear h
 obtain ⟨y365,hy_⟩ : ∃ y_ : List Int,y_ = (([a0_0,a0_1,a0_2,a0_3] : List Int)):=⟨_,rfl⟩
 replace H : (spec_l2Comp.l0 k y365 (([a1_0,a1_1,a1_2,a1_3] : List Int)) 0) = some r:=Q98
 have Ny365:=Aside0.mk hy_
 clear hy_
 obtain ⟨y368,hy_⟩ : ∃ y_ : List Int,y_ = (([a1_0,a1_1,a1_2,a1_3] : List Int)):=⟨_,rfl⟩
 replace H : (spec_l2Comp.l0 k y365 y368 0) = some r:=Q98
 have Ny368:=Aside0.mk hy_
 clear hy_
 have H':=Aside0.mk H
 clear H
 go_enter Try.func71,Try.ntmps71
 go_wp2_with (first|((with_reducible refine gate_dst (N:=2) rfl ?_);refine box_event ?hg (N:=2) ?hd (cs:=#[.int .i64 a0_0,.int .i64 a0_1,.int .i64 a0_2,.int .i64 a0_3,.int .i64 a0_4]) (t:=38) ?hr ?_;(case hd=>rfl);(case hg=>rfl);(case hr=>first|(go_simp;done)|(go_simp;rfl));intro gb363 hg w3 hbox hb;have n0_:=Aside0.mk (below_step Q46 hb);have n1_:=Aside0.mk (hbox);have n2_:=Aside0.mk ((Q106 : w.heap.size ≤ gb363));have n3_:=n2_;clear HB;have HB:=n0_;have BK363:=n1_;have GW363:=n2_;have GE363:=n3_;clear n0_ n1_ n2_ n3_;clear hb hbox hg)|((with_reducible refine gate_dst (N:=3) rfl ?_);refine box_event ?hg (N:=3) ?hd (cs:=#[.int .i64 a1_0,.int .i64 a1_1,.int .i64 a1_2,.int .i64 a1_3,.int .i64 a1_4]) (t:=38) ?hr ?_;(case hd=>rfl);(case hg=>rfl);(case hr=>first|(go_simp;done)|(go_simp;rfl));intro gb364 hg w4 hbox hb;have n0_:=Aside0.mk (blk_below (g:=gb363) (o:=.cells #[.int .i64 a0_0,.int .i64 a0_1,.int .i64 a0_2,.int .i64 a0_3,.int .i64 a0_4] 38 (0,0)) Q41 hb);have n1_:=Aside0.mk (below_step Q68 hb);have n2_:=Aside0.mk (hbox);have n3_:=Aside0.mk ((by rw [hg];exact (below_size Q68) : w.heap.size ≤ gb364));have n4_:=n3_;have n5_:=Aside0.mk ((Q116 : gb363 ≠ gb364));have n6_:=Aside0.mk ((Q117 : gb364 ≠ gb363));clear BK363;clear HB;have BK363:=n0_;have HB:=n1_;have BK364:=n2_;have GW364:=n3_;have GE364:=n4_;have NB363_364:=n5_;have NB364_363:=n6_;clear n0_ n1_ n2_ n3_ n4_ n5_ n6_;clear hb hbox hg;have hnb5:=NB363_364.out;have hnc5:=NB364_363.out;obtain ⟨hcz6_0,hcz6_1,hcz6_2,hcz6_3,hcz6_4,hfz6_0,hfz6_1,hfz6_2,hfz6_3,hfz6_4⟩:=bx5_ BK363)|((with_reducible refine gate_dst (N:=18) rfl ?_);refine Kd.R_lit (Kd.int .i64) _ 3 ?hg (N:=18) ?hd (xs:=([a0_0,a0_1,a0_2,a0_3] : List Int)) (inner:=[.int .i64 a0_0,.int .i64 a0_1,.int .i64 a0_2,.int .i64 a0_3]) (ok:=fun _=>True) (okp:=fun _=>True) ?hr ?hp (fun _ hk=>hk) trivial (Below.refl _ _) (Nat.le_refl _) Q0 ?_;(case hd=>rfl);(case hg=>rfl);(case hr=>first|(go_simp;done)|(go_simp;rfl));(case hp=>exact (Reps.one (show Kd.M (Kd.int .i64) _ _ _ a0_0 [.int .i64 a0_0] from rfl) (Reps.one (show Kd.M (Kd.int .i64) _ _ _ a0_1 [.int .i64 a0_1] from rfl) (Reps.one (show Kd.M (Kd.int .i64) _ _ _ a0_2 [.int .i64 a0_2] from rfl) (Reps.one (show Kd.M (Kd.int .i64) _ _ _ a0_3 [.int .i64 a0_3] from rfl) (Reps.none _ _))))));intro v366 w7 ho8 hb hg_ hnew_;clear hg_ hnew_;(first|rw [← Ny365.out] at ho8|(simp only [Int.reduceToNat] at ho8;rw [← Ny365.out] at ho8));have n0_:=Aside0.mk (Kd.R_lower ho8 (below_size Q90));have n1_:=Aside0.mk (blk_below (g:=gb363) (o:=.cells #[.int .i64 a0_0,.int .i64 a0_1,.int .i64 a0_2,.int .i64 a0_3,.int .i64 a0_4] 38 (0,0)) Q41 hb);have n2_:=Aside0.mk (blk_below (g:=gb364) (o:=.cells #[.int .i64 a1_0,.int .i64 a1_1,.int .i64 a1_2,.int .i64 a1_3,.int .i64 a1_4] 38 (0,0)) Q42 hb);have n3_:=Aside0.mk (below_step Q90 hb);clear BK363;clear BK364;clear HB;have HO367:=n0_;have BK363:=n1_;have BK364:=n2_;have HB:=n3_;clear n0_ n1_ n2_ n3_;clear hb ho8;obtain ⟨hcz9_0,hcz9_1,hcz9_2,hcz9_3,hcz9_4,hfz9_0,hfz9_1,hfz9_2,hfz9_3,hfz9_4⟩:=bx5_ BK364)|((with_reducible refine gate_dst (N:=29) rfl ?_);refine Kd.R_lit (Kd.int .i64) _ 3 ?hg (N:=29) ?hd (xs:=([a1_0,a1_1,a1_2,a1_3] : List Int)) (inner:=[.int .i64 a1_0,.int .i64 a1_1,.int .i64 a1_2,.int .i64 a1_3]) (ok:=fun _=>True) (okp:=fun _=>True) ?hr ?hp (fun _ hk=>hk) trivial (Below.refl _ _) (Nat.le_refl _) Q0 ?_;(case hd=>rfl);(case hg=>rfl);(case hr=>first|(go_simp;done)|(go_simp;rfl));(case hp=>exact (Reps.one (show Kd.M (Kd.int .i64) _ _ _ a1_0 [.int .i64 a1_0] from rfl) (Reps.one (show Kd.M (Kd.int .i64) _ _ _ a1_1 [.int .i64 a1_1] from rfl) (Reps.one (show Kd.M (Kd.int .i64) _ _ _ a1_2 [.int .i64 a1_2] from rfl) (Reps.one (show Kd.M (Kd.int .i64) _ _ _ a1_3 [.int .i64 a1_3] from rfl) (Reps.none _ _))))));intro v369 w10 ho11 hb hg_ hnew_;clear hg_ hnew_;(first|rw [← Ny368.out] at ho11|(simp only [Int.reduceToNat] at ho11;rw [← Ny368.out] at ho11));have n0_:=Aside0.mk (Kd.R_elder' Q23 (Kd.R_base ho11) hb);have n1_:=Aside0.mk (Kd.R_lower (Kd.R_new' ho11 (Kd.R_lt Q23)) (below_size Q90));have n2_:=Aside0.mk (blk_below (g:=gb363) (o:=.cells #[.int .i64 a0_0,.int .i64 a0_1,.int .i64 a0_2,.int .i64 a0_3,.int .i64 a0_4] 38 (0,0)) Q41 hb);have n3_:=Aside0.mk (blk_below (g:=gb364) (o:=.cells #[.int .i64 a1_0,.int .i64 a1_1,.int .i64 a1_2,.int .i64 a1_3,.int .i64 a1_4] 38 (0,0)) Q42 hb);have n4_:=Aside0.mk (below_step Q90 hb);clear HO367;clear BK363;clear BK364;clear HB;have HO367:=n0_;have HO370:=n1_;have BK363:=n2_;have BK364:=n3_;have HB:=n4_;clear n0_ n1_ n2_ n3_ n4_;clear hb ho11))
 repeat (go_quiet (first|((with_reducible refine gate_dst (N:=2) rfl ?_);refine box_event ?hg (N:=2) ?hd (cs:=#[.int .i64 a0_0,.int .i64 a0_1,.int .i64 a0_2,.int .i64 a0_3,.int .i64 a0_4]) (t:=38) ?hr ?_;(case hd=>rfl);(case hg=>rfl);(case hr=>first|(go_simp;done)|(go_simp;rfl));intro gb363 hg w3 hbox hb;have n0_:=Aside0.mk (below_step Q46 hb);have n1_:=Aside0.mk (hbox);have n2_:=Aside0.mk ((Q106 : w.heap.size ≤ gb363));have n3_:=n2_;clear HB;have HB:=n0_;have BK363:=n1_;have GW363:=n2_;have GE363:=n3_;clear n0_ n1_ n2_ n3_;clear hb hbox hg)|((with_reducible refine gate_dst (N:=3) rfl ?_);refine box_event ?hg (N:=3) ?hd (cs:=#[.int .i64 a1_0,.int .i64 a1_1,.int .i64 a1_2,.int .i64 a1_3,.int .i64 a1_4]) (t:=38) ?hr ?_;(case hd=>rfl);(case hg=>rfl);(case hr=>first|(go_simp;done)|(go_simp;rfl));intro gb364 hg w4 hbox hb;have n0_:=Aside0.mk (blk_below (g:=gb363) (o:=.cells #[.int .i64 a0_0,.int .i64 a0_1,.int .i64 a0_2,.int .i64 a0_3,.int .i64 a0_4] 38 (0,0)) Q41 hb);have n1_:=Aside0.mk (below_step Q68 hb);have n2_:=Aside0.mk (hbox);have n3_:=Aside0.mk ((by rw [hg];exact (below_size Q68) : w.heap.size ≤ gb364));have n4_:=n3_;have n5_:=Aside0.mk ((Q116 : gb363 ≠ gb364));have n6_:=Aside0.mk ((Q117 : gb364 ≠ gb363));clear BK363;clear HB;have BK363:=n0_;have HB:=n1_;have BK364:=n2_;have GW364:=n3_;have GE364:=n4_;have NB363_364:=n5_;have NB364_363:=n6_;clear n0_ n1_ n2_ n3_ n4_ n5_ n6_;clear hb hbox hg;have hnb5:=NB363_364.out;have hnc5:=NB364_363.out;obtain ⟨hcz6_0,hcz6_1,hcz6_2,hcz6_3,hcz6_4,hfz6_0,hfz6_1,hfz6_2,hfz6_3,hfz6_4⟩:=bx5_ BK363)|((with_reducible refine gate_dst (N:=18) rfl ?_);refine Kd.R_lit (Kd.int .i64) _ 3 ?hg (N:=18) ?hd (xs:=([a0_0,a0_1,a0_2,a0_3] : List Int)) (inner:=[.int .i64 a0_0,.int .i64 a0_1,.int .i64 a0_2,.int .i64 a0_3]) (ok:=fun _=>True) (okp:=fun _=>True) ?hr ?hp (fun _ hk=>hk) trivial (Below.refl _ _) (Nat.le_refl _) Q0 ?_;(case hd=>rfl);(case hg=>rfl);(case hr=>first|(go_simp;done)|(go_simp;rfl));(case hp=>exact (Reps.one (show Kd.M (Kd.int .i64) _ _ _ a0_0 [.int .i64 a0_0] from rfl) (Reps.one (show Kd.M (Kd.int .i64) _ _ _ a0_1 [.int .i64 a0_1] from rfl) (Reps.one (show Kd.M (Kd.int .i64) _ _ _ a0_2 [.int .i64 a0_2] from rfl) (Reps.one (show Kd.M (Kd.int .i64) _ _ _ a0_3 [.int .i64 a0_3] from rfl) (Reps.none _ _))))));intro v366 w7 ho8 hb hg_ hnew_;clear hg_ hnew_;(first|rw [← Ny365.out] at ho8|(simp only [Int.reduceToNat] at ho8;rw [← Ny365.out] at ho8));have n0_:=Aside0.mk (Kd.R_lower ho8 (below_size Q90));have n1_:=Aside0.mk (blk_below (g:=gb363) (o:=.cells #[.int .i64 a0_0,.int .i64 a0_1,.int .i64 a0_2,.int .i64 a0_3,.int .i64 a0_4] 38 (0,0)) Q41 hb);have n2_:=Aside0.mk (blk_below (g:=gb364) (o:=.cells #[.int .i64 a1_0,.int .i64 a1_1,.int .i64 a1_2,.int .i64 a1_3,.int .i64 a1_4] 38 (0,0)) Q42 hb);have n3_:=Aside0.mk (below_step Q90 hb);clear BK363;clear BK364;clear HB;have HO367:=n0_;have BK363:=n1_;have BK364:=n2_;have HB:=n3_;clear n0_ n1_ n2_ n3_;clear hb ho8;obtain ⟨hcz9_0,hcz9_1,hcz9_2,hcz9_3,hcz9_4,hfz9_0,hfz9_1,hfz9_2,hfz9_3,hfz9_4⟩:=bx5_ BK364)|((with_reducible refine gate_dst (N:=29) rfl ?_);refine Kd.R_lit (Kd.int .i64) _ 3 ?hg (N:=29) ?hd (xs:=([a1_0,a1_1,a1_2,a1_3] : List Int)) (inner:=[.int .i64 a1_0,.int .i64 a1_1,.int .i64 a1_2,.int .i64 a1_3]) (ok:=fun _=>True) (okp:=fun _=>True) ?hr ?hp (fun _ hk=>hk) trivial (Below.refl _ _) (Nat.le_refl _) Q0 ?_;(case hd=>rfl);(case hg=>rfl);(case hr=>first|(go_simp;done)|(go_simp;rfl));(case hp=>exact (Reps.one (show Kd.M (Kd.int .i64) _ _ _ a1_0 [.int .i64 a1_0] from rfl) (Reps.one (show Kd.M (Kd.int .i64) _ _ _ a1_1 [.int .i64 a1_1] from rfl) (Reps.one (show Kd.M (Kd.int .i64) _ _ _ a1_2 [.int .i64 a1_2] from rfl) (Reps.one (show Kd.M (Kd.int .i64) _ _ _ a1_3 [.int .i64 a1_3] from rfl) (Reps.none _ _))))));intro v369 w10 ho11 hb hg_ hnew_;clear hg_ hnew_;(first|rw [← Ny368.out] at ho11|(simp only [Int.reduceToNat] at ho11;rw [← Ny368.out] at ho11));have n0_:=Aside0.mk (Kd.R_elder' Q23 (Kd.R_base ho11) hb);have n1_:=Aside0.mk (Kd.R_lower (Kd.R_new' ho11 (Kd.R_lt Q23)) (below_size Q90));have n2_:=Aside0.mk (blk_below (g:=gb363) (o:=.cells #[.int .i64 a0_0,.int .i64 a0_1,.int .i64 a0_2,.int .i64 a0_3,.int .i64 a0_4] 38 (0,0)) Q41 hb);have n3_:=Aside0.mk (blk_below (g:=gb364) (o:=.cells #[.int .i64 a1_0,.int .i64 a1_1,.int .i64 a1_2,.int .i64 a1_3,.int .i64 a1_4] 38 (0,0)) Q42 hb);have n4_:=Aside0.mk (below_step Q90 hb);clear HO367;clear BK363;clear BK364;clear HB;have HO367:=n0_;have HO370:=n1_;have BK363:=n2_;have BK364:=n3_;have HB:=n4_;clear n0_ n1_ n2_ n3_ n4_;clear hb ho11));try go_wp2_with (first|((with_reducible refine gate_dst (N:=2) rfl ?_);refine box_event ?hg (N:=2) ?hd (cs:=#[.int .i64 a0_0,.int .i64 a0_1,.int .i64 a0_2,.int .i64 a0_3,.int .i64 a0_4]) (t:=38) ?hr ?_;(case hd=>rfl);(case hg=>rfl);(case hr=>first|(go_simp;done)|(go_simp;rfl));intro gb363 hg w3 hbox hb;have n0_:=Aside0.mk (below_step Q46 hb);have n1_:=Aside0.mk (hbox);have n2_:=Aside0.mk ((Q106 : w.heap.size ≤ gb363));have n3_:=n2_;clear HB;have HB:=n0_;have BK363:=n1_;have GW363:=n2_;have GE363:=n3_;clear n0_ n1_ n2_ n3_;clear hb hbox hg)|((with_reducible refine gate_dst (N:=3) rfl ?_);refine box_event ?hg (N:=3) ?hd (cs:=#[.int .i64 a1_0,.int .i64 a1_1,.int .i64 a1_2,.int .i64 a1_3,.int .i64 a1_4]) (t:=38) ?hr ?_;(case hd=>rfl);(case hg=>rfl);(case hr=>first|(go_simp;done)|(go_simp;rfl));intro gb364 hg w4 hbox hb;have n0_:=Aside0.mk (blk_below (g:=gb363) (o:=.cells #[.int .i64 a0_0,.int .i64 a0_1,.int .i64 a0_2,.int .i64 a0_3,.int .i64 a0_4] 38 (0,0)) Q41 hb);have n1_:=Aside0.mk (below_step Q68 hb);have n2_:=Aside0.mk (hbox);have n3_:=Aside0.mk ((by rw [hg];exact (below_size Q68) : w.heap.size ≤ gb364));have n4_:=n3_;have n5_:=Aside0.mk ((Q116 : gb363 ≠ gb364));have n6_:=Aside0.mk ((Q117 : gb364 ≠ gb363));clear BK363;clear HB;have BK363:=n0_;have HB:=n1_;have BK364:=n2_;have GW364:=n3_;have GE364:=n4_;have NB363_364:=n5_;have NB364_363:=n6_;clear n0_ n1_ n2_ n3_ n4_ n5_ n6_;clear hb hbox hg;have hnb5:=NB363_364.out;have hnc5:=NB364_363.out;obtain ⟨hcz6_0,hcz6_1,hcz6_2,hcz6_3,hcz6_4,hfz6_0,hfz6_1,hfz6_2,hfz6_3,hfz6_4⟩:=bx5_ BK363)|((with_reducible refine gate_dst (N:=18) rfl ?_);refine Kd.R_lit (Kd.int .i64) _ 3 ?hg (N:=18) ?hd (xs:=([a0_0,a0_1,a0_2,a0_3] : List Int)) (inner:=[.int .i64 a0_0,.int .i64 a0_1,.int .i64 a0_2,.int .i64 a0_3]) (ok:=fun _=>True) (okp:=fun _=>True) ?hr ?hp (fun _ hk=>hk) trivial (Below.refl _ _) (Nat.le_refl _) Q0 ?_;(case hd=>rfl);(case hg=>rfl);(case hr=>first|(go_simp;done)|(go_simp;rfl));(case hp=>exact (Reps.one (show Kd.M (Kd.int .i64) _ _ _ a0_0 [.int .i64 a0_0] from rfl) (Reps.one (show Kd.M (Kd.int .i64) _ _ _ a0_1 [.int .i64 a0_1] from rfl) (Reps.one (show Kd.M (Kd.int .i64) _ _ _ a0_2 [.int .i64 a0_2] from rfl) (Reps.one (show Kd.M (Kd.int .i64) _ _ _ a0_3 [.int .i64 a0_3] from rfl) (Reps.none _ _))))));intro v366 w7 ho8 hb hg_ hnew_;clear hg_ hnew_;(first|rw [← Ny365.out] at ho8|(simp only [Int.reduceToNat] at ho8;rw [← Ny365.out] at ho8));have n0_:=Aside0.mk (Kd.R_lower ho8 (below_size Q90));have n1_:=Aside0.mk (blk_below (g:=gb363) (o:=.cells #[.int .i64 a0_0,.int .i64 a0_1,.int .i64 a0_2,.int .i64 a0_3,.int .i64 a0_4] 38 (0,0)) Q41 hb);have n2_:=Aside0.mk (blk_below (g:=gb364) (o:=.cells #[.int .i64 a1_0,.int .i64 a1_1,.int .i64 a1_2,.int .i64 a1_3,.int .i64 a1_4] 38 (0,0)) Q42 hb);have n3_:=Aside0.mk (below_step Q90 hb);clear BK363;clear BK364;clear HB;have HO367:=n0_;have BK363:=n1_;have BK364:=n2_;have HB:=n3_;clear n0_ n1_ n2_ n3_;clear hb ho8;obtain ⟨hcz9_0,hcz9_1,hcz9_2,hcz9_3,hcz9_4,hfz9_0,hfz9_1,hfz9_2,hfz9_3,hfz9_4⟩:=bx5_ BK364)|((with_reducible refine gate_dst (N:=29) rfl ?_);refine Kd.R_lit (Kd.int .i64) _ 3 ?hg (N:=29) ?hd (xs:=([a1_0,a1_1,a1_2,a1_3] : List Int)) (inner:=[.int .i64 a1_0,.int .i64 a1_1,.int .i64 a1_2,.int .i64 a1_3]) (ok:=fun _=>True) (okp:=fun _=>True) ?hr ?hp (fun _ hk=>hk) trivial (Below.refl _ _) (Nat.le_refl _) Q0 ?_;(case hd=>rfl);(case hg=>rfl);(case hr=>first|(go_simp;done)|(go_simp;rfl));(case hp=>exact (Reps.one (show Kd.M (Kd.int .i64) _ _ _ a1_0 [.int .i64 a1_0] from rfl) (Reps.one (show Kd.M (Kd.int .i64) _ _ _ a1_1 [.int .i64 a1_1] from rfl) (Reps.one (show Kd.M (Kd.int .i64) _ _ _ a1_2 [.int .i64 a1_2] from rfl) (Reps.one (show Kd.M (Kd.int .i64) _ _ _ a1_3 [.int .i64 a1_3] from rfl) (Reps.none _ _))))));intro v369 w10 ho11 hb hg_ hnew_;clear hg_ hnew_;(first|rw [← Ny368.out] at ho11|(simp only [Int.reduceToNat] at ho11;rw [← Ny368.out] at ho11));have n0_:=Aside0.mk (Kd.R_elder' Q23 (Kd.R_base ho11) hb);have n1_:=Aside0.mk (Kd.R_lower (Kd.R_new' ho11 (Kd.R_lt Q23)) (below_size Q90));have n2_:=Aside0.mk (blk_below (g:=gb363) (o:=.cells #[.int .i64 a0_0,.int .i64 a0_1,.int .i64 a0_2,.int .i64 a0_3,.int .i64 a0_4] 38 (0,0)) Q41 hb);have n3_:=Aside0.mk (blk_below (g:=gb364) (o:=.cells #[.int .i64 a1_0,.int .i64 a1_1,.int .i64 a1_2,.int .i64 a1_3,.int .i64 a1_4] 38 (0,0)) Q42 hb);have n4_:=Aside0.mk (below_step Q90 hb);clear HO367;clear BK363;clear BK364;clear HB;have HO367:=n0_;have HO370:=n1_;have BK363:=n2_;have BK364:=n3_;have HB:=n4_;clear n0_ n1_ n2_ n3_ n4_;clear hb ho11)))
 go_loopg [7] k (fun kq v7 w'=>∃ (x7_1 : Int),v7 = .int .i64 x7_1 ∧ Aside0 (spec_l2Comp.l0 kq y365 y368 x7_1 = some r) ∧ Aside0 (kq ≤ k) ∧ Aside0 (Kd.R (Kd.int .i64) 3 w' w.heap.size (fun k_=>some k_ ≠ (v369 : Value).ownBlock) v366 y365) ∧ Aside0 (Kd.R (Kd.int .i64) 3 w' w.heap.size (fun k_=>some k_ ≠ (v366 : Value).ownBlock) v369 y368) ∧ Aside0 (w'.heap[gb363]? = some (.cells #[.int .i64 a0_0,.int .i64 a0_1,.int .i64 a0_2,.int .i64 a0_3,.int .i64 a0_4] 38 (0,0))) ∧ Aside0 (w'.heap[gb364]? = some (.cells #[.int .i64 a1_0,.int .i64 a1_1,.int .i64 a1_2,.int .i64 a1_3,.int .i64 a1_4] 38 (0,0))) ∧ Aside0 (Below w.heap.size w w'))
 case atStart=>exact ⟨(0),Q7,H',⟨Nat.le_refl _⟩,⟨by (with_reducible repeat (first|apply Kd.R_alloc|apply Kd.R_drewN|apply Kd.R_drew));exact Kd.R_mono HO367.out (fun _ hk=>hk.2)⟩,⟨by (with_reducible repeat (first|apply Kd.R_alloc|apply Kd.R_drewN|apply Kd.R_drew));exact Kd.R_mono HO370.out (fun _ hk=>hk.2)⟩,⟨Q41⟩,⟨Q42⟩,⟨Q90⟩⟩
 case round =>
  clear H'
  try clear p2
  try clear c5
  try clear c7
  try clear hcz6_0
  try clear hcz6_1
  try clear hcz6_2
  try clear hcz6_3
  try clear hcz6_4
  try clear hcz9_0
  try clear hcz9_1
  try clear hcz9_2
  try clear hcz9_3
  try clear hcz9_4
  try clear hfz6_0
  try clear hfz6_1
  try clear hfz6_2
  try clear hfz6_3
  try clear hfz6_4
  try clear hfz9_0
  try clear hfz9_1
  try clear hfz9_2
  try clear hfz9_3
  try clear hfz9_4
  obtain ⟨x7_1,rfl,HA,HK1,HO_5,HO_6,BK363,BK364,HB⟩:=hrel
  cases gk with
  | zero=>exact absurd HA.out (by simp [spec_l2Comp.l0])
  | succ k1 =>
   have H:=HA.out
   clear HA
   simp only [spec_l2Comp.l0] at H
   by_cases c12 : x7_1 < (y365.length : Int)
   ·rw [if_pos c12] at H
    have c12b0 : decide (x7_1 < (y365.length : Int)) = true:=decide_eq_true c12
    clear c12
    by_cases c13 : 0 ≤ x7_1
    ·rw [if_pos c13] at H
     have c13b0 : decide (0 ≤ x7_1) = true:=decide_eq_true c13
     clear c13
     by_cases c14 : x7_1 < (y368.length : Int)
     ·rw [if_pos c14] at H
      have c14b0 : decide (x7_1 < (y368.length : Int)) = true:=decide_eq_true c14
      clear c14
      by_cases c15 : (rd y365 x7_1) < (rd y368 x7_1)
      ·rw [if_pos c15] at H
       have c15b0 : decide ((rd y365 x7_1) < (rd y368 x7_1)) = true:=decide_eq_true c15
       clear c15
       obtain rfl:=Option.some.inj H
       obtain ⟨Ao16,co16,eo16⟩:=Kd.R_slice HO_5.out
       subst eo16
       have p371 : 0 ≤ (x7_1 : Int):=of_decide_eq_true Q8
       have q371 : x7_1 < (y365.length : Int):=of_decide_eq_true Q8
       obtain ⟨ad371,e371,hx371_0⟩:=Kd.at_int (Kd.R_reads' HO_5.out).2.2 x7_1 p371 q371
       cases e371
       replace p371:=eq_true p371
       replace q371:=eq_true q371
       obtain ⟨Ao17,co17,eo17⟩:=Kd.R_slice HO_6.out
       subst eo17
       have p372 : 0 ≤ (x7_1 : Int):=of_decide_eq_true Q8
       have q372 : x7_1 < (y368.length : Int):=of_decide_eq_true Q8
       obtain ⟨ad372,e372,hx372_0⟩:=Kd.at_int (Kd.R_reads' HO_6.out).2.2 x7_1 p372 q372
       cases e372
       replace p372:=eq_true p372
       replace q372:=eq_true q372
       go_wp2
       repeat (go_quiet (fail);try go_wp2)
       go_ret
       exact ⟨Q11,Q90⟩
      ·rw [if_neg c15] at H
       have c15b0 : decide ((rd y365 x7_1) < (rd y368 x7_1)) = false:=decide_eq_false c15
       clear c15
       by_cases c18 : (rd y365 x7_1) > (rd y368 x7_1)
       ·rw [if_pos c18] at H
        have c18b0 : decide ((rd y368 x7_1) < (rd y365 x7_1)) = true:=decide_eq_true c18
        clear c18
        obtain rfl:=Option.some.inj H
        obtain ⟨Ao19,co19,eo19⟩:=Kd.R_slice HO_5.out
        subst eo19
        have p371 : 0 ≤ (x7_1 : Int):=of_decide_eq_true Q8
        have q371 : x7_1 < (y365.length : Int):=of_decide_eq_true Q8
        obtain ⟨ad371,e371,hx371_0⟩:=Kd.at_int (Kd.R_reads' HO_5.out).2.2 x7_1 p371 q371
        cases e371
        replace p371:=eq_true p371
        replace q371:=eq_true q371
        obtain ⟨Ao20,co20,eo20⟩:=Kd.R_slice HO_6.out
        subst eo20
        have p372 : 0 ≤ (x7_1 : Int):=of_decide_eq_true Q8
        have q372 : x7_1 < (y368.length : Int):=of_decide_eq_true Q8
        obtain ⟨ad372,e372,hx372_0⟩:=Kd.at_int (Kd.R_reads' HO_6.out).2.2 x7_1 p372 q372
        cases e372
        replace p372:=eq_true p372
        replace q372:=eq_true q372
        have p373 : 0 ≤ (x7_1 : Int):=of_decide_eq_true Q8
        have q373 : x7_1 < (y365.length : Int):=of_decide_eq_true Q8
        obtain ⟨ad373,e373,hx373_0⟩:=Kd.at_int (Kd.R_reads' HO_5.out).2.2 x7_1 p373 q373
        obtain rfl : ad371 = ad373:=(by injection e373)
        replace p373:=eq_true p373
        replace q373:=eq_true q373
        have p374 : 0 ≤ (x7_1 : Int):=of_decide_eq_true Q8
        have q374 : x7_1 < (y368.length : Int):=of_decide_eq_true Q8
        obtain ⟨ad374,e374,hx374_0⟩:=Kd.at_int (Kd.R_reads' HO_6.out).2.2 x7_1 p374 q374
        obtain rfl : ad372 = ad374:=(by injection e374)
        replace p374:=eq_true p374
        replace q374:=eq_true q374
        go_wp2
        repeat (go_quiet (fail);try go_wp2)
        go_ret
        exact ⟨Q11,Q90⟩
       ·rw [if_neg c18] at H
        have c18b0 : decide ((rd y368 x7_1) < (rd y365 x7_1)) = false:=decide_eq_false c18
        clear c18
        have H':=Aside0.mk H
        clear H
        obtain ⟨Ao21,co21,eo21⟩:=Kd.R_slice HO_5.out
        subst eo21
        have p371 : 0 ≤ (x7_1 : Int):=of_decide_eq_true Q8
        have q371 : x7_1 < (y365.length : Int):=of_decide_eq_true Q8
        obtain ⟨ad371,e371,hx371_0⟩:=Kd.at_int (Kd.R_reads' HO_5.out).2.2 x7_1 p371 q371
        cases e371
        replace p371:=eq_true p371
        replace q371:=eq_true q371
        obtain ⟨Ao22,co22,eo22⟩:=Kd.R_slice HO_6.out
        subst eo22
        have p372 : 0 ≤ (x7_1 : Int):=of_decide_eq_true Q8
        have q372 : x7_1 < (y368.length : Int):=of_decide_eq_true Q8
        obtain ⟨ad372,e372,hx372_0⟩:=Kd.at_int (Kd.R_reads' HO_6.out).2.2 x7_1 p372 q372
        cases e372
        replace p372:=eq_true p372
        replace q372:=eq_true q372
        have p373 : 0 ≤ (x7_1 : Int):=of_decide_eq_true Q8
        have q373 : x7_1 < (y365.length : Int):=of_decide_eq_true Q8
        obtain ⟨ad373,e373,hx373_0⟩:=Kd.at_int (Kd.R_reads' HO_5.out).2.2 x7_1 p373 q373
        obtain rfl : ad371 = ad373:=(by injection e373)
        replace p373:=eq_true p373
        replace q373:=eq_true q373
        have p374 : 0 ≤ (x7_1 : Int):=of_decide_eq_true Q8
        have q374 : x7_1 < (y368.length : Int):=of_decide_eq_true Q8
        obtain ⟨ad374,e374,hx374_0⟩:=Kd.at_int (Kd.R_reads' HO_6.out).2.2 x7_1 p374 q374
        obtain rfl : ad372 = ad374:=(by injection e374)
        replace p374:=eq_true p374
        replace q374:=eq_true q374
        go_wp2
        repeat (go_quiet (fail);try go_wp2)
        go_roundg k1
        case measure=>have:=HK1.out;omega
        case rel=>exact ⟨(wrap64 (x7_1 + 1)),Q7,H',⟨Q4⟩,⟨Q13⟩,⟨by (with_reducible repeat (first|apply Kd.R_alloc|apply Kd.R_drewN|apply Kd.R_drew));exact HO_6.out⟩,⟨Q41⟩,⟨Q42⟩,⟨Q90⟩⟩
     ·rw [if_neg c14] at H
      exact absurd H Q0
    ·rw [if_neg c13] at H
     exact absurd H Q0
   ·rw [if_neg c12] at H
    have c12b0 : decide (x7_1 < (y365.length : Int)) = false:=decide_eq_false c12
    clear c12
    obtain rfl:=Option.some.inj H
    obtain ⟨Ao23,co23,eo23⟩:=Kd.R_slice HO_5.out
    subst eo23
    go_wp2
    repeat (go_quiet (fail);try go_wp2)
    go_ret
    exact ⟨Q11,Q90⟩
def spec_BatchOk.l0 : Nat → List (S38) → Int → Option (Bool)
 | 0, _, _ => none
 | k + 1, x0, x3 => if x3 < (x0.length : Int) then (if 0 ≤ x3 then (if ((rd_T38 x0 x3).f3) = 0 then (some false) else (if x3 > 0 then (if 0 ≤ (wrap64 (x3 - 1)) then (if (wrap64 (x3 - 1)) < (x0.length : Int) then ((spec_l2Comp.f k ((rd_T38 x0 (wrap64 (x3 - 1))).f0) ((rd_T38 x0 (wrap64 (x3 - 1))).f1) ((rd_T38 x0 (wrap64 (x3 - 1))).f2.f0) ((rd_T38 x0 (wrap64 (x3 - 1))).f2.f1) ((rd_T38 x0 (wrap64 (x3 - 1))).f3) ((rd_T38 x0 x3).f0) ((rd_T38 x0 x3).f1) ((rd_T38 x0 x3).f2.f0) ((rd_T38 x0 x3).f2.f1) ((rd_T38 x0 x3).f3)).bind fun t379 => (if t379 ≥ 0 then (some false) else (spec_BatchOk.l0 k x0 (wrap64 (x3 + 1))))) else (none)) else (none)) else (spec_BatchOk.l0 k x0 (wrap64 (x3 + 1))))) else (none)) else (some true)
def spec_BatchOk.f (k : Nat) (l0 : List (S38)) : Option (Bool) := (spec_RowsOk.f k l0).bind fun t375 => (if t375 = true then (spec_BatchOk.l0 k l0 0) else (some false))
theorem spec_BatchOk.mono_l : ∀ k,(∀ y0 y1,LeO (spec_BatchOk.l0 k y0 y1) (spec_BatchOk.l0 (k + 1) y0 y1))
 | 0=>fun _ _ r h=>by simp [spec_BatchOk.l0] at h
 | k + 1=>by
  have ih0:=spec_BatchOk.mono_l k
  ·intro y0 y1
   unfold spec_BatchOk.l0
   repeat' first
   | (with_reducible exact ih0 _ _)
   | (with_reducible exact spec_RowsOk.mono _ _)
   | (with_reducible exact spec_l2Comp.mono _ _ _ _ _ _ _ _ _ _ _)
   | (with_reducible exact LeO.refl _)
   | (with_reducible exact LeO.none _)
   | (with_reducible refine LeO.ite ?_ ?_)
   | (with_reducible refine LeO.bind ?_ (fun _=>?_))
   | exact ih0 _ _
   | exact spec_RowsOk.mono _ _
   | exact spec_l2Comp.mono _ _ _ _ _ _ _ _ _ _ _
   | exact LeO.none _
   | refine LeO.ite ?_ ?_
   | refine LeO.bind ?_ (fun _=>?_)
theorem spec_BatchOk.mono : ∀ a0 k,LeO (spec_BatchOk.f k a0) (spec_BatchOk.f (k + 1) a0):=by
 intro a0 k
 have ih0:=spec_BatchOk.mono_l k
 unfold spec_BatchOk.f
 repeat' first
   | (with_reducible exact ih0 _ _)
   | (with_reducible exact spec_RowsOk.mono _ _)
   | (with_reducible exact spec_l2Comp.mono _ _ _ _ _ _ _ _ _ _ _)
   | (with_reducible exact LeO.refl _)
   | (with_reducible exact LeO.none _)
   | (with_reducible refine LeO.ite ?_ ?_)
   | (with_reducible refine LeO.bind ?_ (fun _=>?_))
   | exact ih0 _ _
   | exact spec_RowsOk.mono _ _
   | exact spec_l2Comp.mono _ _ _ _ _ _ _ _ _ _ _
   | exact LeO.none _
   | refine LeO.ite ?_ ?_
   | refine LeO.bind ?_ (fun _=>?_)
def spec_BatchOk.T6 : Bool × List (List Nat × List Nat) := (true, [([], []), ([], []), ([0, 1], [0, 1]), ([2], [2]), ([3], [3]), ([4], [4]), ([5], [5]), ([6], [6]), ([7, 6], [6, 7]), ([8, 6, 6], [6, 8]), ([9], [9]), ([9], [9]), ([11, 9], [9, 11]), ([10, 12, 9], [9, 10, 12]), ([13, 9], [9, 13]), ([9], [9]), ([9], [9]), ([15, 16, 9], [9, 15, 16]), ([17, 9], [9, 17]), ([14, 18, 9, 9], [9, 14, 18]), ([19, 9], [9, 19]), ([9, 20, 6], [6, 9, 20]), ([6, 21], [6, 21])])
def spec_BatchOk.B6 : List Nat := [0, 0, 3, 7, 15, 31, 63, 127, 255, 511, 1023, 1023, 3071, 8191, 16383, 1023, 1023, 99327, 230399, 524287, 1048575, 2097151, 4194303]
theorem spec_BatchOk.tab6 : rtab .any (opsOf Try.f31 6) = spec_BatchOk.T6:=by kernel_rfl
theorem spec_BatchOk.bits6 : waitsOk spec_BatchOk.T6.2 spec_BatchOk.B6 = true:=by kernel_rfl
set_option maxHeartbeats 8000000 in
set_option maxRecDepth 100000 in
theorem spec_BatchOk.calls (k : Nat) (A0 : Option Addr) (c0 : Nat) (l0 : List (S38)) (r : Bool) (w : World) (hr0 : Kd.C k38 w A0 l0.length l0) (hc0 : l0.length ≤ c0) (h : spec_BatchOk.f k l0 = some r) :
  Calls Try.prog 31 #[.slice A0 l0.length c0] w fun e w'=>e = .returned (.bool r) ∧ Below w.heap.size w w':=by
 have hu38:=Try.underlying38
 have HR0:=Aside0.mk hr0
 have HC0:=Aside0.mk hc0
 clear hr0 hc0
 have HB:=Aside0.mk (Below.refl w.heap.size w)
 have H : ((spec_RowsOk.f k l0).bind fun t375=>(if t375 = true then (spec_BatchOk.l0 k l0 0) else (some false))) = some r:=h
 clear h
 replace H:=Option.bind_eq_some_iff.mp H
 obtain ⟨t375,A20,H⟩:=H
 replace H : (if t375 = true then (spec_BatchOk.l0 k l0 0) else (some false)) = some r:=H
 have A2:=Aside0.mk A20
 clear A20
 by_cases c3 : t375 = true
 ·subst c3
  have H1 : (spec_BatchOk.l0 k l0 0) = some r:=by rw [if_pos rfl] at H;exact H
  clear H
  have H:=H1
  clear H1
  have H':=Aside0.mk H
  clear H
  go_enter Try.func31,Try.ntmps31
  go_wp2_with (first|((with_reducible refine gate_callee (f:=20) rfl ?_);refine goesL_ (some 5) rfl rfl Try.func20 Q2 rfl #[.slice A0 l0.length c0] rfl Q50 ?_;(with_reducible refine (spec_RowsOk.calls k _ _ l0 true _ ?side1 ?side2 A2.out).mono ?_);(case side1=>exact Q55);(case side2=>exact HC0.out);rintro e w4 ⟨rfl,hb⟩;refine ⟨_,rfl,?_⟩;have n0_:=Aside0.mk (below_step Q46 hb);clear HB;have HB:=n0_;clear n0_;(try clear hb);(try clear hb2);(try clear hk);(try clear hi)))
  go_loopg [3] k (fun kq v3 w'=>∃ (x3_1 : Int),v3 = .int .i64 x3_1 ∧ Aside0 (spec_BatchOk.l0 kq l0 x3_1 = some r) ∧ Aside0 (kq ≤ k) ∧ Aside0 (Below w.heap.size w w'))
  case atStart=>exact ⟨(0),Q7,H',⟨Nat.le_refl _⟩,⟨Q46⟩⟩
  case round =>
   clear H'
   try clear c2
   try clear p2
   try clear c3
   obtain ⟨x3_1,rfl,HA,HK1,HB⟩:=hrel
   cases gk with
   | zero=>exact absurd HA.out (by simp [spec_BatchOk.l0])
   | succ k1 =>
    have H:=HA.out
    clear HA
    simp only [spec_BatchOk.l0] at H
    by_cases c5 : x3_1 < (l0.length : Int)
    ·rw [if_pos c5] at H
     have c5b0 : decide (x3_1 < (l0.length : Int)) = true:=decide_eq_true c5
     clear c5
     by_cases c6 : 0 ≤ x3_1
     ·rw [if_pos c6] at H
      have c6b0 : decide (0 ≤ x3_1) = true:=decide_eq_true c6
      clear c6
      by_cases c7 : ((rd_T38 l0 x3_1).f3) = 0
      ·rw [if_pos c7] at H
       have c7b0 : (((rd_T38 l0 x3_1).f3) == 0) = true:=beq_iff_eq.mpr c7
       have c7b1 : (((rd_T38 l0 x3_1).f3) != 0) = false:=bne_eq_false_iff_eq.mpr c7
       clear c7
       obtain rfl:=Option.some.inj H
       try go_wp2
       have n0_:=Aside0.mk (below_drew1 HB.out)
       clear HB
       have HB:=n0_
       clear n0_
       have p376 : 0 ≤ (x3_1 : Int):=of_decide_eq_true Q8
       have q376 : x3_1 < (l0.length : Int):=of_decide_eq_true Q8
       obtain ⟨ad376,e376,hx376_0,hx376_1,hx376_2,hx376_3,hx376_4⟩:=at_T38 HR0.out x3_1 p376 q376
       have hw376_4:=hx376_4
       have hw376_3:=hx376_3
       have hw376_2:=hx376_2
       have hw376_1:=hx376_1
       have hw376_0:=hx376_0
       cases e376
       replace hx376_0:=cb_ HB hx376_0
       replace hx376_1:=cb_ HB hx376_1
       replace hx376_2:=cb_ HB hx376_2
       replace hx376_3:=cb_ HB hx376_3
       replace hx376_4:=cb_ HB hx376_4
       replace p376:=eq_true p376
       replace q376:=eq_true q376
       refine start_ (n:=23) (S:=fun w'=>w'.cell? (ad376.add ((x3_1).toNat * 5)) = some (.int .i64 ((rd_T38 l0 x3_1).f0)) ∧ w'.cell? ⟨(ad376.add ((x3_1).toNat * 5)).block,(ad376.add ((x3_1).toNat * 5)).off + 1,none⟩ = some (.int .i64 ((rd_T38 l0 x3_1).f1)) ∧ w'.cell? ⟨(ad376.add ((x3_1).toNat * 5)).block,(ad376.add ((x3_1).toNat * 5)).off + 2,none⟩ = some (.int .i64 ((rd_T38 l0 x3_1).f2.f0)) ∧ w'.cell? ⟨(ad376.add ((x3_1).toNat * 5)).block,(ad376.add ((x3_1).toNat * 5)).off + 3,none⟩ = some (.int .i64 ((rd_T38 l0 x3_1).f2.f1)) ∧ w'.cell? ⟨(ad376.add ((x3_1).toNat * 5)).block,(ad376.add ((x3_1).toNat * 5)).off + 4,none⟩ = some (.int .i64 ((rd_T38 l0 x3_1).f3))) (ds:=[]) b23_0 Q2 rfl rfl ⟨(cb_ HB hw376_0:),(cb_ HB hw376_1:),(cb_ HB hw376_2:),(cb_ HB hw376_3:),(cb_ HB hw376_4:)⟩ (fun hHeld=>?_);refine with_tabW spec_BatchOk.tab6 spec_BatchOk.bits6 (fun HT_ HW_=>?_)
       generalize wr.drew = w8 at HB hx376_0 hx376_1 hx376_2 hx376_3 hx376_4 hHeld ⊢
       refine pU_ 0 13 b23_1 ?_
       refine pU_ 1 14 b23_2 ?_
       refine pU_ 2 15 b23_3 ?_
       refine pU_ 3 16 b23_4 ?_
       refine tU_ 4 17 b23_5 hHeld ?_
       refine pU_ 5 18 b23_6 ?_
       refine pU_ 6 19 b23_7 ?_
       refine pV_ 7 20 b23_8 ?_
       refine pV_ 8 21 b23_9 ?_
       refine pV_ 9 22 b23_10 ?_
       refine pV_ 10 23 b23_11 ?_
       refine pV_ 11 24 b23_12 ?_
       refine pV_ 12 25 b23_13 ?_
       refine pV_ 13 26 b23_14 ?_
       refine pV_ 14 27 b23_15 ?_
       refine pV_ 15 28 b23_16 ?_
       refine pV_ 16 29 b23_17 ?_
       refine pV_ 17 30 b23_18 ?_
       refine pV_ 18 31 b23_19 ?_
       refine pV_ 19 32 b23_20 ?_
       refine pV_ 20 33 b23_21 ?_
       refine pV_ 21 34 b23_22 ?_
       refine pU_ 22 35 b23_23 ?_
       refine done_ (done_of HT_.out Q2) ?_
       try go_wp2
       go_ret
       exact ⟨Q11,Q46⟩
      ·rw [if_neg c7] at H
       have c7b0 : (((rd_T38 l0 x3_1).f3) == 0) = false:=beq_eq_false_iff_ne.mpr c7
       have c7b1 : (((rd_T38 l0 x3_1).f3) != 0) = true:=bne_iff_ne.mpr c7
       by_cases c9 : x3_1 > 0
       ·rw [if_pos c9] at H
        have c9b0 : decide (0 < x3_1) = true:=decide_eq_true c9
        clear c9
        obtain ⟨ji10,hji10⟩ : ∃ j_ : Int,(wrap64 (x3_1 - 1)) = j_:=⟨_,rfl⟩
        replace H : (if 0 ≤ (ji10) then (if (ji10) < (l0.length : Int) then ((spec_l2Comp.f k1 ((rd_T38 l0 (ji10)).f0) ((rd_T38 l0 (ji10)).f1) ((rd_T38 l0 (ji10)).f2.f0) ((rd_T38 l0 (ji10)).f2.f1) ((rd_T38 l0 (ji10)).f3) ((rd_T38 l0 x3_1).f0) ((rd_T38 l0 x3_1).f1) ((rd_T38 l0 x3_1).f2.f0) ((rd_T38 l0 x3_1).f2.f1) ((rd_T38 l0 x3_1).f3)).bind fun t379=>(if t379 ≥ 0 then (some false) else (spec_BatchOk.l0 k1 l0 (wrap64 (x3_1 + 1))))) else (none)) else (none)) = some r:=by first|(rw [hji10] at H;exact H)|(simp only [hji10] at H ⊢;exact H)
        have hji10w : (IntKind.i64.wrap (x3_1 - 1)) = ji10:=(i64_w _).trans hji10
        by_cases c11 : 0 ≤ (ji10)
        ·rw [if_pos c11] at H
         have c11b0 : decide (0 ≤ (ji10)) = true:=decide_eq_true c11
         clear c11
         by_cases c12 : (ji10) < (l0.length : Int)
         ·rw [if_pos c12] at H
          have c12b0 : decide ((ji10) < (l0.length : Int)) = true:=decide_eq_true c12
          clear c12
          replace H:=Option.bind_eq_some_iff.mp H
          obtain ⟨t379,A130,H⟩:=H
          replace H : (if t379 ≥ 0 then (some false) else (spec_BatchOk.l0 k1 l0 (wrap64 (x3_1 + 1)))) = some r:=H
          have A13:=Aside0.mk A130
          clear A130
          by_cases c14 : t379 ≥ 0
          ·rw [if_pos c14] at H
           have c14b0 : decide (0 ≤ t379) = true:=decide_eq_true c14
           clear c14
           obtain rfl:=Option.some.inj H
           try go_wp2
           have n0_:=Aside0.mk (below_drew1 HB.out)
           clear HB
           have HB:=n0_
           clear n0_
           have p376 : 0 ≤ (x3_1 : Int):=of_decide_eq_true Q8
           have q376 : x3_1 < (l0.length : Int):=of_decide_eq_true Q8
           obtain ⟨ad376,e376,hx376_0,hx376_1,hx376_2,hx376_3,hx376_4⟩:=at_T38 HR0.out x3_1 p376 q376
           have hw376_4:=hx376_4
           have hw376_3:=hx376_3
           have hw376_2:=hx376_2
           have hw376_1:=hx376_1
           have hw376_0:=hx376_0
           cases e376
           replace hx376_0:=cb_ HB hx376_0
           replace hx376_1:=cb_ HB hx376_1
           replace hx376_2:=cb_ HB hx376_2
           replace hx376_3:=cb_ HB hx376_3
           replace hx376_4:=cb_ HB hx376_4
           replace p376:=eq_true p376
           replace q376:=eq_true q376
           have p377 : 0 ≤ ((ji10) : Int):=of_decide_eq_true Q8
           have q377 : (ji10) < (l0.length : Int):=of_decide_eq_true Q8
           obtain ⟨ad377,e377,hx377_0,hx377_1,hx377_2,hx377_3,hx377_4⟩:=at_T38 HR0.out (ji10) p377 q377
           have hw377_4:=hx377_4
           have hw377_3:=hx377_3
           have hw377_2:=hx377_2
           have hw377_1:=hx377_1
           have hw377_0:=hx377_0
           obtain rfl : ad376 = ad377:=(by injection e377)
           replace hx377_0:=cb_ HB hx377_0
           replace hx377_1:=cb_ HB hx377_1
           replace hx377_2:=cb_ HB hx377_2
           replace hx377_3:=cb_ HB hx377_3
           replace hx377_4:=cb_ HB hx377_4
           replace p377:=eq_true p377
           replace q377:=eq_true q377
           have p378 : 0 ≤ (x3_1 : Int):=of_decide_eq_true Q8
           have q378 : x3_1 < (l0.length : Int):=of_decide_eq_true Q8
           obtain ⟨ad378,e378,hx378_0,hx378_1,hx378_2,hx378_3,hx378_4⟩:=at_T38 HR0.out x3_1 p378 q378
           have hw378_4:=hx378_4
           have hw378_3:=hx378_3
           have hw378_2:=hx378_2
           have hw378_1:=hx378_1
           have hw378_0:=hx378_0
           obtain rfl : ad376 = ad378:=(by injection e378)
           replace hx378_0:=cb_ HB hx378_0
           replace hx378_1:=cb_ HB hx378_1
           replace hx378_2:=cb_ HB hx378_2
           replace hx378_3:=cb_ HB hx378_3
           replace hx378_4:=cb_ HB hx378_4
           replace p378:=eq_true p378
           replace q378:=eq_true q378
           refine start_ (n:=23) (S:=fun w'=>w'.cell? (ad376.add ((x3_1).toNat * 5)) = some (.int .i64 ((rd_T38 l0 x3_1).f0)) ∧ w'.cell? ⟨(ad376.add ((x3_1).toNat * 5)).block,(ad376.add ((x3_1).toNat * 5)).off + 1,none⟩ = some (.int .i64 ((rd_T38 l0 x3_1).f1)) ∧ w'.cell? ⟨(ad376.add ((x3_1).toNat * 5)).block,(ad376.add ((x3_1).toNat * 5)).off + 2,none⟩ = some (.int .i64 ((rd_T38 l0 x3_1).f2.f0)) ∧ w'.cell? ⟨(ad376.add ((x3_1).toNat * 5)).block,(ad376.add ((x3_1).toNat * 5)).off + 3,none⟩ = some (.int .i64 ((rd_T38 l0 x3_1).f2.f1)) ∧ w'.cell? ⟨(ad376.add ((x3_1).toNat * 5)).block,(ad376.add ((x3_1).toNat * 5)).off + 4,none⟩ = some (.int .i64 ((rd_T38 l0 x3_1).f3)) ∧ w'.cell? (ad376.add (((ji10)).toNat * 5)) = some (.int .i64 ((rd_T38 l0 (ji10)).f0)) ∧ w'.cell? ⟨(ad376.add (((ji10)).toNat * 5)).block,(ad376.add (((ji10)).toNat * 5)).off + 1,none⟩ = some (.int .i64 ((rd_T38 l0 (ji10)).f1)) ∧ w'.cell? ⟨(ad376.add (((ji10)).toNat * 5)).block,(ad376.add (((ji10)).toNat * 5)).off + 2,none⟩ = some (.int .i64 ((rd_T38 l0 (ji10)).f2.f0)) ∧ w'.cell? ⟨(ad376.add (((ji10)).toNat * 5)).block,(ad376.add (((ji10)).toNat * 5)).off + 3,none⟩ = some (.int .i64 ((rd_T38 l0 (ji10)).f2.f1)) ∧ w'.cell? ⟨(ad376.add (((ji10)).toNat * 5)).block,(ad376.add (((ji10)).toNat * 5)).off + 4,none⟩ = some (.int .i64 ((rd_T38 l0 (ji10)).f3)) ∧ w'.cell? (ad376.add ((x3_1).toNat * 5)) = some (.int .i64 ((rd_T38 l0 x3_1).f0)) ∧ w'.cell? ⟨(ad376.add ((x3_1).toNat * 5)).block,(ad376.add ((x3_1).toNat * 5)).off + 1,none⟩ = some (.int .i64 ((rd_T38 l0 x3_1).f1)) ∧ w'.cell? ⟨(ad376.add ((x3_1).toNat * 5)).block,(ad376.add ((x3_1).toNat * 5)).off + 2,none⟩ = some (.int .i64 ((rd_T38 l0 x3_1).f2.f0)) ∧ w'.cell? ⟨(ad376.add ((x3_1).toNat * 5)).block,(ad376.add ((x3_1).toNat * 5)).off + 3,none⟩ = some (.int .i64 ((rd_T38 l0 x3_1).f2.f1)) ∧ w'.cell? ⟨(ad376.add ((x3_1).toNat * 5)).block,(ad376.add ((x3_1).toNat * 5)).off + 4,none⟩ = some (.int .i64 ((rd_T38 l0 x3_1).f3))) (ds:=[]) b23_0 Q2 rfl rfl ⟨(cb_ HB hw376_0:),(cb_ HB hw376_1:),(cb_ HB hw376_2:),(cb_ HB hw376_3:),(cb_ HB hw376_4:),(cb_ HB hw377_0:),(cb_ HB hw377_1:),(cb_ HB hw377_2:),(cb_ HB hw377_3:),(cb_ HB hw377_4:),(cb_ HB hw378_0:),(cb_ HB hw378_1:),(cb_ HB hw378_2:),(cb_ HB hw378_3:),(cb_ HB hw378_4:)⟩ (fun hHeld=>?_);refine with_tabW spec_BatchOk.tab6 spec_BatchOk.bits6 (fun HT_ HW_=>?_)
           generalize wr.drew = w15 at HB hx376_0 hx376_1 hx376_2 hx376_3 hx376_4 hx377_0 hx377_1 hx377_2 hx377_3 hx377_4 hx378_0 hx378_1 hx378_2 hx378_3 hx378_4 hHeld ⊢
           refine pU_ 0 13 b23_1 ?_
           refine pU_ 1 14 b23_2 ?_
           refine pU_ 2 15 b23_3 ?_
           refine pU_ 3 16 b23_4 ?_
           refine tU_ 4 17 b23_5 hHeld ?_
           refine pU_ 5 18 b23_6 ?_
           refine pU_ 6 19 b23_7 ?_
           refine pU_ 7 20 b23_8 ?_
           refine pU_ 8 21 b23_9 ?_
           refine pU_ 9 22 b23_10 ?_
           refine pU_ 10 23 b23_11 ?_
           refine pU_ 11 24 b23_12 ?_
           refine pU_ 12 25 b23_13 ?_
           refine pU_ 13 26 b23_14 ?_
           refine pU_ 15 28 c126 ?_
           refine pU_ 16 29 c127 ?_
           refine pU_ 17 30 c128 ?_
           refine tU_ 14 27 b23_18 hHeld ?_
           refine tU_ 18 31 b23_19 hHeld ?_
           refine one_ (i:=19) (N:=some 32) b23_20 rfl rfl (one_of HT_.out Q2) Q1 (fun K hK=>?_)
           refine goes_ Try.func71 Q2 rfl #[.agg #[.int .i64 ((rd_T38 l0 (ji10)).f0),.int .i64 ((rd_T38 l0 (ji10)).f1),.int .i64 ((rd_T38 l0 (ji10)).f2.f0),.int .i64 ((rd_T38 l0 (ji10)).f2.f1),.int .i64 ((rd_T38 l0 (ji10)).f3)],.agg #[.int .i64 ((rd_T38 l0 x3_1).f0),.int .i64 ((rd_T38 l0 x3_1).f1),.int .i64 ((rd_T38 l0 x3_1).f2.f0),.int .i64 ((rd_T38 l0 x3_1).f2.f1),.int .i64 ((rd_T38 l0 x3_1).f3)]] (by rfl) rfl rfl (by (try simp only [List.map_toArray,List.map_cons,List.map_nil]);first|done|(simp only [hji10];rfl)|rfl|(simp only [List.length_drop,List.length_take];rfl)) ?_
           with_reducible refine (spec_l2Comp.calls k1 ((rd_T38 l0 (ji10)).f0) ((rd_T38 l0 (ji10)).f1) ((rd_T38 l0 (ji10)).f2.f0) ((rd_T38 l0 (ji10)).f2.f1) ((rd_T38 l0 (ji10)).f3) ((rd_T38 l0 x3_1).f0) ((rd_T38 l0 x3_1).f1) ((rd_T38 l0 x3_1).f2.f0) ((rd_T38 l0 x3_1).f2.f1) ((rd_T38 l0 x3_1).f3) t379 _ A13.out).mono ?_
           rintro e w16 ⟨rfl,hb⟩
           refine ⟨_,rfl,?_⟩
           have n0_:=Aside0.mk (below_step Q46 hb)
           clear HB
           have HB:=n0_
           clear n0_
           (try clear hb)
           (try clear hb2)
           (try clear hk)
           (try clear hi)
           refine hK.out _ _ ⟨(cb_ HB hw376_0:),(cb_ HB hw376_1:),(cb_ HB hw376_2:),(cb_ HB hw376_3:),(cb_ HB hw376_4:),(cb_ HB hw377_0:),(cb_ HB hw377_1:),(cb_ HB hw377_2:),(cb_ HB hw377_3:),(cb_ HB hw377_4:),(cb_ HB hw378_0:),(cb_ HB hw378_1:),(cb_ HB hw378_2:),(cb_ HB hw378_3:),(cb_ HB hw378_4:)⟩ (fun hHeld=>?_)
           clear hK K
           refine norm_ (a':=?_) ?_ ?_
           rotate_left
           ·show Act.put _ (some 32) _ = _
            simp only [Act.put,sA_,sZ_,sS_,i64_w,i32_w]
            rfl
           refine pU_ 20 33 b23_21 ?_
           refine pU_ 21 34 b23_22 ?_
           refine pU_ 22 35 b23_23 ?_
           refine done_ (done_of HT_.out Q2) ?_
           try go_wp2
           go_ret
           exact ⟨by first|rfl|(simp [errW_none,errW_some] <;> rfl)|(simp only [← hji10];first|rfl|(simp [errW_none,errW_some] <;> rfl))|(simp [*,errW_none,errW_some] <;> rfl),Q46⟩
          ·rw [if_neg c14] at H
           have c14b0 : decide (0 ≤ t379) = false:=decide_eq_false c14
           clear c14
           have H':=Aside0.mk H
           clear H
           try go_wp2
           have n0_:=Aside0.mk (below_drew1 HB.out)
           clear HB
           have HB:=n0_
           clear n0_
           have p376 : 0 ≤ (x3_1 : Int):=of_decide_eq_true Q8
           have q376 : x3_1 < (l0.length : Int):=of_decide_eq_true Q8
           obtain ⟨ad376,e376,hx376_0,hx376_1,hx376_2,hx376_3,hx376_4⟩:=at_T38 HR0.out x3_1 p376 q376
           have hw376_4:=hx376_4
           have hw376_3:=hx376_3
           have hw376_2:=hx376_2
           have hw376_1:=hx376_1
           have hw376_0:=hx376_0
           cases e376
           replace hx376_0:=cb_ HB hx376_0
           replace hx376_1:=cb_ HB hx376_1
           replace hx376_2:=cb_ HB hx376_2
           replace hx376_3:=cb_ HB hx376_3
           replace hx376_4:=cb_ HB hx376_4
           replace p376:=eq_true p376
           replace q376:=eq_true q376
           have p377 : 0 ≤ ((ji10) : Int):=of_decide_eq_true Q8
           have q377 : (ji10) < (l0.length : Int):=of_decide_eq_true Q8
           obtain ⟨ad377,e377,hx377_0,hx377_1,hx377_2,hx377_3,hx377_4⟩:=at_T38 HR0.out (ji10) p377 q377
           have hw377_4:=hx377_4
           have hw377_3:=hx377_3
           have hw377_2:=hx377_2
           have hw377_1:=hx377_1
           have hw377_0:=hx377_0
           obtain rfl : ad376 = ad377:=(by injection e377)
           replace hx377_0:=cb_ HB hx377_0
           replace hx377_1:=cb_ HB hx377_1
           replace hx377_2:=cb_ HB hx377_2
           replace hx377_3:=cb_ HB hx377_3
           replace hx377_4:=cb_ HB hx377_4
           replace p377:=eq_true p377
           replace q377:=eq_true q377
           have p378 : 0 ≤ (x3_1 : Int):=of_decide_eq_true Q8
           have q378 : x3_1 < (l0.length : Int):=of_decide_eq_true Q8
           obtain ⟨ad378,e378,hx378_0,hx378_1,hx378_2,hx378_3,hx378_4⟩:=at_T38 HR0.out x3_1 p378 q378
           have hw378_4:=hx378_4
           have hw378_3:=hx378_3
           have hw378_2:=hx378_2
           have hw378_1:=hx378_1
           have hw378_0:=hx378_0
           obtain rfl : ad376 = ad378:=(by injection e378)
           replace hx378_0:=cb_ HB hx378_0
           replace hx378_1:=cb_ HB hx378_1
           replace hx378_2:=cb_ HB hx378_2
           replace hx378_3:=cb_ HB hx378_3
           replace hx378_4:=cb_ HB hx378_4
           replace p378:=eq_true p378
           replace q378:=eq_true q378
           refine start_ (n:=23) (S:=fun w'=>w'.cell? (ad376.add ((x3_1).toNat * 5)) = some (.int .i64 ((rd_T38 l0 x3_1).f0)) ∧ w'.cell? ⟨(ad376.add ((x3_1).toNat * 5)).block,(ad376.add ((x3_1).toNat * 5)).off + 1,none⟩ = some (.int .i64 ((rd_T38 l0 x3_1).f1)) ∧ w'.cell? ⟨(ad376.add ((x3_1).toNat * 5)).block,(ad376.add ((x3_1).toNat * 5)).off + 2,none⟩ = some (.int .i64 ((rd_T38 l0 x3_1).f2.f0)) ∧ w'.cell? ⟨(ad376.add ((x3_1).toNat * 5)).block,(ad376.add ((x3_1).toNat * 5)).off + 3,none⟩ = some (.int .i64 ((rd_T38 l0 x3_1).f2.f1)) ∧ w'.cell? ⟨(ad376.add ((x3_1).toNat * 5)).block,(ad376.add ((x3_1).toNat * 5)).off + 4,none⟩ = some (.int .i64 ((rd_T38 l0 x3_1).f3)) ∧ w'.cell? (ad376.add (((ji10)).toNat * 5)) = some (.int .i64 ((rd_T38 l0 (ji10)).f0)) ∧ w'.cell? ⟨(ad376.add (((ji10)).toNat * 5)).block,(ad376.add (((ji10)).toNat * 5)).off + 1,none⟩ = some (.int .i64 ((rd_T38 l0 (ji10)).f1)) ∧ w'.cell? ⟨(ad376.add (((ji10)).toNat * 5)).block,(ad376.add (((ji10)).toNat * 5)).off + 2,none⟩ = some (.int .i64 ((rd_T38 l0 (ji10)).f2.f0)) ∧ w'.cell? ⟨(ad376.add (((ji10)).toNat * 5)).block,(ad376.add (((ji10)).toNat * 5)).off + 3,none⟩ = some (.int .i64 ((rd_T38 l0 (ji10)).f2.f1)) ∧ w'.cell? ⟨(ad376.add (((ji10)).toNat * 5)).block,(ad376.add (((ji10)).toNat * 5)).off + 4,none⟩ = some (.int .i64 ((rd_T38 l0 (ji10)).f3)) ∧ w'.cell? (ad376.add ((x3_1).toNat * 5)) = some (.int .i64 ((rd_T38 l0 x3_1).f0)) ∧ w'.cell? ⟨(ad376.add ((x3_1).toNat * 5)).block,(ad376.add ((x3_1).toNat * 5)).off + 1,none⟩ = some (.int .i64 ((rd_T38 l0 x3_1).f1)) ∧ w'.cell? ⟨(ad376.add ((x3_1).toNat * 5)).block,(ad376.add ((x3_1).toNat * 5)).off + 2,none⟩ = some (.int .i64 ((rd_T38 l0 x3_1).f2.f0)) ∧ w'.cell? ⟨(ad376.add ((x3_1).toNat * 5)).block,(ad376.add ((x3_1).toNat * 5)).off + 3,none⟩ = some (.int .i64 ((rd_T38 l0 x3_1).f2.f1)) ∧ w'.cell? ⟨(ad376.add ((x3_1).toNat * 5)).block,(ad376.add ((x3_1).toNat * 5)).off + 4,none⟩ = some (.int .i64 ((rd_T38 l0 x3_1).f3))) (ds:=[]) b23_0 Q2 rfl rfl ⟨(cb_ HB hw376_0:),(cb_ HB hw376_1:),(cb_ HB hw376_2:),(cb_ HB hw376_3:),(cb_ HB hw376_4:),(cb_ HB hw377_0:),(cb_ HB hw377_1:),(cb_ HB hw377_2:),(cb_ HB hw377_3:),(cb_ HB hw377_4:),(cb_ HB hw378_0:),(cb_ HB hw378_1:),(cb_ HB hw378_2:),(cb_ HB hw378_3:),(cb_ HB hw378_4:)⟩ (fun hHeld=>?_);refine with_tabW spec_BatchOk.tab6 spec_BatchOk.bits6 (fun HT_ HW_=>?_)
           generalize wr.drew = w17 at HB hx376_0 hx376_1 hx376_2 hx376_3 hx376_4 hx377_0 hx377_1 hx377_2 hx377_3 hx377_4 hx378_0 hx378_1 hx378_2 hx378_3 hx378_4 hHeld ⊢
           refine pU_ 0 13 b23_1 ?_
           refine pU_ 1 14 b23_2 ?_
           refine pU_ 2 15 b23_3 ?_
           refine pU_ 3 16 b23_4 ?_
           refine tU_ 4 17 b23_5 hHeld ?_
           refine pU_ 5 18 b23_6 ?_
           refine pU_ 6 19 b23_7 ?_
           refine pU_ 7 20 b23_8 ?_
           refine pU_ 8 21 b23_9 ?_
           refine pU_ 9 22 b23_10 ?_
           refine pU_ 10 23 b23_11 ?_
           refine pU_ 11 24 b23_12 ?_
           refine pU_ 12 25 b23_13 ?_
           refine pU_ 13 26 b23_14 ?_
           refine pU_ 15 28 c126 ?_
           refine pU_ 16 29 c127 ?_
           refine pU_ 17 30 c128 ?_
           refine tU_ 14 27 b23_18 hHeld ?_
           refine tU_ 18 31 b23_19 hHeld ?_
           refine one_ (i:=19) (N:=some 32) b23_20 rfl rfl (one_of HT_.out Q2) Q1 (fun K hK=>?_)
           refine goes_ Try.func71 Q2 rfl #[.agg #[.int .i64 ((rd_T38 l0 (ji10)).f0),.int .i64 ((rd_T38 l0 (ji10)).f1),.int .i64 ((rd_T38 l0 (ji10)).f2.f0),.int .i64 ((rd_T38 l0 (ji10)).f2.f1),.int .i64 ((rd_T38 l0 (ji10)).f3)],.agg #[.int .i64 ((rd_T38 l0 x3_1).f0),.int .i64 ((rd_T38 l0 x3_1).f1),.int .i64 ((rd_T38 l0 x3_1).f2.f0),.int .i64 ((rd_T38 l0 x3_1).f2.f1),.int .i64 ((rd_T38 l0 x3_1).f3)]] (by rfl) rfl rfl (by (try simp only [List.map_toArray,List.map_cons,List.map_nil]);first|done|(simp only [hji10];rfl)|rfl|(simp only [List.length_drop,List.length_take];rfl)) ?_
           with_reducible refine (spec_l2Comp.calls k1 ((rd_T38 l0 (ji10)).f0) ((rd_T38 l0 (ji10)).f1) ((rd_T38 l0 (ji10)).f2.f0) ((rd_T38 l0 (ji10)).f2.f1) ((rd_T38 l0 (ji10)).f3) ((rd_T38 l0 x3_1).f0) ((rd_T38 l0 x3_1).f1) ((rd_T38 l0 x3_1).f2.f0) ((rd_T38 l0 x3_1).f2.f1) ((rd_T38 l0 x3_1).f3) t379 _ A13.out).mono ?_
           rintro e w18 ⟨rfl,hb⟩
           refine ⟨_,rfl,?_⟩
           have n0_:=Aside0.mk (below_step Q46 hb)
           clear HB
           have HB:=n0_
           clear n0_
           (try clear hb)
           (try clear hb2)
           (try clear hk)
           (try clear hi)
           refine hK.out _ _ ⟨(cb_ HB hw376_0:),(cb_ HB hw376_1:),(cb_ HB hw376_2:),(cb_ HB hw376_3:),(cb_ HB hw376_4:),(cb_ HB hw377_0:),(cb_ HB hw377_1:),(cb_ HB hw377_2:),(cb_ HB hw377_3:),(cb_ HB hw377_4:),(cb_ HB hw378_0:),(cb_ HB hw378_1:),(cb_ HB hw378_2:),(cb_ HB hw378_3:),(cb_ HB hw378_4:)⟩ (fun hHeld=>?_)
           clear hK K
           refine norm_ (a':=?_) ?_ ?_
           rotate_left
           ·show Act.put _ (some 32) _ = _
            simp only [Act.put,sA_,sZ_,sS_,i64_w,i32_w]
            rfl
           refine pU_ 20 33 b23_21 ?_
           refine pU_ 21 34 b23_22 ?_
           refine pU_ 22 35 b23_23 ?_
           refine done_ (done_of HT_.out Q2) ?_
           try go_wp2
           go_roundg k1
           case measure=>have:=HK1.out;omega
           case rel=>exact ⟨(wrap64 (x3_1 + 1)),Q7,H',⟨Q4⟩,⟨Q46⟩⟩
         ·rw [if_neg c12] at H
          exact absurd H Q0
        ·rw [if_neg c11] at H
         exact absurd H Q0
       ·rw [if_neg c9] at H
        have c9b0 : decide (0 < x3_1) = false:=decide_eq_false c9
        clear c9
        have H':=Aside0.mk H
        clear H
        try go_wp2
        have n0_:=Aside0.mk (below_drew1 HB.out)
        clear HB
        have HB:=n0_
        clear n0_
        have p376 : 0 ≤ (x3_1 : Int):=of_decide_eq_true Q8
        have q376 : x3_1 < (l0.length : Int):=of_decide_eq_true Q8
        obtain ⟨ad376,e376,hx376_0,hx376_1,hx376_2,hx376_3,hx376_4⟩:=at_T38 HR0.out x3_1 p376 q376
        have hw376_4:=hx376_4
        have hw376_3:=hx376_3
        have hw376_2:=hx376_2
        have hw376_1:=hx376_1
        have hw376_0:=hx376_0
        cases e376
        replace hx376_0:=cb_ HB hx376_0
        replace hx376_1:=cb_ HB hx376_1
        replace hx376_2:=cb_ HB hx376_2
        replace hx376_3:=cb_ HB hx376_3
        replace hx376_4:=cb_ HB hx376_4
        replace p376:=eq_true p376
        replace q376:=eq_true q376
        refine start_ (n:=23) (S:=fun w'=>w'.cell? (ad376.add ((x3_1).toNat * 5)) = some (.int .i64 ((rd_T38 l0 x3_1).f0)) ∧ w'.cell? ⟨(ad376.add ((x3_1).toNat * 5)).block,(ad376.add ((x3_1).toNat * 5)).off + 1,none⟩ = some (.int .i64 ((rd_T38 l0 x3_1).f1)) ∧ w'.cell? ⟨(ad376.add ((x3_1).toNat * 5)).block,(ad376.add ((x3_1).toNat * 5)).off + 2,none⟩ = some (.int .i64 ((rd_T38 l0 x3_1).f2.f0)) ∧ w'.cell? ⟨(ad376.add ((x3_1).toNat * 5)).block,(ad376.add ((x3_1).toNat * 5)).off + 3,none⟩ = some (.int .i64 ((rd_T38 l0 x3_1).f2.f1)) ∧ w'.cell? ⟨(ad376.add ((x3_1).toNat * 5)).block,(ad376.add ((x3_1).toNat * 5)).off + 4,none⟩ = some (.int .i64 ((rd_T38 l0 x3_1).f3))) (ds:=[]) b23_0 Q2 rfl rfl ⟨(cb_ HB hw376_0:),(cb_ HB hw376_1:),(cb_ HB hw376_2:),(cb_ HB hw376_3:),(cb_ HB hw376_4:)⟩ (fun hHeld=>?_);refine with_tabW spec_BatchOk.tab6 spec_BatchOk.bits6 (fun HT_ HW_=>?_)
        generalize wr.drew = w19 at HB hx376_0 hx376_1 hx376_2 hx376_3 hx376_4 hHeld ⊢
        refine pU_ 0 13 b23_1 ?_
        refine pU_ 1 14 b23_2 ?_
        refine pU_ 2 15 b23_3 ?_
        refine pU_ 3 16 b23_4 ?_
        refine tU_ 4 17 b23_5 hHeld ?_
        refine pU_ 5 18 b23_6 ?_
        refine pU_ 6 19 b23_7 ?_
        refine pU_ 7 20 b23_8 ?_
        refine pU_ 8 21 b23_9 ?_
        refine pU_ 9 22 b23_10 ?_
        refine pV_ 10 23 b23_11 ?_
        refine pV_ 11 24 b23_12 ?_
        refine pV_ 12 25 b23_13 ?_
        refine pV_ 13 26 b23_14 ?_
        refine pV_ 14 27 b23_15 ?_
        refine pV_ 15 28 b23_16 ?_
        refine pV_ 16 29 b23_17 ?_
        refine pV_ 17 30 b23_18 ?_
        refine pV_ 18 31 b23_19 ?_
        refine pV_ 19 32 b23_20 ?_
        refine pV_ 20 33 b23_21 ?_
        refine pU_ 21 34 b23_22 ?_
        refine pU_ 22 35 b23_23 ?_
        refine done_ (done_of HT_.out Q2) ?_
        try go_wp2
        go_roundg k1
        case measure=>have:=HK1.out;omega
        case rel=>exact ⟨(wrap64 (x3_1 + 1)),Q7,H',⟨Q4⟩,⟨Q46⟩⟩
     ·rw [if_neg c6] at H
      exact absurd H Q0
    ·rw [if_neg c5] at H
     have c5b0 : decide (x3_1 < (l0.length : Int)) = false:=decide_eq_false c5
     clear c5
     obtain rfl:=Option.some.inj H
     go_wp2
     go_ret
     exact ⟨Q11,Q46⟩
 ·replace c3:=Bool.eq_false_iff.mpr c3
  subst c3
  have H1 : (some false) = some r:=by rw [if_neg (show ¬ (false = true) by decide)] at H;exact H
  clear H
  have H:=H1
  clear H1
  obtain rfl:=Option.some.inj H
  go_enter Try.func31,Try.ntmps31
  go_wp2_with (first|((with_reducible refine gate_callee (f:=20) rfl ?_);refine goesL_ (some 5) rfl rfl Try.func20 Q2 rfl #[.slice A0 l0.length c0] rfl Q50 ?_;(with_reducible refine (spec_RowsOk.calls k _ _ l0 false _ ?side1 ?side2 A2.out).mono ?_);(case side1=>exact Q55);(case side2=>exact HC0.out);rintro e w20 ⟨rfl,hb⟩;refine ⟨_,rfl,?_⟩;have n0_:=Aside0.mk (below_step Q46 hb);clear HB;have HB:=n0_;clear n0_;(try clear hb);(try clear hb2);(try clear hk);(try clear hi)))
  go_ret
  exact ⟨Q11,Q46⟩
def spec_l2Fit.f (k : Nat) (l0 : List (S38)) : Option ((List (S38))) := (spec_BatchOk.f k l0).bind fun t380 => (if t380 = true then (some l0) else (some (([] : List (S38)))))
theorem spec_l2Fit.mono : ∀ a0 k,LeO (spec_l2Fit.f k a0) (spec_l2Fit.f (k + 1) a0):=by
 intro a0 k
 unfold spec_l2Fit.f
 repeat' first
   | (with_reducible exact spec_BatchOk.mono _ _)
   | (with_reducible exact LeO.refl _)
   | (with_reducible exact LeO.none _)
   | (with_reducible refine LeO.ite ?_ ?_)
   | (with_reducible refine LeO.bind ?_ (fun _=>?_))
   | exact spec_BatchOk.mono _ _
   | exact LeO.none _
   | refine LeO.ite ?_ ?_
   | refine LeO.bind ?_ (fun _=>?_)
end Go.Proofs.Ytjlkffmdmifahaa.PFnBatchOf
