/- Functions that the law comes to: each as a plain Lean function, with the contract of the Go function. -/
import Derived.Test.YtjlkffmdmifahaaVFnBatchOfw
import Derived.Test.YtjlkffmdmifahaaVFnBatchOfp0
import Derived.Test.YtjlkffmdmifahaaVFnBatchOfp2
import Derived.Test.YtjlkffmdmifahaaVFnBatchOfp3
namespace Go.Proofs.Ytjlkffmdmifahaa.PFnBatchOf
open Go.RowKit Go.Proofs.YtjlkffmdmifahaaW.PrintWords Go.Proofs.YtjlkffmdmifahaaW.PrintLast Go.Proofs.YtjlkffmdmifahaaW.PrintMore
attribute [local go_sem] max2_int min2_int max_two min_two max_three min_three max_four min_four
set_option linter.unusedVariables false
set_option linter.unusedSimpArgs false
attribute [local go_sem high] eqA38 eqA83
set_option maxHeartbeats 8000000 in
set_option maxRecDepth 100000 in
theorem spec_l2Fit.calls (k : Nat) (P0_ : Nat → Prop) (u9000_ : Value) (l0 : List (S38)) (r : List (S38)) (w0 w : World) (hB : Below w0.heap.size w0 w) (ho0 : Kd.R k38 38 w w0.heap.size P0_ u9000_ l0) (h : spec_l2Fit.f k l0 = some r) :
  Calls Try.prog 57 #[u9000_] w fun e w'=>∃ v0_ : Value,e = .returned (v0_) ∧ Kd.R k38 38 w' w0.heap.size (fun k_=>(P0_ k_ ∨ w.heap.size ≤ k_)) v0_ r ∧ Below w0.heap.size w0 w' ∧ Kept w w' (fun k_=>P0_ k_):=by
 have HO0:=Aside0.mk (show Kd.R k38 38 w w0.heap.size (fun k_=>(P0_ k_ ∨ w.heap.size ≤ k_)) u9000_ l0 from Kd.R_mono ho0 (fun k_ hk=>(.inl hk)))
 have HK:=Aside0.mk (Kept.refl w (fun k_=>P0_ k_))
 have HW0:=Aside0.mk hB.size
 have HB:=Aside0.mk hB
 clear hB
 have H : ((spec_BatchOk.f k l0).bind fun t380=>(if t380 = true then (some l0) else (some (([] : List (S38)))))) = some r:=h
 clear h
 replace H:=Option.bind_eq_some_iff.mp H
 obtain ⟨t380,A20,H⟩:=H
 replace H : (if t380 = true then (some l0) else (some (([] : List (S38))))) = some r:=H
 have A2:=Aside0.mk A20
 clear A20
 by_cases c3 : t380 = true
 ·subst c3
  have H1 : (some l0) = some r:=by rw [if_pos rfl] at H;exact H
  clear H
  have H:=H1
  clear H1
  obtain rfl:=Option.some.inj H
  obtain ⟨Ao4,co4,eo4⟩:=Kd.R_slice HO0.out
  subst eo4
  go_enter Try.func57,Try.ntmps57
  go_wp2_with (first|((with_reducible refine gate_callee (f:=31) rfl ?_);refine goesL_ (some 4) rfl rfl Try.func31 Q2 rfl #[.slice Ao4 l0.length co4] rfl Q50 ?_;(with_reducible refine (spec_BatchOk.calls k _ _ l0 true _ ?side1 ?side2 A2.out).mono ?_);(case side1=>exact (by repeat (first|exact (Kd.R_reads' HO0.out).2.2|(with_reducible refine Kd.C_alloc ?_ _)|(with_reducible refine Kd.C_drewN ?_ _)|(with_reducible refine Kd.C_drew ?_))));(case side2=>exact (Kd.R_reads' HO0.out).2.1);rintro e w5 ⟨rfl,hb⟩;refine ⟨_,rfl,?_⟩;have n0_:=Aside0.mk (Kd.R_below Q12 hb);have n1_:=Aside0.mk (Kept.below (S:=(fun k_=>P0_ k_)) Q45 hb);have n2_:=Aside0.mk (below_step Q46 hb);clear HO0;clear HK;clear HB;have HO0:=n0_;have HK:=n1_;have HB:=n2_;clear n0_ n1_ n2_;(try clear hb);(try clear hb2);(try clear hk);(try clear hi)))
  go_ret
  exact ⟨_,Q11,Q12,Q46,Q45⟩
 ·replace c3:=Bool.eq_false_iff.mpr c3
  subst c3
  have H1 : (some (([] : List (S38)))) = some r:=by rw [if_neg (show ¬ (false = true) by decide)] at H;exact H
  clear H
  have H:=H1
  clear H1
  obtain ⟨y381,hy_⟩ : ∃ y_ : List (S38),y_ = (([] : List (S38))):=⟨_,rfl⟩
  replace H : (some y381) = some r:=Q98
  have Ny381:=Aside0.mk hy_
  clear hy_
  obtain rfl:=Option.some.inj H
  obtain ⟨Ao6,co6,eo6⟩:=Kd.R_slice HO0.out
  subst eo6
  go_enter Try.func57,Try.ntmps57
  go_wp2_with (first|((with_reducible refine gate_callee (f:=31) rfl ?_);refine goesL_ (some 4) rfl rfl Try.func31 Q2 rfl #[.slice Ao6 l0.length co6] rfl Q50 ?_;(with_reducible refine (spec_BatchOk.calls k _ _ l0 false _ ?side1 ?side2 A2.out).mono ?_);(case side1=>exact (by repeat (first|exact (Kd.R_reads' HO0.out).2.2|(with_reducible refine Kd.C_alloc ?_ _)|(with_reducible refine Kd.C_drewN ?_ _)|(with_reducible refine Kd.C_drew ?_))));(case side2=>exact (Kd.R_reads' HO0.out).2.1);rintro e w7 ⟨rfl,hb⟩;refine ⟨_,rfl,?_⟩;have n0_:=Aside0.mk (Kd.R_below Q12 hb);have n1_:=Aside0.mk (Kept.below (S:=(fun k_=>P0_ k_)) Q45 hb);have n2_:=Aside0.mk (below_step Q46 hb);clear HO0;clear HK;clear HB;have HO0:=n0_;have HK:=n1_;have HB:=n2_;clear n0_ n1_ n2_;(try clear hb);(try clear hb2);(try clear hk);(try clear hi))|((with_reducible refine gate_dst (N:=6) rfl ?_);refine Kd.R_lit k38 _ 38 ?hg (N:=6) ?hd (xs:=([] : List (S38))) (inner:=[]) (ok:=fun _=>True) (okp:=fun _=>True) ?hr ?hp (fun _ hk=>hk) trivial (Below.refl _ _) (Nat.le_refl _) Q0 ?_;(case hd=>rfl);(case hg=>rfl);(case hr=>first|(go_simp;done)|(go_simp;rfl));(case hp=>exact (Reps.none _ _));intro v382 w8 ho9 hb hg_ hnew_;clear hg_ hnew_;(first|rw [← Ny381.out] at ho9|(simp only [Int.reduceToNat] at ho9;rw [← Ny381.out] at ho9));have n0_:=Aside0.mk (Kd.R_elder' Q12 (Kd.R_base ho9) hb);have n1_:=Aside0.mk (Kd.R_lower (Kd.R_new' (Kd.R_newM (M:=fun k_=>(P0_ k_ ∨ w.heap.size ≤ k_)) ho9 (by first|exact HK.out.1|exact (show Kept w _ (fun k_=>P0_ k_) from by repeat (first|(with_reducible first|exact HK.out|apply Kept.alloc|apply Kept.drewN|apply Kept.drew)|exact HK.out)).1) (fun k_ h_=>.inr h_)) (Kd.R_lt Q12)) (below_size Q46));have n2_:=Aside0.mk (Kept.below (S:=(fun k_=>P0_ k_)) Q45 hb);have n3_:=Aside0.mk (below_step Q46 hb);clear HO0;clear HK;clear HB;have HO0:=n0_;have HO383:=n1_;have HK:=n2_;have HB:=n3_;clear n0_ n1_ n2_ n3_;clear hb ho9))
  go_ret
  exact ⟨_,Q11,by (with_reducible repeat (first|apply Kd.R_alloc|apply Kd.R_drewN|apply Kd.R_drew));exact Kd.R_mono HO383.out (fun _ hk=>hk.1.1),Q46,Q45⟩
mutual
def spec_l2Put.l0 : Nat → List (S38) → List (S38) → Bool → Int → Int → Int → Int → Int → Int → Option ((List (S38)))
 | 0, _, _, _, _, _, _, _, _, _ => none
 | k + 1, x0, x5, x6, x7, x385000, x385001, x385002, x385003, x385004 => if x7 < (x0.length : Int) then (if 0 ≤ x7 then ((spec_l2Comp.f k ((rd_T38 x0 x7).f0) ((rd_T38 x0 x7).f1) ((rd_T38 x0 x7).f2.f0) ((rd_T38 x0 x7).f2.f1) ((rd_T38 x0 x7).f3) x385000 x385001 x385002 x385003 x385004).bind fun t392 => (if x6 = true then (spec_l2Put.j1 k x0 x5 x6 x7 t392 false x385000 x385001 x385002 x385003 x385004) else (spec_l2Put.j1 k x0 x5 x6 x7 t392 (decide (t392 > 0)) x385000 x385001 x385002 x385003 x385004))) else (none)) else (if x6 = true then (some x5) else (if x5.length < 3518437208883 then (some (x5 ++ [(⟨x385000, x385001, (⟨x385002, x385003⟩ : S36), x385004⟩ : S38)])) else (none)))
def spec_l2Put.j1 : Nat → List (S38) → List (S38) → Bool → Int → Int → Bool → Int → Int → Int → Int → Int → Option ((List (S38)))
 | 0, _, _, _, _, _, _, _, _, _, _, _ => none
 | k + 1, x0, x5, x6, x7, x8, x27, x385000, x385001, x385002, x385003, x385004 => if x27 = true then (if x5.length < 3518437208883 then ((some (x5 ++ [(⟨x385000, x385001, (⟨x385002, x385003⟩ : S36), x385004⟩ : S38)] : List (S38))).bind fun y393 => (if 0 ≤ x7 then (if x7 < (x0.length : Int) then (if y393.length < 3518437208883 then (spec_l2Put.l0 k x0 (y393 ++ [(⟨(rd_T38 x0 x7).f0, (rd_T38 x0 x7).f1, (⟨(rd_T38 x0 x7).f2.f0, (rd_T38 x0 x7).f2.f1⟩ : S36), (rd_T38 x0 x7).f3⟩ : S38)]) true (wrap64 (x7 + 1)) x385000 x385001 x385002 x385003 x385004) else (none)) else (none)) else (none))) else (none)) else (if x6 = true then (if 0 ≤ x7 then (if x7 < (x0.length : Int) then (if x5.length < 3518437208883 then (spec_l2Put.l0 k x0 (x5 ++ [(⟨(rd_T38 x0 x7).f0, (rd_T38 x0 x7).f1, (⟨(rd_T38 x0 x7).f2.f0, (rd_T38 x0 x7).f2.f1⟩ : S36), (rd_T38 x0 x7).f3⟩ : S38)]) x6 (wrap64 (x7 + 1)) x385000 x385001 x385002 x385003 x385004) else (none)) else (none)) else (none)) else (if x8 = 0 then (if 0 ≤ x7 then (if x7 < (x0.length : Int) then (if x5.length < 3518437208883 then (spec_l2Put.l0 k x0 (x5 ++ [(⟨x385000, x385001, (⟨x385002, x385003⟩ : S36), wrap64 (x385004 + ((rd_T38 x0 x7).f3))⟩ : S38)]) true (wrap64 (x7 + 1)) x385000 x385001 x385002 x385003 (wrap64 (x385004 + ((rd_T38 x0 x7).f3)))) else (none)) else (none)) else (none)) else (if 0 ≤ x7 then (if x7 < (x0.length : Int) then (if x5.length < 3518437208883 then (spec_l2Put.l0 k x0 (x5 ++ [(⟨(rd_T38 x0 x7).f0, (rd_T38 x0 x7).f1, (⟨(rd_T38 x0 x7).f2.f0, (rd_T38 x0 x7).f2.f1⟩ : S36), (rd_T38 x0 x7).f3⟩ : S38)]) x6 (wrap64 (x7 + 1)) x385000 x385001 x385002 x385003 x385004) else (none)) else (none)) else (none))))
end
def spec_l2Put.f (k : Nat) (l0 : List (S38)) (a1_0 : Int) (a1_1 : Int) (a1_2 : Int) (a1_3 : Int) (a1_4 : Int) : Option ((List (S38))) := spec_l2Put.l0 k l0 (([] : List (S38))) false 0 a1_0 a1_1 a1_2 a1_3 a1_4
theorem spec_l2Put.mono_l : ∀ k,(∀ y0 y1 y2 y3 y4 y5 y6 y7 y8,LeO (spec_l2Put.l0 k y0 y1 y2 y3 y4 y5 y6 y7 y8) (spec_l2Put.l0 (k + 1) y0 y1 y2 y3 y4 y5 y6 y7 y8)) ∧ (∀ y0 y1 y2 y3 y4 y5 y6 y7 y8 y9 y10,LeO (spec_l2Put.j1 k y0 y1 y2 y3 y4 y5 y6 y7 y8 y9 y10) (spec_l2Put.j1 (k + 1) y0 y1 y2 y3 y4 y5 y6 y7 y8 y9 y10))
 | 0=>⟨fun _ _ _ _ _ _ _ _ _ r h=>by simp [spec_l2Put.l0] at h,fun _ _ _ _ _ _ _ _ _ _ _ r h=>by simp [spec_l2Put.j1] at h⟩
 | k + 1=>by
  obtain ⟨ih0,ih1⟩:=spec_l2Put.mono_l k
  refine ⟨?_,?_⟩
  ·intro y0 y1 y2 y3 y4 y5 y6 y7 y8
   unfold spec_l2Put.l0
   repeat' first
   | (with_reducible exact ih0 _ _ _ _ _ _ _ _ _)
   | (with_reducible exact ih1 _ _ _ _ _ _ _ _ _ _ _)
   | (with_reducible exact spec_l2Comp.mono _ _ _ _ _ _ _ _ _ _ _)
   | (with_reducible exact LeO.refl _)
   | (with_reducible exact LeO.none _)
   | (with_reducible refine LeO.ite ?_ ?_)
   | (with_reducible refine LeO.bind ?_ (fun _=>?_))
   | exact ih0 _ _ _ _ _ _ _ _ _
   | exact ih1 _ _ _ _ _ _ _ _ _ _ _
   | exact spec_l2Comp.mono _ _ _ _ _ _ _ _ _ _ _
   | exact LeO.none _
   | refine LeO.ite ?_ ?_
   | refine LeO.bind ?_ (fun _=>?_)
  ·intro y0 y1 y2 y3 y4 y5 y6 y7 y8 y9 y10
   unfold spec_l2Put.j1
   repeat' first
   | (with_reducible exact ih0 _ _ _ _ _ _ _ _ _)
   | (with_reducible exact ih1 _ _ _ _ _ _ _ _ _ _ _)
   | (with_reducible exact spec_l2Comp.mono _ _ _ _ _ _ _ _ _ _ _)
   | (with_reducible exact LeO.refl _)
   | (with_reducible exact LeO.none _)
   | (with_reducible refine LeO.ite ?_ ?_)
   | (with_reducible refine LeO.bind ?_ (fun _=>?_))
   | exact ih0 _ _ _ _ _ _ _ _ _
   | exact ih1 _ _ _ _ _ _ _ _ _ _ _
   | exact spec_l2Comp.mono _ _ _ _ _ _ _ _ _ _ _
   | exact LeO.none _
   | refine LeO.ite ?_ ?_
   | refine LeO.bind ?_ (fun _=>?_)
theorem spec_l2Put.mono : ∀ a0 a1 a2 a3 a4 a5 k,LeO (spec_l2Put.f k a0 a1 a2 a3 a4 a5) (spec_l2Put.f (k + 1) a0 a1 a2 a3 a4 a5):=by
 intro a0 a1 a2 a3 a4 a5 k
 obtain ⟨ih0,ih1⟩:=spec_l2Put.mono_l k
 unfold spec_l2Put.f
 repeat' first
   | (with_reducible exact ih0 _ _ _ _ _ _ _ _ _)
   | (with_reducible exact ih1 _ _ _ _ _ _ _ _ _ _ _)
   | (with_reducible exact spec_l2Comp.mono _ _ _ _ _ _ _ _ _ _ _)
   | (with_reducible exact LeO.refl _)
   | (with_reducible exact LeO.none _)
   | (with_reducible refine LeO.ite ?_ ?_)
   | (with_reducible refine LeO.bind ?_ (fun _=>?_))
   | exact ih0 _ _ _ _ _ _ _ _ _
   | exact ih1 _ _ _ _ _ _ _ _ _ _ _
   | exact spec_l2Comp.mono _ _ _ _ _ _ _ _ _ _ _
   | exact LeO.none _
   | refine LeO.ite ?_ ?_
   | refine LeO.bind ?_ (fun _=>?_)
def spec_l2Put.T11 : Bool × List (List Nat × List Nat) := (true, [([], []), ([0], [0]), ([], []), ([], []), ([2, 3], [2, 3]), ([4], [4]), ([5], [5]), ([1, 6], [1, 6]), ([0, 1, 2, 3, 4, 5, 6, 7], []), ([8, 7, 0, 1, 2, 3, 4, 5, 6, 7], [7, 8])])
def spec_l2Put.B11 : List Nat := [0, 1, 0, 0, 12, 28, 60, 127, 255, 511]
theorem spec_l2Put.tab11 : rtab .any (opsOf Try.f88 11) = spec_l2Put.T11:=by kernel_rfl
theorem spec_l2Put.bits11 : waitsOk spec_l2Put.T11.2 spec_l2Put.B11 = true:=by kernel_rfl
set_option maxHeartbeats 8000000 in
set_option maxRecDepth 100000 in
theorem spec_l2Put.calls (k : Nat) (A0 : Option Addr) (c0 : Nat) (l0 : List (S38)) (a1_0 : Int) (a1_1 : Int) (a1_2 : Int) (a1_3 : Int) (a1_4 : Int) (r : List (S38)) (w : World) (hr0 : Kd.C k38 w A0 l0.length l0) (hc0 : l0.length ≤ c0) (h : spec_l2Put.f k l0 a1_0 a1_1 a1_2 a1_3 a1_4 = some r) :
  Calls Try.prog 88 #[.slice A0 l0.length c0,.agg #[.int .i64 a1_0,.int .i64 a1_1,.int .i64 a1_2,.int .i64 a1_3,.int .i64 a1_4]] w fun e w'=>∃ v0_ : Value,e = .returned (v0_) ∧ Kd.R k38 38 w' w.heap.size (fun _=>True) v0_ r ∧ Below w.heap.size w w':=by
 have hu38:=Try.underlying38
 have HR0:=Aside0.mk hr0
 have HC0:=Aside0.mk hc0
 clear hr0 hc0
 have HB:=Aside0.mk (Below.refl w.heap.size w)
 have H : (spec_l2Put.l0 k l0 (([] : List (S38))) false 0 a1_0 a1_1 a1_2 a1_3 a1_4) = some r:=h
 clear h
 obtain ⟨y385,hy_⟩ : ∃ y_ : List (S38),y_ = (([] : List (S38))):=⟨_,rfl⟩
 replace H : (spec_l2Put.l0 k l0 y385 false 0 a1_0 a1_1 a1_2 a1_3 a1_4) = some r:=Q98
 have Ny385:=Aside0.mk hy_
 clear hy_
 have H':=Aside0.mk H
 clear H
 go_enter Try.func88,Try.ntmps88
 go_wp2_with (first|((with_reducible refine gate_dst (N:=3) rfl ?_);refine box_event ?hg (N:=3) ?hd (cs:=#[.int .i64 a1_0,.int .i64 a1_1,.int .i64 a1_2,.int .i64 a1_3,.int .i64 a1_4]) (t:=38) ?hr ?_;(case hd=>rfl);(case hg=>rfl);(case hr=>first|(go_simp;done)|(go_simp;rfl));intro gb384 hg w3 hbox hb;have n0_:=Aside0.mk (below_step Q46 hb);have n1_:=Aside0.mk (hbox);have n2_:=Aside0.mk ((Q106 : w.heap.size ≤ gb384));have n3_:=n2_;clear HB;have HB:=n0_;have BK384:=n1_;have GW384:=n2_;have GE384:=n3_;clear n0_ n1_ n2_ n3_;clear hb hbox hg)|((with_reducible refine gate_dst (N:=9) rfl ?_);refine Kd.R_lit k38 _ 38 ?hg (N:=9) ?hd (xs:=([] : List (S38))) (inner:=[]) (ok:=fun _=>True) (okp:=fun _=>True) ?hr ?hp (fun _ hk=>hk) trivial (Below.refl _ _) (Nat.le_refl _) Q0 ?_;(case hd=>rfl);(case hg=>rfl);(case hr=>first|(go_simp;done)|(go_simp;rfl));(case hp=>exact (Reps.none _ _));intro v386 w4 ho5 hb hg_ hnew_;clear hg_ hnew_;(first|rw [← Ny385.out] at ho5|(simp only [Int.reduceToNat] at ho5;rw [← Ny385.out] at ho5));have n0_:=Aside0.mk (Kd.R_lower (Kd.R_newB ho5 (g:=gb384) (o:=.cells #[.int .i64 a1_0,.int .i64 a1_1,.int .i64 a1_2,.int .i64 a1_3,.int .i64 a1_4] 38 (0,0)) Q43) (below_size Q69));have n1_:=Aside0.mk (blk_below (g:=gb384) (o:=.cells #[.int .i64 a1_0,.int .i64 a1_1,.int .i64 a1_2,.int .i64 a1_3,.int .i64 a1_4] 38 (0,0)) Q43 hb);have n2_:=Aside0.mk (below_step Q69 hb);clear BK384;clear HB;have HO387:=n0_;have BK384:=n1_;have HB:=n2_;clear n0_ n1_ n2_;clear hb ho5))
 go_loopg [5,6,7] k (fun kq v5 v6 v7 w'=>∃ (x5_1 : List (S38)) (x6_1 : Bool) (x7_1 : Int) (x385004_1 : Int),v6 = .bool x6_1 ∧ v7 = .int .i64 x7_1 ∧ Aside0 (spec_l2Put.l0 kq l0 x5_1 x6_1 x7_1 a1_0 a1_1 a1_2 a1_3 x385004_1 = some r) ∧ Aside0 (kq ≤ k) ∧ Aside0 (Kd.R k38 38 w' w.heap.size (fun k_=>k_ ≠ gb384) v5 x5_1) ∧ Aside0 (w'.heap[gb384]? = some (.cells #[.int .i64 a1_0,.int .i64 a1_1,.int .i64 a1_2,.int .i64 a1_3,.int .i64 x385004_1] 38 (0,0))) ∧ Aside0 (Below w.heap.size w w'))
 case atStart=>exact ⟨(y385),(false),(0),(a1_4),Q7,Q7,H',⟨Nat.le_refl _⟩,⟨by (with_reducible repeat (first|apply Kd.R_alloc|apply Kd.R_drewN|apply Kd.R_drew));exact Kd.R_mono HO387.out (fun _ hk=>hk.2)⟩,⟨Q43⟩,⟨Q69⟩⟩
 case round =>
  clear H'
  try clear p2
  obtain ⟨x5_1,x6_1,x7_1,x385004_1,rfl,rfl,HA,HK1,HO_5,BK384,HB⟩:=hrel
  cases gk with
  | zero=>exact absurd HA.out (by simp [spec_l2Put.l0])
  | succ k1 =>
   have H:=HA.out
   clear HA
   simp only [spec_l2Put.l0] at H
   by_cases c6 : x7_1 < (l0.length : Int)
   ·rw [if_pos c6] at H
    have c6b0 : decide (x7_1 < (l0.length : Int)) = true:=decide_eq_true c6
    clear c6
    by_cases c7 : 0 ≤ x7_1
    ·rw [if_pos c7] at H
     have c7b0 : decide (0 ≤ x7_1) = true:=decide_eq_true c7
     clear c7
     replace H:=Option.bind_eq_some_iff.mp H
     obtain ⟨t392,A80,H⟩:=H
     replace H : (if x6_1 = true then (spec_l2Put.j1 k1 l0 x5_1 x6_1 x7_1 t392 false a1_0 a1_1 a1_2 a1_3 x385004_1) else (spec_l2Put.j1 k1 l0 x5_1 x6_1 x7_1 t392 (decide (t392 > 0)) a1_0 a1_1 a1_2 a1_3 x385004_1)) = some r:=H
     have A8:=Aside0.mk A80
     clear A80
     have HC9:=Aside0.mk H
     clear H
     try go_wp2
     have n0_:=Aside0.mk (Kd.R_drew HO_5.out)
     have n1_:=Aside0.mk (blk_drew BK384.out)
     have n2_:=Aside0.mk (below_drew1 HB.out)
     clear HO_5
     clear BK384
     clear HB
     have HO_5:=n0_
     have BK384:=n1_
     have HB:=n2_
     clear n0_ n1_ n2_
     have p391 : 0 ≤ (x7_1 : Int):=of_decide_eq_true Q8
     have q391 : x7_1 < (l0.length : Int):=of_decide_eq_true Q8
     obtain ⟨ad391,e391,hx391_0,hx391_1,hx391_2,hx391_3,hx391_4⟩:=at_T38 HR0.out x7_1 p391 q391
     have hw391_4:=hx391_4
     have hw391_3:=hx391_3
     have hw391_2:=hx391_2
     have hw391_1:=hx391_1
     have hw391_0:=hx391_0
     cases e391
     replace hx391_0:=cb_ HB hx391_0
     replace hx391_1:=cb_ HB hx391_1
     replace hx391_2:=cb_ HB hx391_2
     replace hx391_3:=cb_ HB hx391_3
     replace hx391_4:=cb_ HB hx391_4
     replace p391:=eq_true p391
     replace q391:=eq_true q391
     refine start_ (n:=7) (S:=fun w'=>w'.cell? ⟨gb384,0,none⟩ = some (.int .i64 a1_0) ∧ w'.cell? ⟨gb384,1,none⟩ = some (.int .i64 a1_1) ∧ w'.cell? ⟨gb384,2,none⟩ = some (.int .i64 a1_2) ∧ w'.cell? ⟨gb384,3,none⟩ = some (.int .i64 a1_3) ∧ w'.cell? ⟨gb384,4,none⟩ = some (.int .i64 x385004_1) ∧ w'.cell? (ad391.add ((x7_1).toNat * 5)) = some (.int .i64 ((rd_T38 l0 x7_1).f0)) ∧ w'.cell? ⟨(ad391.add ((x7_1).toNat * 5)).block,(ad391.add ((x7_1).toNat * 5)).off + 1,none⟩ = some (.int .i64 ((rd_T38 l0 x7_1).f1)) ∧ w'.cell? ⟨(ad391.add ((x7_1).toNat * 5)).block,(ad391.add ((x7_1).toNat * 5)).off + 2,none⟩ = some (.int .i64 ((rd_T38 l0 x7_1).f2.f0)) ∧ w'.cell? ⟨(ad391.add ((x7_1).toNat * 5)).block,(ad391.add ((x7_1).toNat * 5)).off + 3,none⟩ = some (.int .i64 ((rd_T38 l0 x7_1).f2.f1)) ∧ w'.cell? ⟨(ad391.add ((x7_1).toNat * 5)).block,(ad391.add ((x7_1).toNat * 5)).off + 4,none⟩ = some (.int .i64 ((rd_T38 l0 x7_1).f3))) (ds:=[]) b7_0 Q2 rfl rfl ⟨(blk_cell BK384.out 0).trans rfl,(blk_cell BK384.out 1).trans rfl,(blk_cell BK384.out 2).trans rfl,(blk_cell BK384.out 3).trans rfl,(blk_cell BK384.out 4).trans rfl,(cb_ HB hw391_0:),(cb_ HB hw391_1:),(cb_ HB hw391_2:),(cb_ HB hw391_3:),(cb_ HB hw391_4:)⟩ (fun hHeld=>?_)
     generalize wr.drew = w10 at HO_5 BK384 HB hx391_0 hx391_1 hx391_2 hx391_3 hx391_4 hHeld ⊢
     refine pU_ 0 16 b7_1 ?_
     refine pU_ 1 17 b7_2 ?_
     refine pU_ 2 18 b7_3 ?_
     refine tU_ 3 19 b7_4 hHeld ?_
     refine tU_ 4 20 b7_5 hHeld ?_
     refine one_ (i:=5) (N:=some 21) b7_6 rfl rfl Q2 Q1 (fun K hK=>?_)
     refine goes_ Try.func71 Q2 rfl #[.agg #[.int .i64 ((rd_T38 l0 x7_1).f0),.int .i64 ((rd_T38 l0 x7_1).f1),.int .i64 ((rd_T38 l0 x7_1).f2.f0),.int .i64 ((rd_T38 l0 x7_1).f2.f1),.int .i64 ((rd_T38 l0 x7_1).f3)],.agg #[.int .i64 a1_0,.int .i64 a1_1,.int .i64 a1_2,.int .i64 a1_3,.int .i64 x385004_1]] (by rfl) rfl rfl Q50 ?_
     with_reducible refine (spec_l2Comp.calls k1 ((rd_T38 l0 x7_1).f0) ((rd_T38 l0 x7_1).f1) ((rd_T38 l0 x7_1).f2.f0) ((rd_T38 l0 x7_1).f2.f1) ((rd_T38 l0 x7_1).f3) a1_0 a1_1 a1_2 a1_3 x385004_1 t392 _ A8.out).mono ?_
     rintro e w11 ⟨rfl,hb⟩
     refine ⟨_,rfl,?_⟩
     have n0_:=Aside0.mk (Kd.R_below Q13 hb)
     have n1_:=Aside0.mk (blk_below (g:=gb384) (o:=.cells #[.int .i64 a1_0,.int .i64 a1_1,.int .i64 a1_2,.int .i64 a1_3,.int .i64 x385004_1] 38 (0,0)) Q43 hb)
     have n2_:=Aside0.mk (below_step Q69 hb)
     clear HO_5
     clear BK384
     clear HB
     have HO_5:=n0_
     have BK384:=n1_
     have HB:=n2_
     clear n0_ n1_ n2_
     (try clear hb)
     (try clear hb2)
     (try clear hk)
     (try clear hi)
     refine hK.out _ _ ⟨(blk_cell BK384.out 0).trans rfl,(blk_cell BK384.out 1).trans rfl,(blk_cell BK384.out 2).trans rfl,(blk_cell BK384.out 3).trans rfl,(blk_cell BK384.out 4).trans rfl,(cb_ HB hw391_0:),(cb_ HB hw391_1:),(cb_ HB hw391_2:),(cb_ HB hw391_3:),(cb_ HB hw391_4:)⟩ (fun hHeld=>?_)
     clear hK K
     refine norm_ (a':=?_) ?_ ?_
     rotate_left
     ·show Act.put _ (some 21) _ = _
      simp only [Act.put,sA_,sZ_,sS_,i64_w,i32_w]
      rfl
     refine pU_ 6 8 b7_7 ?_
     refine done_ Q2 ?_
     go_upto_region 7 with (fail)
     go_cut [27] (fun v27 wc=>∃ (kq : Nat) (x27_8 : Bool),v27 = .bool x27_8 ∧ Aside0 (spec_l2Put.j1 kq l0 x5_1 x6_1 x7_1 t392 x27_8 a1_0 a1_1 a1_2 a1_3 x385004_1 = some r) ∧ Aside0 (kq ≤ k1) ∧ Aside0 (Kd.R k38 38 wc w.heap.size (fun k_=>k_ ≠ gb384) u5 x5_1) ∧ Aside0 (wc.heap[gb384]? = some (.cells #[.int .i64 a1_0,.int .i64 a1_1,.int .i64 a1_2,.int .i64 a1_3,.int .i64 x385004_1] 38 (0,0))) ∧ Aside0 (Below w.heap.size w wc))
     case first =>
      have H:=HC9.out
      clear HC9
      by_cases c12 : x6_1 = true
      ·subst c12
       have H1 : (spec_l2Put.j1 k1 l0 x5_1 true x7_1 t392 false a1_0 a1_1 a1_2 a1_3 x385004_1) = some r:=by rw [if_pos rfl] at H;exact H
       clear H
       have H:=H1
       clear H1
       have H':=Aside0.mk H
       clear H
       go_wp2
       go_meet
       case rel=>exact ⟨_,(false),Q7,H',⟨Q9⟩,⟨Q13⟩,⟨Q43⟩,⟨Q69⟩⟩
      ·replace c12:=Bool.eq_false_iff.mpr c12
       subst c12
       have H1 : (spec_l2Put.j1 k1 l0 x5_1 false x7_1 t392 (decide (t392 > 0)) a1_0 a1_1 a1_2 a1_3 x385004_1) = some r:=by rw [if_neg (show ¬ (false = true) by decide)] at H;exact H
       clear H
       have H:=H1
       clear H1
       have H':=Aside0.mk H
       clear H
       go_wp2
       go_meet
       case rel=>exact ⟨_,(decide (t392 > 0)),Q7,H',⟨Q9⟩,⟨Q13⟩,⟨Q43⟩,⟨Q69⟩⟩
     case rest =>
      clear HC9
      try clear c1
      try clear p2
      try clear p3
      try clear q3
      try clear hx3
      try clear c6
      try clear c6b0
      try clear c7
      try clear c7b0
      try clear c8
      try clear c12
      try clear hx391_0
      try clear hx391_1
      try clear hx391_2
      try clear hx391_3
      try clear hx391_4
      try clear p2
      try clear p391
      try clear q391
      obtain ⟨kq,x27_8,rfl,HA,HJ8,HO_5,BK384,HB⟩:=hcut
      cases kq with
      | zero=>exact absurd HA.out (by simp [spec_l2Put.j1])
      | succ kj8 =>
       have H:=HA.out
       clear HA
       simp only [spec_l2Put.j1] at H
       by_cases c13 : x27_8 = true
       ·subst c13
        have H1 : (if x5_1.length < 3518437208883 then ((some (x5_1 ++ [(⟨a1_0,a1_1,(⟨a1_2,a1_3⟩ : S36),x385004_1⟩ : S38)] : List (S38))).bind fun y393=>(if 0 ≤ x7_1 then (if x7_1 < (l0.length : Int) then (if y393.length < 3518437208883 then (spec_l2Put.l0 kj8 l0 (y393 ++ [(⟨(rd_T38 l0 x7_1).f0,(rd_T38 l0 x7_1).f1,(⟨(rd_T38 l0 x7_1).f2.f0,(rd_T38 l0 x7_1).f2.f1⟩ : S36),(rd_T38 l0 x7_1).f3⟩ : S38)]) true (wrap64 (x7_1 + 1)) a1_0 a1_1 a1_2 a1_3 x385004_1) else (none)) else (none)) else (none))) else (none)) = some r:=by rw [if_pos rfl] at H;exact H
        clear H
        have H:=H1
        clear H1
        by_cases c14 : x5_1.length < 3518437208883
        ·rw [if_pos c14] at H
         have LMc14:=Aside0.mk c14
         clear c14
         obtain ⟨y393,hy_⟩ : ∃ y_ : List (S38),y_ = (x5_1 ++ [(⟨a1_0,a1_1,(⟨a1_2,a1_3⟩ : S36),x385004_1⟩ : S38)]):=⟨_,rfl⟩
         replace H : (if 0 ≤ x7_1 then (if x7_1 < (l0.length : Int) then (if y393.length < 3518437208883 then (spec_l2Put.l0 kj8 l0 (y393 ++ [(⟨(rd_T38 l0 x7_1).f0,(rd_T38 l0 x7_1).f1,(⟨(rd_T38 l0 x7_1).f2.f0,(rd_T38 l0 x7_1).f2.f1⟩ : S36),(rd_T38 l0 x7_1).f3⟩ : S38)]) true (wrap64 (x7_1 + 1)) a1_0 a1_1 a1_2 a1_3 x385004_1) else (none)) else (none)) else (none)) = some r:=Q98
         have Ny393:=Aside0.mk hy_
         clear hy_
         by_cases c15 : 0 ≤ x7_1
         ·rw [if_pos c15] at H
          have c15b0 : decide (0 ≤ x7_1) = true:=decide_eq_true c15
          clear c15
          by_cases c16 : x7_1 < (l0.length : Int)
          ·rw [if_pos c16] at H
           have c16b0 : decide (x7_1 < (l0.length : Int)) = true:=decide_eq_true c16
           clear c16
           by_cases c17 : y393.length < 3518437208883
           ·rw [if_pos c17] at H
            have LMc17:=Aside0.mk c17
            clear c17
            obtain ⟨y397,hy_⟩ : ∃ y_ : List (S38),y_ = (y393 ++ [(⟨(rd_T38 l0 x7_1).f0,(rd_T38 l0 x7_1).f1,(⟨(rd_T38 l0 x7_1).f2.f0,(rd_T38 l0 x7_1).f2.f1⟩ : S36),(rd_T38 l0 x7_1).f3⟩ : S38)]):=⟨_,rfl⟩
            replace H : (spec_l2Put.l0 kj8 l0 y397 true (wrap64 (x7_1 + 1)) a1_0 a1_1 a1_2 a1_3 x385004_1) = some r:=Q98
            have Ny397:=Aside0.mk hy_
            clear hy_
            have H':=Aside0.mk H
            clear H
            have hcz18_0 : wc.cell? ⟨gb384,0,none⟩ = some (.int .i64 a1_0):=(blk_cell BK384.out 0).trans rfl
            have hcz18_1 : wc.cell? ⟨gb384,1,none⟩ = some (.int .i64 a1_1):=(blk_cell BK384.out 1).trans rfl
            have hcz18_2 : wc.cell? ⟨gb384,2,none⟩ = some (.int .i64 a1_2):=(blk_cell BK384.out 2).trans rfl
            have hcz18_3 : wc.cell? ⟨gb384,3,none⟩ = some (.int .i64 a1_3):=(blk_cell BK384.out 3).trans rfl
            have hcz18_4 : wc.cell? ⟨gb384,4,none⟩ = some (.int .i64 x385004_1):=(blk_cell BK384.out 4).trans rfl
            have hfz18_0:=blk_frozen BK384.out 0
            have hfz18_1:=blk_frozen BK384.out 1
            have hfz18_2:=blk_frozen BK384.out 2
            have hfz18_3:=blk_frozen BK384.out 3
            have hfz18_4:=blk_frozen BK384.out 4
            go_wp2_with (first|((with_reducible refine gate_builtin (b:=.append) (xs:=#[.tmp 28,.tmp 30]) rfl ?_);at_builtin;refine Kd.R_append k38 (w0:=w) w.heap.size rfl (.tmp 28) (.tmp 30) 23 38 (.agg #[(.int .i64 0),(.int .i64 0),(.int .i64 0),(.int .i64 0),(.int .i64 0)]) 40 rfl Try.underlying23 info38 rfl Q1 (by omega) u5 x5_1 (⟨a1_0,a1_1,(⟨a1_2,a1_3⟩ : S36),x385004_1⟩ : S38) [.int .i64 a1_0,.int .i64 a1_1,.int .i64 a1_2,.int .i64 a1_3,.int .i64 x385004_1] (fun k_=>k_ ≠ gb384) (fun _=>False) rfl rfl ?aP (fun _ hk=>hk.elim) ?aF ?aO ?aB ?aS ?aL ?_;(case aP=>exact k38_mkM _ _ _ (⟨a1_0,a1_1,(⟨a1_2,a1_3⟩ : S36),x385004_1⟩ : S38));(case aB=>exact Q69);(case aF=>exact (fun k_ hk=>Kd.freshB (g:=gb384) (o:=.cells #[.int .i64 a1_0,.int .i64 a1_1,.int .i64 a1_2,.int .i64 a1_3,.int .i64 x385004_1] 38 (0,0)) Q43 k_ hk));(case aO=>exact Q13);(case aS=>exact (below_size Q69));(case aL=>have:=LMc14.out;omega);intro v394 w19 ho hb hg hat;rw [← Ny393.out] at ho;have n0_:=Aside0.mk (blk_grown (g:=gb384) (o:=.cells #[.int .i64 a1_0,.int .i64 a1_1,.int .i64 a1_2,.int .i64 a1_3,.int .i64 x385004_1] 38 (0,0)) Q43 hg (Kd.R_away HO_5.out (fun _ hk=>hk)));have n1_:=Aside0.mk (hb);have n2_:=Aside0.mk (ho);clear BK384;clear HB;clear HO_5;have BK384:=n0_;have HB:=n1_;have HO395:=n2_;clear n0_ n1_ n2_;clear ho hb hg hat;have p396 : 0 ≤ (x7_1 : Int):=of_decide_eq_true Q8;have q396 : x7_1 < (l0.length : Int):=of_decide_eq_true Q8;obtain ⟨ad396,e396,hx396_0,hx396_1,hx396_2,hx396_3,hx396_4⟩:=at_T38 HR0.out x7_1 p396 q396;obtain rfl : ad391 = ad396:=(by injection e396);replace hx396_0:=cb_ HB hx396_0;replace hx396_1:=cb_ HB hx396_1;replace hx396_2:=cb_ HB hx396_2;replace hx396_3:=cb_ HB hx396_3;replace hx396_4:=cb_ HB hx396_4;replace p396:=eq_true p396;replace q396:=eq_true q396)|((with_reducible refine gate_builtin (b:=.append) (xs:=#[.tmp 51,.tmp 56]) rfl ?_);at_builtin;refine Kd.R_append k38 (w0:=w) w.heap.size rfl (.tmp 51) (.tmp 56) 23 38 (.agg #[(.int .i64 0),(.int .i64 0),(.int .i64 0),(.int .i64 0),(.int .i64 0)]) 40 rfl Try.underlying23 info38 rfl Q1 (by omega) v394 y393 (⟨(rd_T38 l0 x7_1).f0,(rd_T38 l0 x7_1).f1,(⟨(rd_T38 l0 x7_1).f2.f0,(rd_T38 l0 x7_1).f2.f1⟩ : S36),(rd_T38 l0 x7_1).f3⟩ : S38) [.int .i64 ((rd_T38 l0 x7_1).f0),.int .i64 ((rd_T38 l0 x7_1).f1),.int .i64 ((rd_T38 l0 x7_1).f2.f0),.int .i64 ((rd_T38 l0 x7_1).f2.f1),.int .i64 ((rd_T38 l0 x7_1).f3)] (fun k_=>k_ ≠ gb384) (fun _=>False) rfl rfl ?aP (fun _ hk=>hk.elim) ?aF ?aO ?aB ?aS ?aL ?_;(case aP=>exact k38_mkM _ _ _ (⟨(rd_T38 l0 x7_1).f0,(rd_T38 l0 x7_1).f1,(⟨(rd_T38 l0 x7_1).f2.f0,(rd_T38 l0 x7_1).f2.f1⟩ : S36),(rd_T38 l0 x7_1).f3⟩ : S38));(case aB=>exact Q69);(case aF=>exact (fun k_ hk=>Kd.freshB (g:=gb384) (o:=.cells #[.int .i64 a1_0,.int .i64 a1_1,.int .i64 a1_2,.int .i64 a1_3,.int .i64 x385004_1] 38 (0,0)) Q43 k_ hk));(case aO=>exact (by (with_reducible repeat (first|apply Kd.R_alloc|apply Kd.R_drewN|apply Kd.R_drew));exact HO395.out));(case aS=>exact (below_size Q69));(case aL=>have:=LMc17.out;omega);intro v398 w20 ho hb hg hat;rw [← Ny397.out] at ho;have n0_:=Aside0.mk (blk_grown (g:=gb384) (o:=.cells #[.int .i64 a1_0,.int .i64 a1_1,.int .i64 a1_2,.int .i64 a1_3,.int .i64 x385004_1] 38 (0,0)) Q43 hg (Kd.R_away HO395.out (fun _ hk=>hk)));have n1_:=Aside0.mk (hb);have n2_:=Aside0.mk (ho);clear BK384;clear HB;clear HO395;have BK384:=n0_;have HB:=n1_;have HO399:=n2_;clear n0_ n1_ n2_;clear ho hb hg hat))
            go_roundg kj8
            case measure=>have:=HK1.out;have:=HJ8.out;omega
            case rel=>exact ⟨(y397),(true),(wrap64 (x7_1 + 1)),(x385004_1),Q7,Q7,H',⟨Q6⟩,⟨by (with_reducible repeat (first|apply Kd.R_alloc|apply Kd.R_drewN|apply Kd.R_drew));exact HO399.out⟩,⟨Q43⟩,⟨Q69⟩⟩
           ·rw [if_neg c17] at H
            exact absurd H Q0
          ·rw [if_neg c16] at H
           exact absurd H Q0
         ·rw [if_neg c15] at H
          exact absurd H Q0
        ·rw [if_neg c14] at H
         exact absurd H Q0
       ·replace c13:=Bool.eq_false_iff.mpr c13
        subst c13
        have H1 : (if x6_1 = true then (if 0 ≤ x7_1 then (if x7_1 < (l0.length : Int) then (if x5_1.length < 3518437208883 then (spec_l2Put.l0 kj8 l0 (x5_1 ++ [(⟨(rd_T38 l0 x7_1).f0,(rd_T38 l0 x7_1).f1,(⟨(rd_T38 l0 x7_1).f2.f0,(rd_T38 l0 x7_1).f2.f1⟩ : S36),(rd_T38 l0 x7_1).f3⟩ : S38)]) x6_1 (wrap64 (x7_1 + 1)) a1_0 a1_1 a1_2 a1_3 x385004_1) else (none)) else (none)) else (none)) else (if t392 = 0 then (if 0 ≤ x7_1 then (if x7_1 < (l0.length : Int) then (if x5_1.length < 3518437208883 then (spec_l2Put.l0 kj8 l0 (x5_1 ++ [(⟨a1_0,a1_1,(⟨a1_2,a1_3⟩ : S36),wrap64 (x385004_1 + ((rd_T38 l0 x7_1).f3))⟩ : S38)]) true (wrap64 (x7_1 + 1)) a1_0 a1_1 a1_2 a1_3 (wrap64 (x385004_1 + ((rd_T38 l0 x7_1).f3)))) else (none)) else (none)) else (none)) else (if 0 ≤ x7_1 then (if x7_1 < (l0.length : Int) then (if x5_1.length < 3518437208883 then (spec_l2Put.l0 kj8 l0 (x5_1 ++ [(⟨(rd_T38 l0 x7_1).f0,(rd_T38 l0 x7_1).f1,(⟨(rd_T38 l0 x7_1).f2.f0,(rd_T38 l0 x7_1).f2.f1⟩ : S36),(rd_T38 l0 x7_1).f3⟩ : S38)]) x6_1 (wrap64 (x7_1 + 1)) a1_0 a1_1 a1_2 a1_3 x385004_1) else (none)) else (none)) else (none)))) = some r:=by rw [if_neg (show ¬ (false = true) by decide)] at H;exact H
        clear H
        have H:=H1
        clear H1
        by_cases c21 : x6_1 = true
        ·subst c21
         have H1 : (if 0 ≤ x7_1 then (if x7_1 < (l0.length : Int) then (if x5_1.length < 3518437208883 then (spec_l2Put.l0 kj8 l0 (x5_1 ++ [(⟨(rd_T38 l0 x7_1).f0,(rd_T38 l0 x7_1).f1,(⟨(rd_T38 l0 x7_1).f2.f0,(rd_T38 l0 x7_1).f2.f1⟩ : S36),(rd_T38 l0 x7_1).f3⟩ : S38)]) true (wrap64 (x7_1 + 1)) a1_0 a1_1 a1_2 a1_3 x385004_1) else (none)) else (none)) else (none)) = some r:=by rw [if_pos rfl] at H;exact H
         clear H
         have H:=H1
         clear H1
         by_cases c22 : 0 ≤ x7_1
         ·rw [if_pos c22] at H
          have c22b0 : decide (0 ≤ x7_1) = true:=decide_eq_true c22
          clear c22
          by_cases c23 : x7_1 < (l0.length : Int)
          ·rw [if_pos c23] at H
           have c23b0 : decide (x7_1 < (l0.length : Int)) = true:=decide_eq_true c23
           clear c23
           by_cases c24 : x5_1.length < 3518437208883
           ·rw [if_pos c24] at H
            have LMc24:=Aside0.mk c24
            clear c24
            obtain ⟨y401,hy_⟩ : ∃ y_ : List (S38),y_ = (x5_1 ++ [(⟨(rd_T38 l0 x7_1).f0,(rd_T38 l0 x7_1).f1,(⟨(rd_T38 l0 x7_1).f2.f0,(rd_T38 l0 x7_1).f2.f1⟩ : S36),(rd_T38 l0 x7_1).f3⟩ : S38)]):=⟨_,rfl⟩
            replace H : (spec_l2Put.l0 kj8 l0 y401 true (wrap64 (x7_1 + 1)) a1_0 a1_1 a1_2 a1_3 x385004_1) = some r:=Q98
            have Ny401:=Aside0.mk hy_
            clear hy_
            have H':=Aside0.mk H
            clear H
            have p400 : 0 ≤ (x7_1 : Int):=of_decide_eq_true Q8
            have q400 : x7_1 < (l0.length : Int):=of_decide_eq_true Q8
            obtain ⟨ad400,e400,hx400_0,hx400_1,hx400_2,hx400_3,hx400_4⟩:=at_T38 HR0.out x7_1 p400 q400
            obtain rfl : ad391 = ad400:=(by injection e400)
            replace hx400_0:=cb_ HB hx400_0
            replace hx400_1:=cb_ HB hx400_1
            replace hx400_2:=cb_ HB hx400_2
            replace hx400_3:=cb_ HB hx400_3
            replace hx400_4:=cb_ HB hx400_4
            replace p400:=eq_true p400
            replace q400:=eq_true q400
            go_wp2_with (first|((with_reducible refine gate_builtin (b:=.append) (xs:=#[.tmp 51,.tmp 56]) rfl ?_);at_builtin;refine Kd.R_append k38 (w0:=w) w.heap.size rfl (.tmp 51) (.tmp 56) 23 38 (.agg #[(.int .i64 0),(.int .i64 0),(.int .i64 0),(.int .i64 0),(.int .i64 0)]) 40 rfl Try.underlying23 info38 rfl Q1 (by omega) u5 x5_1 (⟨(rd_T38 l0 x7_1).f0,(rd_T38 l0 x7_1).f1,(⟨(rd_T38 l0 x7_1).f2.f0,(rd_T38 l0 x7_1).f2.f1⟩ : S36),(rd_T38 l0 x7_1).f3⟩ : S38) [.int .i64 ((rd_T38 l0 x7_1).f0),.int .i64 ((rd_T38 l0 x7_1).f1),.int .i64 ((rd_T38 l0 x7_1).f2.f0),.int .i64 ((rd_T38 l0 x7_1).f2.f1),.int .i64 ((rd_T38 l0 x7_1).f3)] (fun k_=>k_ ≠ gb384) (fun _=>False) rfl rfl ?aP (fun _ hk=>hk.elim) ?aF ?aO ?aB ?aS ?aL ?_;(case aP=>exact k38_mkM _ _ _ (⟨(rd_T38 l0 x7_1).f0,(rd_T38 l0 x7_1).f1,(⟨(rd_T38 l0 x7_1).f2.f0,(rd_T38 l0 x7_1).f2.f1⟩ : S36),(rd_T38 l0 x7_1).f3⟩ : S38));(case aB=>exact Q69);(case aF=>exact (fun k_ hk=>Kd.freshB (g:=gb384) (o:=.cells #[.int .i64 a1_0,.int .i64 a1_1,.int .i64 a1_2,.int .i64 a1_3,.int .i64 x385004_1] 38 (0,0)) Q43 k_ hk));(case aO=>exact Q13);(case aS=>exact (below_size Q69));(case aL=>have:=LMc24.out;omega);intro v402 w25 ho hb hg hat;rw [← Ny401.out] at ho;have n0_:=Aside0.mk (blk_grown (g:=gb384) (o:=.cells #[.int .i64 a1_0,.int .i64 a1_1,.int .i64 a1_2,.int .i64 a1_3,.int .i64 x385004_1] 38 (0,0)) Q43 hg (Kd.R_away HO_5.out (fun _ hk=>hk)));have n1_:=Aside0.mk (hb);have n2_:=Aside0.mk (ho);clear BK384;clear HB;clear HO_5;have BK384:=n0_;have HB:=n1_;have HO403:=n2_;clear n0_ n1_ n2_;clear ho hb hg hat))
            go_roundg kj8
            case measure=>have:=HK1.out;have:=HJ8.out;omega
            case rel=>exact ⟨(y401),(true),(wrap64 (x7_1 + 1)),(x385004_1),Q7,Q7,H',⟨Q6⟩,⟨by (with_reducible repeat (first|apply Kd.R_alloc|apply Kd.R_drewN|apply Kd.R_drew));exact HO403.out⟩,⟨Q43⟩,⟨Q69⟩⟩
           ·rw [if_neg c24] at H
            exact absurd H Q0
          ·rw [if_neg c23] at H
           exact absurd H Q0
         ·rw [if_neg c22] at H
          exact absurd H Q0
        ·replace c21:=Bool.eq_false_iff.mpr c21
         subst c21
         have H1 : (if t392 = 0 then (if 0 ≤ x7_1 then (if x7_1 < (l0.length : Int) then (if x5_1.length < 3518437208883 then (spec_l2Put.l0 kj8 l0 (x5_1 ++ [(⟨a1_0,a1_1,(⟨a1_2,a1_3⟩ : S36),wrap64 (x385004_1 + ((rd_T38 l0 x7_1).f3))⟩ : S38)]) true (wrap64 (x7_1 + 1)) a1_0 a1_1 a1_2 a1_3 (wrap64 (x385004_1 + ((rd_T38 l0 x7_1).f3)))) else (none)) else (none)) else (none)) else (if 0 ≤ x7_1 then (if x7_1 < (l0.length : Int) then (if x5_1.length < 3518437208883 then (spec_l2Put.l0 kj8 l0 (x5_1 ++ [(⟨(rd_T38 l0 x7_1).f0,(rd_T38 l0 x7_1).f1,(⟨(rd_T38 l0 x7_1).f2.f0,(rd_T38 l0 x7_1).f2.f1⟩ : S36),(rd_T38 l0 x7_1).f3⟩ : S38)]) false (wrap64 (x7_1 + 1)) a1_0 a1_1 a1_2 a1_3 x385004_1) else (none)) else (none)) else (none))) = some r:=by rw [if_neg (show ¬ (false = true) by decide)] at H;exact H
         clear H
         have H:=H1
         clear H1
         by_cases c26 : t392 = 0
         ·rw [if_pos c26] at H
          have c26b0 : (t392 == 0) = true:=beq_iff_eq.mpr c26
          have c26b1 : (t392 != 0) = false:=bne_eq_false_iff_eq.mpr c26
          clear c26
          by_cases c27 : 0 ≤ x7_1
          ·rw [if_pos c27] at H
           have c27b0 : decide (0 ≤ x7_1) = true:=decide_eq_true c27
           clear c27
           by_cases c28 : x7_1 < (l0.length : Int)
           ·rw [if_pos c28] at H
            have c28b0 : decide (x7_1 < (l0.length : Int)) = true:=decide_eq_true c28
            clear c28
            by_cases c29 : x5_1.length < 3518437208883
            ·rw [if_pos c29] at H
             have LMc29:=Aside0.mk c29
             clear c29
             obtain ⟨y405,hy_⟩ : ∃ y_ : List (S38),y_ = (x5_1 ++ [(⟨a1_0,a1_1,(⟨a1_2,a1_3⟩ : S36),wrap64 (x385004_1 + ((rd_T38 l0 x7_1).f3))⟩ : S38)]):=⟨_,rfl⟩
             replace H : (spec_l2Put.l0 kj8 l0 y405 true (wrap64 (x7_1 + 1)) a1_0 a1_1 a1_2 a1_3 (wrap64 (x385004_1 + ((rd_T38 l0 x7_1).f3)))) = some r:=Q98
             have Ny405:=Aside0.mk hy_
             clear hy_
             have H':=Aside0.mk H
             clear H
             try go_wp2
             have n0_:=Aside0.mk (Kd.R_drew HO_5.out)
             have n1_:=Aside0.mk (blk_drew BK384.out)
             have n2_:=Aside0.mk (below_drew1 HB.out)
             clear HO_5
             clear BK384
             clear HB
             have HO_5:=n0_
             have BK384:=n1_
             have HB:=n2_
             clear n0_ n1_ n2_
             have p404 : 0 ≤ (x7_1 : Int):=of_decide_eq_true Q8
             have q404 : x7_1 < (l0.length : Int):=of_decide_eq_true Q8
             obtain ⟨ad404,e404,hx404_0,hx404_1,hx404_2,hx404_3,hx404_4⟩:=at_T38 HR0.out x7_1 p404 q404
             have hw404_4:=hx404_4
             have hw404_3:=hx404_3
             have hw404_2:=hx404_2
             have hw404_1:=hx404_1
             have hw404_0:=hx404_0
             obtain rfl : ad391 = ad404:=(by injection e404)
             replace hx404_0:=cb_ HB hx404_0
             replace hx404_1:=cb_ HB hx404_1
             replace hx404_2:=cb_ HB hx404_2
             replace hx404_3:=cb_ HB hx404_3
             replace hx404_4:=cb_ HB hx404_4
             replace p404:=eq_true p404
             replace q404:=eq_true q404
             refine start_ (n:=10) (S:=fun w'=>w'.cell? ⟨gb384,0,none⟩ = some (.int .i64 a1_0) ∧ w'.cell? ⟨gb384,1,none⟩ = some (.int .i64 a1_1) ∧ w'.cell? ⟨gb384,2,none⟩ = some (.int .i64 a1_2) ∧ w'.cell? ⟨gb384,3,none⟩ = some (.int .i64 a1_3) ∧ w'.cell? ⟨gb384,4,none⟩ = some (.int .i64 x385004_1) ∧ w'.cell? (ad391.add ((x7_1).toNat * 5)) = some (.int .i64 ((rd_T38 l0 x7_1).f0)) ∧ w'.cell? ⟨(ad391.add ((x7_1).toNat * 5)).block,(ad391.add ((x7_1).toNat * 5)).off + 1,none⟩ = some (.int .i64 ((rd_T38 l0 x7_1).f1)) ∧ w'.cell? ⟨(ad391.add ((x7_1).toNat * 5)).block,(ad391.add ((x7_1).toNat * 5)).off + 2,none⟩ = some (.int .i64 ((rd_T38 l0 x7_1).f2.f0)) ∧ w'.cell? ⟨(ad391.add ((x7_1).toNat * 5)).block,(ad391.add ((x7_1).toNat * 5)).off + 3,none⟩ = some (.int .i64 ((rd_T38 l0 x7_1).f2.f1)) ∧ w'.cell? ⟨(ad391.add ((x7_1).toNat * 5)).block,(ad391.add ((x7_1).toNat * 5)).off + 4,none⟩ = some (.int .i64 ((rd_T38 l0 x7_1).f3))) (ds:=[9]) b10_0 Q2 rfl rfl ⟨(blk_cell BK384.out 0).trans rfl,(blk_cell BK384.out 1).trans rfl,(blk_cell BK384.out 2).trans rfl,(blk_cell BK384.out 3).trans rfl,(blk_cell BK384.out 4).trans rfl,(cb_ HB hw404_0:),(cb_ HB hw404_1:),(cb_ HB hw404_2:),(cb_ HB hw404_3:),(cb_ HB hw404_4:)⟩ (fun hHeld=>?_);refine with_tabW spec_l2Put.tab11 spec_l2Put.bits11 (fun HT_ HW_=>?_)
             generalize wc.drew = w30 at HO_5 BK384 HB hx404_0 hx404_1 hx404_2 hx404_3 hx404_4 hHeld ⊢
             refine pU_ 0 38 b10_1 ?_
             refine pU_ 2 40 c134 ?_
             refine pU_ 3 41 c135 ?_
             refine pU_ 4 42 c136 ?_
             refine pU_ 5 43 c137 ?_
             refine tU_ 1 39 b10_6 hHeld ?_
             refine tU_ 6 44 b10_7 hHeld ?_
             refine pU_ 7 45 b10_8 ?_
             refine pU_ 8 46 b10_9 ?_
             refine last_ (i:=9) (N:=none) b10_10 rfl rfl (one_of HT_.out Q2) Q1 (fun K hK=>?_)
             have hs31 : w30.cell? ⟨gb384,4,none⟩ = some (.int .i64 x385004_1):=(blk_cell BK384.out 4).trans rfl
             have hfs31:=blk_frozen BK384.out 4
             refine skip_ (w1:=?_) (by rfl) rfl ?_ ?_
             rotate_left
             ·go_simp
              rfl
             refine hK.out _ _ ?_
             clear hK K
             refine done_ (done_of HT_.out Q2) ?_
             have hcz32_0 : w30.cell? ⟨gb384,0,none⟩ = some (.int .i64 a1_0):=(blk_cell BK384.out 0).trans rfl
             have hcz32_1 : w30.cell? ⟨gb384,1,none⟩ = some (.int .i64 a1_1):=(blk_cell BK384.out 1).trans rfl
             have hcz32_2 : w30.cell? ⟨gb384,2,none⟩ = some (.int .i64 a1_2):=(blk_cell BK384.out 2).trans rfl
             have hcz32_3 : w30.cell? ⟨gb384,3,none⟩ = some (.int .i64 a1_3):=(blk_cell BK384.out 3).trans rfl
             have hcz32_4 : w30.cell? ⟨gb384,4,none⟩ = some (.int .i64 x385004_1):=(blk_cell BK384.out 4).trans rfl
             have hfz32_0:=blk_frozen BK384.out 0
             have hfz32_1:=blk_frozen BK384.out 1
             have hfz32_2:=blk_frozen BK384.out 2
             have hfz32_3:=blk_frozen BK384.out 3
             have hfz32_4:=blk_frozen BK384.out 4
             try go_wp2_with (first|((with_reducible refine gate_builtin (b:=.append) (xs:=#[.tmp 47,.tmp 49]) rfl ?_);at_builtin;refine Kd.R_append k38 (w0:=w) w.heap.size rfl (.tmp 47) (.tmp 49) 23 38 (.agg #[(.int .i64 0),(.int .i64 0),(.int .i64 0),(.int .i64 0),(.int .i64 0)]) 40 rfl Try.underlying23 info38 rfl Q1 (by omega) u5 x5_1 (⟨a1_0,a1_1,(⟨a1_2,a1_3⟩ : S36),wrap64 (x385004_1 + ((rd_T38 l0 x7_1).f3))⟩ : S38) [.int .i64 a1_0,.int .i64 a1_1,.int .i64 a1_2,.int .i64 a1_3,.int .i64 (wrap64 (x385004_1 + ((rd_T38 l0 x7_1).f3)))] (fun k_=>k_ ≠ gb384) (fun _=>False) rfl (by first|(go_simp;done)|(go_simp;rfl)) ?aP (fun _ hk=>hk.elim) ?aF ?aO ?aB ?aS ?aL ?_;(case aP=>exact k38_mkM _ _ _ (⟨a1_0,a1_1,(⟨a1_2,a1_3⟩ : S36),wrap64 (x385004_1 + ((rd_T38 l0 x7_1).f3))⟩ : S38));(case aB=>exact Q69);(case aF=>exact (fun k_ hk=>Kd.freshB (g:=gb384) (o:=.cells #[.int .i64 a1_0,.int .i64 a1_1,.int .i64 a1_2,.int .i64 a1_3,.int .i64 (wrap64 (x385004_1 + ((rd_T38 l0 x7_1).f3)))] 38 (0,0)) (by (with_reducible repeat (first|refine blk_drewN ?_ _|refine blk_drew ?_|refine blk_alloc ?_ _));refine blk_put (cs:=#[.int .i64 a1_0,.int .i64 a1_1,.int .i64 a1_2,.int .i64 a1_3,.int .i64 x385004_1]) ?_ 4 _ rfl;(with_reducible repeat (first|refine blk_drewN ?_ _|refine blk_drew ?_|refine blk_alloc ?_ _));exact BK384.out) k_ hk));(case aO=>exact (by (with_reducible repeat (first|apply Kd.R_alloc|apply Kd.R_drewN|apply Kd.R_drew));exact Kd.R_mono (Kd.R_far (p:=⟨gb384,4,none⟩) (Kd.R_mono HO_5.out (fun k_ hk=>(⟨hk,hk⟩ : _ ∧ k_ ≠ gb384))) (fun _ hk=>hk.2) (.int .i64 (wrap64 (x385004_1 + ((rd_T38 l0 x7_1).f3))))) (fun _ hk=>hk.1)));(case aS=>exact (below_size Q69));(case aL=>have:=LMc29.out;omega);intro v406 w33 ho hb hg hat;rw [← Ny405.out] at ho;have n0_:=Aside0.mk (blk_grown (g:=gb384) (o:=.cells #[.int .i64 a1_0,.int .i64 a1_1,.int .i64 a1_2,.int .i64 a1_3,.int .i64 (wrap64 (x385004_1 + ((rd_T38 l0 x7_1).f3)))] 38 (0,0)) (by (with_reducible repeat (first|refine blk_drewN ?_ _|refine blk_drew ?_|refine blk_alloc ?_ _));refine blk_put (cs:=#[.int .i64 a1_0,.int .i64 a1_1,.int .i64 a1_2,.int .i64 a1_3,.int .i64 x385004_1]) ?_ 4 _ rfl;(with_reducible repeat (first|refine blk_drewN ?_ _|refine blk_drew ?_|refine blk_alloc ?_ _));exact BK384.out) hg (Kd.R_away HO_5.out (fun _ hk=>hk)));have n1_:=Aside0.mk (hb);have n2_:=Aside0.mk (ho);clear BK384;clear HB;clear HO_5;have BK384:=n0_;have HB:=n1_;have HO407:=n2_;clear n0_ n1_ n2_;clear ho hb hg hat))
             go_roundg kj8
             case measure=>have:=HK1.out;have:=HJ8.out;omega
             case rel=>exact ⟨(y405),(true),(wrap64 (x7_1 + 1)),(wrap64 (x385004_1 + ((rd_T38 l0 x7_1).f3))),Q7,Q7,H',⟨Q6⟩,⟨by (with_reducible repeat (first|apply Kd.R_alloc|apply Kd.R_drewN|apply Kd.R_drew));exact HO407.out⟩,⟨Q43⟩,⟨Q69⟩⟩
            ·rw [if_neg c29] at H
             exact absurd H Q0
           ·rw [if_neg c28] at H
            exact absurd H Q0
          ·rw [if_neg c27] at H
           exact absurd H Q0
         ·rw [if_neg c26] at H
          have c26b0 : (t392 == 0) = false:=beq_eq_false_iff_ne.mpr c26
          have c26b1 : (t392 != 0) = true:=bne_iff_ne.mpr c26
          by_cases c34 : 0 ≤ x7_1
          ·rw [if_pos c34] at H
           have c34b0 : decide (0 ≤ x7_1) = true:=decide_eq_true c34
           clear c34
           by_cases c35 : x7_1 < (l0.length : Int)
           ·rw [if_pos c35] at H
            have c35b0 : decide (x7_1 < (l0.length : Int)) = true:=decide_eq_true c35
            clear c35
            by_cases c36 : x5_1.length < 3518437208883
            ·rw [if_pos c36] at H
             have LMc36:=Aside0.mk c36
             clear c36
             obtain ⟨y409,hy_⟩ : ∃ y_ : List (S38),y_ = (x5_1 ++ [(⟨(rd_T38 l0 x7_1).f0,(rd_T38 l0 x7_1).f1,(⟨(rd_T38 l0 x7_1).f2.f0,(rd_T38 l0 x7_1).f2.f1⟩ : S36),(rd_T38 l0 x7_1).f3⟩ : S38)]):=⟨_,rfl⟩
             replace H : (spec_l2Put.l0 kj8 l0 y409 false (wrap64 (x7_1 + 1)) a1_0 a1_1 a1_2 a1_3 x385004_1) = some r:=Q98
             have Ny409:=Aside0.mk hy_
             clear hy_
             have H':=Aside0.mk H
             clear H
             have p408 : 0 ≤ (x7_1 : Int):=of_decide_eq_true Q8
             have q408 : x7_1 < (l0.length : Int):=of_decide_eq_true Q8
             obtain ⟨ad408,e408,hx408_0,hx408_1,hx408_2,hx408_3,hx408_4⟩:=at_T38 HR0.out x7_1 p408 q408
             obtain rfl : ad391 = ad408:=(by injection e408)
             replace hx408_0:=cb_ HB hx408_0
             replace hx408_1:=cb_ HB hx408_1
             replace hx408_2:=cb_ HB hx408_2
             replace hx408_3:=cb_ HB hx408_3
             replace hx408_4:=cb_ HB hx408_4
             replace p408:=eq_true p408
             replace q408:=eq_true q408
             go_wp2_with (first|((with_reducible refine gate_builtin (b:=.append) (xs:=#[.tmp 51,.tmp 56]) rfl ?_);at_builtin;refine Kd.R_append k38 (w0:=w) w.heap.size rfl (.tmp 51) (.tmp 56) 23 38 (.agg #[(.int .i64 0),(.int .i64 0),(.int .i64 0),(.int .i64 0),(.int .i64 0)]) 40 rfl Try.underlying23 info38 rfl Q1 (by omega) u5 x5_1 (⟨(rd_T38 l0 x7_1).f0,(rd_T38 l0 x7_1).f1,(⟨(rd_T38 l0 x7_1).f2.f0,(rd_T38 l0 x7_1).f2.f1⟩ : S36),(rd_T38 l0 x7_1).f3⟩ : S38) [.int .i64 ((rd_T38 l0 x7_1).f0),.int .i64 ((rd_T38 l0 x7_1).f1),.int .i64 ((rd_T38 l0 x7_1).f2.f0),.int .i64 ((rd_T38 l0 x7_1).f2.f1),.int .i64 ((rd_T38 l0 x7_1).f3)] (fun k_=>k_ ≠ gb384) (fun _=>False) rfl rfl ?aP (fun _ hk=>hk.elim) ?aF ?aO ?aB ?aS ?aL ?_;(case aP=>exact k38_mkM _ _ _ (⟨(rd_T38 l0 x7_1).f0,(rd_T38 l0 x7_1).f1,(⟨(rd_T38 l0 x7_1).f2.f0,(rd_T38 l0 x7_1).f2.f1⟩ : S36),(rd_T38 l0 x7_1).f3⟩ : S38));(case aB=>exact Q69);(case aF=>exact (fun k_ hk=>Kd.freshB (g:=gb384) (o:=.cells #[.int .i64 a1_0,.int .i64 a1_1,.int .i64 a1_2,.int .i64 a1_3,.int .i64 x385004_1] 38 (0,0)) Q43 k_ hk));(case aO=>exact Q13);(case aS=>exact (below_size Q69));(case aL=>have:=LMc36.out;omega);intro v410 w37 ho hb hg hat;rw [← Ny409.out] at ho;have n0_:=Aside0.mk (blk_grown (g:=gb384) (o:=.cells #[.int .i64 a1_0,.int .i64 a1_1,.int .i64 a1_2,.int .i64 a1_3,.int .i64 x385004_1] 38 (0,0)) Q43 hg (Kd.R_away HO_5.out (fun _ hk=>hk)));have n1_:=Aside0.mk (hb);have n2_:=Aside0.mk (ho);clear BK384;clear HB;clear HO_5;have BK384:=n0_;have HB:=n1_;have HO411:=n2_;clear n0_ n1_ n2_;clear ho hb hg hat))
             go_roundg kj8
             case measure=>have:=HK1.out;have:=HJ8.out;omega
             case rel=>exact ⟨(y409),(false),(wrap64 (x7_1 + 1)),(x385004_1),Q7,Q7,H',⟨Q6⟩,⟨by (with_reducible repeat (first|apply Kd.R_alloc|apply Kd.R_drewN|apply Kd.R_drew));exact HO411.out⟩,⟨Q43⟩,⟨Q69⟩⟩
            ·rw [if_neg c36] at H
             exact absurd H Q0
           ·rw [if_neg c35] at H
            exact absurd H Q0
          ·rw [if_neg c34] at H
           exact absurd H Q0
    ·rw [if_neg c7] at H
     exact absurd H Q0
   ·rw [if_neg c6] at H
    have c6b0 : decide (x7_1 < (l0.length : Int)) = false:=decide_eq_false c6
    clear c6
    by_cases c38 : x6_1 = true
    ·subst c38
     have H1 : (some x5_1) = some r:=by rw [if_pos rfl] at H;exact H
     clear H
     have H:=H1
     clear H1
     obtain rfl:=Option.some.inj H
     go_wp2
     go_ret
     exact ⟨_,Q11,by (with_reducible repeat (first|apply Kd.R_alloc|apply Kd.R_drewN|apply Kd.R_drew));exact Kd.R_mono HO_5.out (fun _ hk=>trivial),Q69⟩
    ·replace c38:=Bool.eq_false_iff.mpr c38
     subst c38
     have H1 : (if x5_1.length < 3518437208883 then (some (x5_1 ++ [(⟨a1_0,a1_1,(⟨a1_2,a1_3⟩ : S36),x385004_1⟩ : S38)])) else (none)) = some r:=by rw [if_neg (show ¬ (false = true) by decide)] at H;exact H
     clear H
     have H:=H1
     clear H1
     by_cases c39 : x5_1.length < 3518437208883
     ·rw [if_pos c39] at H
      have LMc39:=Aside0.mk c39
      clear c39
      obtain ⟨y388,hy_⟩ : ∃ y_ : List (S38),y_ = (x5_1 ++ [(⟨a1_0,a1_1,(⟨a1_2,a1_3⟩ : S36),x385004_1⟩ : S38)]):=⟨_,rfl⟩
      replace H : (some y388) = some r:=Q98
      have Ny388:=Aside0.mk hy_
      clear hy_
      obtain rfl:=Option.some.inj H
      have hcz40_0 : wr.cell? ⟨gb384,0,none⟩ = some (.int .i64 a1_0):=(blk_cell BK384.out 0).trans rfl
      have hcz40_1 : wr.cell? ⟨gb384,1,none⟩ = some (.int .i64 a1_1):=(blk_cell BK384.out 1).trans rfl
      have hcz40_2 : wr.cell? ⟨gb384,2,none⟩ = some (.int .i64 a1_2):=(blk_cell BK384.out 2).trans rfl
      have hcz40_3 : wr.cell? ⟨gb384,3,none⟩ = some (.int .i64 a1_3):=(blk_cell BK384.out 3).trans rfl
      have hcz40_4 : wr.cell? ⟨gb384,4,none⟩ = some (.int .i64 x385004_1):=(blk_cell BK384.out 4).trans rfl
      have hfz40_0:=blk_frozen BK384.out 0
      have hfz40_1:=blk_frozen BK384.out 1
      have hfz40_2:=blk_frozen BK384.out 2
      have hfz40_3:=blk_frozen BK384.out 3
      have hfz40_4:=blk_frozen BK384.out 4
      go_wp2_with (first|((with_reducible refine gate_builtin (b:=.append) (xs:=#[.tmp 60,.tmp 62]) rfl ?_);at_builtin;refine Kd.R_append k38 (w0:=w) w.heap.size rfl (.tmp 60) (.tmp 62) 23 38 (.agg #[(.int .i64 0),(.int .i64 0),(.int .i64 0),(.int .i64 0),(.int .i64 0)]) 40 rfl Try.underlying23 info38 rfl Q1 (by omega) u5 x5_1 (⟨a1_0,a1_1,(⟨a1_2,a1_3⟩ : S36),x385004_1⟩ : S38) [.int .i64 a1_0,.int .i64 a1_1,.int .i64 a1_2,.int .i64 a1_3,.int .i64 x385004_1] (fun k_=>k_ ≠ gb384) (fun _=>False) rfl rfl ?aP (fun _ hk=>hk.elim) ?aF ?aO ?aB ?aS ?aL ?_;(case aP=>exact k38_mkM _ _ _ (⟨a1_0,a1_1,(⟨a1_2,a1_3⟩ : S36),x385004_1⟩ : S38));(case aB=>exact Q69);(case aF=>exact (fun k_ hk=>Kd.freshB (g:=gb384) (o:=.cells #[.int .i64 a1_0,.int .i64 a1_1,.int .i64 a1_2,.int .i64 a1_3,.int .i64 x385004_1] 38 (0,0)) Q43 k_ hk));(case aO=>exact Q13);(case aS=>exact (below_size Q69));(case aL=>have:=LMc39.out;omega);intro v389 w41 ho hb hg hat;rw [← Ny388.out] at ho;have n0_:=Aside0.mk (blk_grown (g:=gb384) (o:=.cells #[.int .i64 a1_0,.int .i64 a1_1,.int .i64 a1_2,.int .i64 a1_3,.int .i64 x385004_1] 38 (0,0)) Q43 hg (Kd.R_away HO_5.out (fun _ hk=>hk)));have n1_:=Aside0.mk (hb);have n2_:=Aside0.mk (ho);clear BK384;clear HB;clear HO_5;have BK384:=n0_;have HB:=n1_;have HO390:=n2_;clear n0_ n1_ n2_;clear ho hb hg hat))
      go_ret
      exact ⟨_,Q11,by (with_reducible repeat (first|apply Kd.R_alloc|apply Kd.R_drewN|apply Kd.R_drew));exact Kd.R_mono HO390.out (fun _ hk=>trivial),Q69⟩
     ·rw [if_neg c39] at H
      exact absurd H Q0
mutual
def spec_l2Sum.l0 : Nat → List (S38) → List (S38) → Int → Option ((List (S38)))
 | 0, _, _, _ => none
 | k + 1, x0, x3, x4 => if x4 < (x0.length : Int) then (if 0 ≤ x4 then ((spec_l2Put.f k x3 ((rd_T38 x0 x4).f0) ((rd_T38 x0 x4).f1) ((rd_T38 x0 x4).f2.f0) ((rd_T38 x0 x4).f2.f1) ((rd_T38 x0 x4).f3)).bind fun t416 => (spec_l2Sum.l0 k x0 t416 (wrap64 (x4 + 1)))) else (none)) else (spec_l2Sum.l1 k x3 (([] : List (S38))) 0)
def spec_l2Sum.l1 : Nat → List (S38) → List (S38) → Int → Option ((List (S38)))
 | 0, _, _, _ => none
 | k + 1, x3, x5, x6 => if x6 < (x3.length : Int) then (if 0 ≤ x6 then (if ((rd_T38 x3 x6).f3) = 0 then (spec_l2Sum.l1 k x3 x5 (wrap64 (x6 + 1))) else (if x5.length < 3518437208883 then (spec_l2Sum.l1 k x3 (x5 ++ [(⟨(rd_T38 x3 x6).f0, (rd_T38 x3 x6).f1, (⟨(rd_T38 x3 x6).f2.f0, (rd_T38 x3 x6).f2.f1⟩ : S36), (rd_T38 x3 x6).f3⟩ : S38)]) (wrap64 (x6 + 1))) else (none))) else (none)) else (some x5)
end
def spec_l2Sum.f (k : Nat) (l0 : List (S38)) : Option ((List (S38))) := spec_l2Sum.l0 k l0 (([] : List (S38))) 0
theorem spec_l2Sum.mono_l : ∀ k,(∀ y0 y1 y2,LeO (spec_l2Sum.l0 k y0 y1 y2) (spec_l2Sum.l0 (k + 1) y0 y1 y2)) ∧ (∀ y0 y1 y2,LeO (spec_l2Sum.l1 k y0 y1 y2) (spec_l2Sum.l1 (k + 1) y0 y1 y2))
 | 0=>⟨fun _ _ _ r h=>by simp [spec_l2Sum.l0] at h,fun _ _ _ r h=>by simp [spec_l2Sum.l1] at h⟩
 | k + 1=>by
  obtain ⟨ih0,ih1⟩:=spec_l2Sum.mono_l k
  refine ⟨?_,?_⟩
  ·intro y0 y1 y2
   unfold spec_l2Sum.l0
   repeat' first
   | (with_reducible exact ih0 _ _ _)
   | (with_reducible exact ih1 _ _ _)
   | (with_reducible exact spec_l2Put.mono _ _ _ _ _ _ _)
   | (with_reducible exact LeO.refl _)
   | (with_reducible exact LeO.none _)
   | (with_reducible refine LeO.ite ?_ ?_)
   | (with_reducible refine LeO.bind ?_ (fun _=>?_))
   | exact ih0 _ _ _
   | exact ih1 _ _ _
   | exact spec_l2Put.mono _ _ _ _ _ _ _
   | exact LeO.none _
   | refine LeO.ite ?_ ?_
   | refine LeO.bind ?_ (fun _=>?_)
  ·intro y0 y1 y2
   unfold spec_l2Sum.l1
   repeat' first
   | (with_reducible exact ih0 _ _ _)
   | (with_reducible exact ih1 _ _ _)
   | (with_reducible exact spec_l2Put.mono _ _ _ _ _ _ _)
   | (with_reducible exact LeO.refl _)
   | (with_reducible exact LeO.none _)
   | (with_reducible refine LeO.ite ?_ ?_)
   | (with_reducible refine LeO.bind ?_ (fun _=>?_))
   | exact ih0 _ _ _
   | exact ih1 _ _ _
   | exact spec_l2Put.mono _ _ _ _ _ _ _
   | exact LeO.none _
   | refine LeO.ite ?_ ?_
   | refine LeO.bind ?_ (fun _=>?_)
theorem spec_l2Sum.mono : ∀ a0 k,LeO (spec_l2Sum.f k a0) (spec_l2Sum.f (k + 1) a0):=by
 intro a0 k
 obtain ⟨ih0,ih1⟩:=spec_l2Sum.mono_l k
 unfold spec_l2Sum.f
 repeat' first
   | (with_reducible exact ih0 _ _ _)
   | (with_reducible exact ih1 _ _ _)
   | (with_reducible exact spec_l2Put.mono _ _ _ _ _ _ _)
   | (with_reducible exact LeO.refl _)
   | (with_reducible exact LeO.none _)
   | (with_reducible refine LeO.ite ?_ ?_)
   | (with_reducible refine LeO.bind ?_ (fun _=>?_))
   | exact ih0 _ _ _
   | exact ih1 _ _ _
   | exact spec_l2Put.mono _ _ _ _ _ _ _
   | exact LeO.none _
   | refine LeO.ite ?_ ?_
   | refine LeO.bind ?_ (fun _=>?_)
set_option maxHeartbeats 8000000 in
set_option maxRecDepth 100000 in
theorem spec_l2Sum.calls (k : Nat) (A0 : Option Addr) (c0 : Nat) (l0 : List (S38)) (r : List (S38)) (w : World) (hr0 : Kd.C k38 w A0 l0.length l0) (hc0 : l0.length ≤ c0) (h : spec_l2Sum.f k l0 = some r) :
  Calls Try.prog 58 #[.slice A0 l0.length c0] w fun e w'=>∃ v0_ : Value,e = .returned (v0_) ∧ Kd.R k38 38 w' w.heap.size (fun _=>True) v0_ r ∧ Below w.heap.size w w':=by
 have hu38:=Try.underlying38
 have HR0:=Aside0.mk hr0
 have HC0:=Aside0.mk hc0
 clear hr0 hc0
 have HB:=Aside0.mk (Below.refl w.heap.size w)
 have H : (spec_l2Sum.l0 k l0 (([] : List (S38))) 0) = some r:=h
 clear h
 obtain ⟨y412,hy_⟩ : ∃ y_ : List (S38),y_ = (([] : List (S38))):=⟨_,rfl⟩
 replace H : (spec_l2Sum.l0 k l0 y412 0) = some r:=Q98
 have Ny412:=Aside0.mk hy_
 clear hy_
 have H':=Aside0.mk H
 clear H
 go_enter Try.func58,Try.ntmps58
 go_wp2_with (first|((with_reducible refine gate_dst (N:=7) rfl ?_);refine Kd.R_lit k38 _ 38 ?hg (N:=7) ?hd (xs:=([] : List (S38))) (inner:=[]) (ok:=fun _=>True) (okp:=fun _=>True) ?hr ?hp (fun _ hk=>hk) trivial (Below.refl _ _) (Nat.le_refl _) Q0 ?_;(case hd=>rfl);(case hg=>rfl);(case hr=>first|(go_simp;done)|(go_simp;rfl));(case hp=>exact (Reps.none _ _));intro v413 w2 ho3 hb hg_ hnew_;clear hg_ hnew_;(first|rw [← Ny412.out] at ho3|(simp only [Int.reduceToNat] at ho3;rw [← Ny412.out] at ho3));have n0_:=Aside0.mk (Kd.R_lower ho3 (below_size Q46));have n1_:=Aside0.mk (below_step Q46 hb);clear HB;have HO414:=n0_;have HB:=n1_;clear n0_ n1_;clear hb ho3))
 go_loopg [3,4] k (fun kq v3 v4 w'=>∃ (x3_1 : List (S38)) (x4_1 : Int),v4 = .int .i64 x4_1 ∧ Aside0 (spec_l2Sum.l0 kq l0 x3_1 x4_1 = some r) ∧ Aside0 (kq ≤ k) ∧ Aside0 (Kd.R k38 38 w' w.heap.size (fun _=>True) v3 x3_1) ∧ Aside0 (Below w.heap.size w w'))
 case atStart=>exact ⟨(y412),(0),Q7,H',⟨Nat.le_refl _⟩,⟨by (with_reducible repeat (first|apply Kd.R_alloc|apply Kd.R_drewN|apply Kd.R_drew));exact HO414.out⟩,⟨Q46⟩⟩
 case round =>
  clear H'
  try clear p2
  obtain ⟨x3_1,x4_1,rfl,HA,HK1,HO_3,HB⟩:=hrel
  cases gk with
  | zero=>exact absurd HA.out (by simp [spec_l2Sum.l0])
  | succ k1 =>
   have H:=HA.out
   clear HA
   simp only [spec_l2Sum.l0] at H
   by_cases c4 : x4_1 < (l0.length : Int)
   ·rw [if_pos c4] at H
    have c4b0 : decide (x4_1 < (l0.length : Int)) = true:=decide_eq_true c4
    clear c4
    by_cases c5 : 0 ≤ x4_1
    ·rw [if_pos c5] at H
     have c5b0 : decide (0 ≤ x4_1) = true:=decide_eq_true c5
     clear c5
     replace H:=Option.bind_eq_some_iff.mp H
     obtain ⟨t416,A60,H⟩:=H
     replace H : (spec_l2Sum.l0 k1 l0 t416 (wrap64 (x4_1 + 1))) = some r:=H
     have A6:=Aside0.mk A60
     clear A60
     have H':=Aside0.mk H
     clear H
     have p415 : 0 ≤ (x4_1 : Int):=of_decide_eq_true Q8
     have q415 : x4_1 < (l0.length : Int):=of_decide_eq_true Q8
     obtain ⟨ad415,e415,hx415_0,hx415_1,hx415_2,hx415_3,hx415_4⟩:=at_T38 HR0.out x4_1 p415 q415
     cases e415
     replace hx415_0:=cb_ HB hx415_0
     replace hx415_1:=cb_ HB hx415_1
     replace hx415_2:=cb_ HB hx415_2
     replace hx415_3:=cb_ HB hx415_3
     replace hx415_4:=cb_ HB hx415_4
     replace p415:=eq_true p415
     replace q415:=eq_true q415
     obtain ⟨Ao7,co7,eo7⟩:=Kd.R_slice HO_3.out
     subst eo7
     go_wp2_with (first|((with_reducible refine gate_callee (f:=88) rfl ?_);refine goesL_ (some 19) rfl rfl Try.func88 Q2 rfl #[.slice Ao7 x3_1.length co7,.agg #[.int .i64 ((rd_T38 l0 x4_1).f0),.int .i64 ((rd_T38 l0 x4_1).f1),.int .i64 ((rd_T38 l0 x4_1).f2.f0),.int .i64 ((rd_T38 l0 x4_1).f2.f1),.int .i64 ((rd_T38 l0 x4_1).f3)]] rfl Q50 ?_;(with_reducible refine (spec_l2Put.calls k1 _ _ x3_1 ((rd_T38 l0 x4_1).f0) ((rd_T38 l0 x4_1).f1) ((rd_T38 l0 x4_1).f2.f0) ((rd_T38 l0 x4_1).f2.f1) ((rd_T38 l0 x4_1).f3) t416 _ ?side1 ?side2 A6.out).mono ?_);(case side1=>exact Q70);(case side2=>exact (Kd.R_reads' HO_3.out).2.1);rintro e w8 ⟨v417,rfl,ho0,hb⟩;refine ⟨_,rfl,?_⟩;have n0_:=Aside0.mk (Kd.R_elder' Q16 (Kd.R_base ho0) hb);have n1_:=Aside0.mk (Kd.R_lower (Kd.R_new' ho0 (Kd.R_lt Q16)) (below_size Q46));have n2_:=Aside0.mk (below_step Q46 hb);clear HO_3;clear HB;have HO_3:=n0_;have HO418:=n1_;have HB:=n2_;clear n0_ n1_ n2_;(try clear hb);(try clear hb2);(try clear hk);(try clear hi);(try clear ho0)))
     go_roundg k1
     case measure=>have:=HK1.out;omega
     case rel=>exact ⟨(t416),(wrap64 (x4_1 + 1)),Q7,H',⟨Q4⟩,⟨by (with_reducible repeat (first|apply Kd.R_alloc|apply Kd.R_drewN|apply Kd.R_drew));exact Kd.R_mono HO418.out (fun _ hk=>trivial)⟩,⟨Q46⟩⟩
    ·rw [if_neg c5] at H
     exact absurd H Q0
   ·rw [if_neg c4] at H
    have c4b0 : decide (x4_1 < (l0.length : Int)) = false:=decide_eq_false c4
    clear c4
    obtain ⟨y419,hy_⟩ : ∃ y_ : List (S38),y_ = (([] : List (S38))):=⟨_,rfl⟩
    replace H : (spec_l2Sum.l1 k1 x3_1 y419 0) = some r:=Q98
    have Ny419:=Aside0.mk hy_
    clear hy_
    have H':=Aside0.mk H
    clear H
    go_wp2_with (first|((with_reducible refine gate_dst (N:=20) rfl ?_);refine Kd.R_lit k38 _ 38 ?hg (N:=20) ?hd (xs:=([] : List (S38))) (inner:=[]) (ok:=fun _=>True) (okp:=fun _=>True) ?hr ?hp (fun _ hk=>hk) trivial (Below.refl _ _) (Nat.le_refl _) Q0 ?_;(case hd=>rfl);(case hg=>rfl);(case hr=>first|(go_simp;done)|(go_simp;rfl));(case hp=>exact (Reps.none _ _));intro v420 w9 ho10 hb hg_ hnew_;clear hg_ hnew_;(first|rw [← Ny419.out] at ho10|(simp only [Int.reduceToNat] at ho10;rw [← Ny419.out] at ho10));have n0_:=Aside0.mk (Kd.R_elder' Q16 (Kd.R_base ho10) hb);have n1_:=Aside0.mk (Kd.R_lower (Kd.R_new' ho10 (Kd.R_lt Q16)) (below_size Q46));have n2_:=Aside0.mk (below_step Q46 hb);clear HO_3;clear HB;have HO_3:=n0_;have HO421:=n1_;have HB:=n2_;clear n0_ n1_ n2_;clear hb ho10))
    go_loopg [5,6] k1 (fun kq v5 v6 w'=>∃ (x5_2 : List (S38)) (x6_2 : Int),v6 = .int .i64 x6_2 ∧ Aside0 (spec_l2Sum.l1 kq x3_1 x5_2 x6_2 = some r) ∧ Aside0 (kq ≤ k1) ∧ Aside0 (Kd.R k38 38 w' w.heap.size (fun k_=>some k_ ≠ (v5 : Value).ownBlock) u3 x3_1) ∧ Aside0 (Kd.R k38 38 w' w.heap.size (fun k_=>some k_ ≠ (u3 : Value).ownBlock) v5 x5_2) ∧ Aside0 (Below w.heap.size w w'))
    case atStart=>exact ⟨(y419),(0),Q7,H',⟨Nat.le_refl _⟩,⟨by (with_reducible repeat (first|apply Kd.R_alloc|apply Kd.R_drewN|apply Kd.R_drew));exact Kd.R_mono HO_3.out (fun _ hk=>hk.2)⟩,⟨by (with_reducible repeat (first|apply Kd.R_alloc|apply Kd.R_drewN|apply Kd.R_drew));exact Kd.R_mono HO421.out (fun _ hk=>hk.2)⟩,⟨Q46⟩⟩
    case round =>
     clear H'
     try clear p2
     try clear c4
     try clear c4b0
     try clear p4
     try clear q4
     try clear hx4
     try clear c5
     try clear c5b0
     try clear p6
     try clear c8
     try clear hx415_0
     try clear hx415_1
     try clear hx415_2
     try clear hx415_3
     try clear hx415_4
     try clear p2
     try clear p415
     try clear q415
     obtain ⟨x5_2,x6_2,rfl,HA,HK2,HO_3,HO_5,HB⟩:=hrel
     cases gk with
     | zero=>exact absurd HA.out (by simp [spec_l2Sum.l1])
     | succ k2 =>
      have H:=HA.out
      clear HA
      simp only [spec_l2Sum.l1] at H
      by_cases c11 : x6_2 < (x3_1.length : Int)
      ·rw [if_pos c11] at H
       have c11b0 : decide (x6_2 < (x3_1.length : Int)) = true:=decide_eq_true c11
       clear c11
       by_cases c12 : 0 ≤ x6_2
       ·rw [if_pos c12] at H
        have c12b0 : decide (0 ≤ x6_2) = true:=decide_eq_true c12
        clear c12
        by_cases c13 : ((rd_T38 x3_1 x6_2).f3) = 0
        ·rw [if_pos c13] at H
         have c13b0 : (((rd_T38 x3_1 x6_2).f3) == 0) = true:=beq_iff_eq.mpr c13
         have c13b1 : (((rd_T38 x3_1 x6_2).f3) != 0) = false:=bne_eq_false_iff_eq.mpr c13
         clear c13
         have H':=Aside0.mk H
         clear H
         obtain ⟨Ao14,co14,eo14⟩:=Kd.R_slice HO_3.out
         subst eo14
         have p422 : 0 ≤ (x6_2 : Int):=of_decide_eq_true Q8
         have q422 : x6_2 < (x3_1.length : Int):=of_decide_eq_true Q8
         obtain ⟨ad422,e422,hx422_0,hx422_1,hx422_2,hx422_3,hx422_4⟩:=at_T38 (Kd.R_reads' HO_3.out).2.2 x6_2 p422 q422
         cases e422
         replace p422:=eq_true p422
         replace q422:=eq_true q422
         go_wp2
         go_roundg k2
         case measure=>have:=HK1.out;have:=HK2.out;omega
         case rel=>exact ⟨(x5_2),(wrap64 (x6_2 + 1)),Q7,H',⟨by have:=HK1.out;have:=HK2.out;omega⟩,⟨Q16⟩,⟨Q13⟩,⟨Q46⟩⟩
        ·rw [if_neg c13] at H
         have c13b0 : (((rd_T38 x3_1 x6_2).f3) == 0) = false:=beq_eq_false_iff_ne.mpr c13
         have c13b1 : (((rd_T38 x3_1 x6_2).f3) != 0) = true:=bne_iff_ne.mpr c13
         by_cases c15 : x5_2.length < 3518437208883
         ·rw [if_pos c15] at H
          have LMc15:=Aside0.mk c15
          clear c15
          obtain ⟨y424,hy_⟩ : ∃ y_ : List (S38),y_ = (x5_2 ++ [(⟨(rd_T38 x3_1 x6_2).f0,(rd_T38 x3_1 x6_2).f1,(⟨(rd_T38 x3_1 x6_2).f2.f0,(rd_T38 x3_1 x6_2).f2.f1⟩ : S36),(rd_T38 x3_1 x6_2).f3⟩ : S38)]):=⟨_,rfl⟩
          replace H : (spec_l2Sum.l1 k2 x3_1 y424 (wrap64 (x6_2 + 1))) = some r:=Q98
          have Ny424:=Aside0.mk hy_
          clear hy_
          have H':=Aside0.mk H
          clear H
          obtain ⟨Ao16,co16,eo16⟩:=Kd.R_slice HO_3.out
          subst eo16
          have p422 : 0 ≤ (x6_2 : Int):=of_decide_eq_true Q8
          have q422 : x6_2 < (x3_1.length : Int):=of_decide_eq_true Q8
          obtain ⟨ad422,e422,hx422_0,hx422_1,hx422_2,hx422_3,hx422_4⟩:=at_T38 (Kd.R_reads' HO_3.out).2.2 x6_2 p422 q422
          cases e422
          replace p422:=eq_true p422
          replace q422:=eq_true q422
          have p423 : 0 ≤ (x6_2 : Int):=of_decide_eq_true Q8
          have q423 : x6_2 < (x3_1.length : Int):=of_decide_eq_true Q8
          obtain ⟨ad423,e423,hx423_0,hx423_1,hx423_2,hx423_3,hx423_4⟩:=at_T38 (Kd.R_reads' HO_3.out).2.2 x6_2 p423 q423
          obtain rfl : ad422 = ad423:=(by injection e423)
          replace p423:=eq_true p423
          replace q423:=eq_true q423
          go_wp2_with (first|((with_reducible refine gate_builtin (b:=.append) (xs:=#[.tmp 33,.tmp 38]) rfl ?_);at_builtin;refine Kd.R_append k38 (w0:=w) w.heap.size rfl (.tmp 33) (.tmp 38) 23 38 (.agg #[(.int .i64 0),(.int .i64 0),(.int .i64 0),(.int .i64 0),(.int .i64 0)]) 40 rfl Try.underlying23 info38 rfl Q1 (by omega) u5 x5_2 (⟨(rd_T38 x3_1 x6_2).f0,(rd_T38 x3_1 x6_2).f1,(⟨(rd_T38 x3_1 x6_2).f2.f0,(rd_T38 x3_1 x6_2).f2.f1⟩ : S36),(rd_T38 x3_1 x6_2).f3⟩ : S38) [.int .i64 ((rd_T38 x3_1 x6_2).f0),.int .i64 ((rd_T38 x3_1 x6_2).f1),.int .i64 ((rd_T38 x3_1 x6_2).f2.f0),.int .i64 ((rd_T38 x3_1 x6_2).f2.f1),.int .i64 ((rd_T38 x3_1 x6_2).f3)] (fun k_=>some k_ ≠ (.slice (some ad422) x3_1.length co16 : Value).ownBlock) (fun _=>False) rfl rfl ?aP (fun _ hk=>hk.elim) ?aF ?aO ?aB ?aS ?aL ?_;(case aP=>exact k38_mkM _ _ _ (⟨(rd_T38 x3_1 x6_2).f0,(rd_T38 x3_1 x6_2).f1,(⟨(rd_T38 x3_1 x6_2).f2.f0,(rd_T38 x3_1 x6_2).f2.f1⟩ : S36),(rd_T38 x3_1 x6_2).f3⟩ : S38));(case aB=>exact Q46);(case aF=>exact (fun k_ hk=>Kd.fresh' (Kd.R_lt Q16) k_ hk));(case aO=>exact Q13);(case aS=>exact (below_size Q46));(case aL=>have:=LMc15.out;omega);intro v425 w17 ho hb hg hat;rw [← Ny424.out] at ho;have n0_:=Aside0.mk (Kd.R_after (ok:=(fun _=>True)) (by (with_reducible repeat (first|apply Kd.R_alloc|apply Kd.R_drewN|apply Kd.R_drew));exact Kd.R_mono HO_3.out (fun _ hk=>⟨trivial,hk⟩)) hg hat);have n1_:=Aside0.mk (hb);have n2_:=Aside0.mk (ho);clear HO_3;clear HB;clear HO_5;have HO_3:=n0_;have HB:=n1_;have HO426:=n2_;clear n0_ n1_ n2_;clear ho hb hg hat))
          go_roundg k2
          case measure=>have:=HK1.out;have:=HK2.out;omega
          case rel=>exact ⟨(y424),(wrap64 (x6_2 + 1)),Q7,H',⟨by have:=HK1.out;have:=HK2.out;omega⟩,⟨by (with_reducible repeat (first|apply Kd.R_alloc|apply Kd.R_drewN|apply Kd.R_drew));exact Kd.R_mono HO_3.out (fun _ hk=>hk.2)⟩,⟨by (with_reducible repeat (first|apply Kd.R_alloc|apply Kd.R_drewN|apply Kd.R_drew));exact HO426.out⟩,⟨Q46⟩⟩
         ·rw [if_neg c15] at H
          exact absurd H Q0
       ·rw [if_neg c12] at H
        exact absurd H Q0
      ·rw [if_neg c11] at H
       have c11b0 : decide (x6_2 < (x3_1.length : Int)) = false:=decide_eq_false c11
       clear c11
       obtain rfl:=Option.some.inj H
       obtain ⟨Ao18,co18,eo18⟩:=Kd.R_slice HO_3.out
       subst eo18
       go_wp2
       go_ret
       exact ⟨_,Q11,by (with_reducible repeat (first|apply Kd.R_alloc|apply Kd.R_drewN|apply Kd.R_drew));exact Kd.R_mono HO_5.out (fun _ hk=>trivial),Q46⟩
def spec_BatchOf.f (k : Nat) (l0 : List (S38)) : Option ((List (S38))) := (spec_RowsOk.f k l0).bind fun t427 => (if t427 = true then ((spec_l2Sum.f k l0).bind fun t428 => ((spec_l2Fit.f k t428).bind fun t431 => (some t431))) else (some (([] : List (S38)))))
theorem spec_BatchOf.mono : ∀ a0 k,LeO (spec_BatchOf.f k a0) (spec_BatchOf.f (k + 1) a0):=by
 intro a0 k
 unfold spec_BatchOf.f
 repeat' first
   | (with_reducible exact spec_RowsOk.mono _ _)
   | (with_reducible exact spec_l2Fit.mono _ _)
   | (with_reducible exact spec_l2Sum.mono _ _)
   | (with_reducible exact LeO.refl _)
   | (with_reducible exact LeO.none _)
   | (with_reducible refine LeO.ite ?_ ?_)
   | (with_reducible refine LeO.bind ?_ (fun _=>?_))
   | exact spec_RowsOk.mono _ _
   | exact spec_l2Fit.mono _ _
   | exact spec_l2Sum.mono _ _
   | exact LeO.none _
   | refine LeO.ite ?_ ?_
   | refine LeO.bind ?_ (fun _=>?_)
set_option maxHeartbeats 8000000 in
set_option maxRecDepth 100000 in
theorem spec_BatchOf.calls (k : Nat) (A0 : Option Addr) (c0 : Nat) (l0 : List (S38)) (r : List (S38)) (w : World) (hr0 : Kd.C k38 w A0 l0.length l0) (hc0 : l0.length ≤ c0) (h : spec_BatchOf.f k l0 = some r) :
  Calls Try.prog 27 #[.slice A0 l0.length c0] w fun e w'=>∃ v0_ : Value,e = .returned (v0_) ∧ Kd.R k38 38 w' w.heap.size (fun _=>True) v0_ r ∧ Below w.heap.size w w':=by
 have HR0:=Aside0.mk hr0
 have HC0:=Aside0.mk hc0
 clear hr0 hc0
 have HB:=Aside0.mk (Below.refl w.heap.size w)
 have H : ((spec_RowsOk.f k l0).bind fun t427=>(if t427 = true then ((spec_l2Sum.f k l0).bind fun t428=>((spec_l2Fit.f k t428).bind fun t431=>(some t431))) else (some (([] : List (S38)))))) = some r:=h
 clear h
 replace H:=Option.bind_eq_some_iff.mp H
 obtain ⟨t427,A20,H⟩:=H
 replace H : (if t427 = true then ((spec_l2Sum.f k l0).bind fun t428=>((spec_l2Fit.f k t428).bind fun t431=>(some t431))) else (some (([] : List (S38))))) = some r:=H
 have A2:=Aside0.mk A20
 clear A20
 by_cases c3 : t427 = true
 ·subst c3
  have H1 : ((spec_l2Sum.f k l0).bind fun t428=>((spec_l2Fit.f k t428).bind fun t431=>(some t431))) = some r:=by rw [if_pos rfl] at H;exact H
  clear H
  have H:=H1
  clear H1
  replace H:=Option.bind_eq_some_iff.mp H
  obtain ⟨t428,A40,H⟩:=H
  replace H : ((spec_l2Fit.f k t428).bind fun t431=>(some t431)) = some r:=H
  have A4:=Aside0.mk A40
  clear A40
  replace H:=Option.bind_eq_some_iff.mp H
  obtain ⟨t431,A50,H⟩:=H
  replace H : (some t431) = some r:=H
  have A5:=Aside0.mk A50
  clear A50
  obtain rfl:=Option.some.inj H
  go_enter Try.func27,Try.ntmps27
  go_wp2_with (first|((with_reducible refine gate_callee (f:=20) rfl ?_);refine goesL_ (some 4) rfl rfl Try.func20 Q2 rfl #[.slice A0 l0.length c0] rfl Q50 ?_;(with_reducible refine (spec_RowsOk.calls k _ _ l0 true _ ?side1 ?side2 A2.out).mono ?_);(case side1=>exact Q55);(case side2=>exact HC0.out);rintro e w6 ⟨rfl,hb⟩;refine ⟨_,rfl,?_⟩;have n0_:=Aside0.mk (below_step Q46 hb);clear HB;have HB:=n0_;clear n0_;(try clear hb);(try clear hb2);(try clear hk);(try clear hi))|((with_reducible refine gate_callee (f:=58) rfl ?_);refine goesL_ (some 8) rfl rfl Try.func58 Q2 rfl #[.slice A0 l0.length c0] rfl Q50 ?_;(with_reducible refine (spec_l2Sum.calls k _ _ l0 t428 _ ?side1 ?side2 A4.out).mono ?_);(case side1=>exact Q73);(case side2=>exact HC0.out);rintro e w7 ⟨v429,rfl,ho0,hb⟩;refine ⟨_,rfl,?_⟩;have n0_:=Aside0.mk (Kd.R_lower ho0 (below_size Q46));have n1_:=Aside0.mk (below_step Q46 hb);clear HB;have HO430:=n0_;have HB:=n1_;clear n0_ n1_;(try clear hb);(try clear hb2);(try clear hk);(try clear hi);(try clear ho0);obtain ⟨Ao8,co8,eo8⟩:=Kd.R_slice HO430.out;subst eo8)|((with_reducible refine gate_callee (f:=57) rfl ?_);refine goesL_ (some 9) rfl rfl Try.func57 Q2 rfl #[.slice Ao8 t428.length co8] rfl Q50 ?_;(with_reducible refine (spec_l2Fit.calls k (fun k_=>some k_ = (.slice Ao8 t428.length co8 : Value).ownBlock) (.slice Ao8 t428.length co8) t428 t431 w _ ?side1 ?side2 A5.out).mono ?_);(case side1=>exact Q46);(case side2=>exact Kd.R_tight rfl HO430.out);rintro e w9 ⟨v432,rfl,ho0,hb,hkp⟩;refine ⟨_,rfl,?_⟩;have n0_:=Aside0.mk (Kd.R_mono (ok':=fun k_=>True) ho0 (fun k_ hk_=>trivial));have n1_:=Aside0.mk (hb);clear HB;clear HO430;have HO433:=n0_;have HB:=n1_;clear n0_ n1_;(try clear hb);(try clear hkp);(try clear ho0)))
  go_ret
  exact ⟨_,Q11,by (with_reducible repeat (first|apply Kd.R_alloc|apply Kd.R_drewN|apply Kd.R_drew));exact HO433.out,Q46⟩
 ·replace c3:=Bool.eq_false_iff.mpr c3
  subst c3
  have H1 : (some (([] : List (S38)))) = some r:=by rw [if_neg (show ¬ (false = true) by decide)] at H;exact H
  clear H
  have H:=H1
  clear H1
  obtain ⟨y434,hy_⟩ : ∃ y_ : List (S38),y_ = (([] : List (S38))):=⟨_,rfl⟩
  replace H : (some y434) = some r:=Q98
  have Ny434:=Aside0.mk hy_
  clear hy_
  obtain rfl:=Option.some.inj H
  go_enter Try.func27,Try.ntmps27
  go_wp2_with (first|((with_reducible refine gate_callee (f:=20) rfl ?_);refine goesL_ (some 4) rfl rfl Try.func20 Q2 rfl #[.slice A0 l0.length c0] rfl Q50 ?_;(with_reducible refine (spec_RowsOk.calls k _ _ l0 false _ ?side1 ?side2 A2.out).mono ?_);(case side1=>exact Q55);(case side2=>exact HC0.out);rintro e w10 ⟨rfl,hb⟩;refine ⟨_,rfl,?_⟩;have n0_:=Aside0.mk (below_step Q46 hb);clear HB;have HB:=n0_;clear n0_;(try clear hb);(try clear hb2);(try clear hk);(try clear hi))|((with_reducible refine gate_dst (N:=6) rfl ?_);refine Kd.R_lit k38 _ 38 ?hg (N:=6) ?hd (xs:=([] : List (S38))) (inner:=[]) (ok:=fun _=>True) (okp:=fun _=>True) ?hr ?hp (fun _ hk=>hk) trivial (Below.refl _ _) (Nat.le_refl _) Q0 ?_;(case hd=>rfl);(case hg=>rfl);(case hr=>first|(go_simp;done)|(go_simp;rfl));(case hp=>exact (Reps.none _ _));intro v435 w11 ho12 hb hg_ hnew_;clear hg_ hnew_;(first|rw [← Ny434.out] at ho12|(simp only [Int.reduceToNat] at ho12;rw [← Ny434.out] at ho12));have n0_:=Aside0.mk (Kd.R_lower ho12 (below_size Q46));have n1_:=Aside0.mk (below_step Q46 hb);clear HB;have HO436:=n0_;have HB:=n1_;clear n0_ n1_;clear hb ho12))
  go_ret
  exact ⟨_,Q11,by (with_reducible repeat (first|apply Kd.R_alloc|apply Kd.R_drewN|apply Kd.R_drew));exact HO436.out,Q46⟩
def laws_FnBatchOf.j0 : Nat → List (S38) → List (S38) → Bool → Option (Bool)
 | 0, _, _, _ => none
 | k + 1, x3, x4, x28 => if x28 = true then ((spec_BatchOf.f k x3).bind fun t450 => ((laws_lwRows.f k x4 t450).bind fun t453 => (if t453 = true then ((impl_RowsOk.f k x3).bind fun t454 => ((spec_RowsOk.f k x3).bind fun t455 => (some (t454 == t455)))) else (some false)))) else ((impl_BatchOk.f k x4).bind fun t456 => (if t456 = true then ((laws_lwSame.f k x3 x4 ([] : List (S36))).bind fun t457 => (some t457)) else (some false)))
noncomputable def laws_FnBatchOf.f (k : Nat) (l0 : List Int) : Option (Bool) := if (l0.length : Int) > 1048576 then (some true) else ((spec_DrawBatchOf.f k l0).bind fun t437 => ((impl_BatchOf.f k t437).bind fun t440 => ((spec_BatchOf.f k t437).bind fun t443 => ((laws_lwRows.f k t440 t443).bind fun t446 => (if t446 = true then ((spec_RowsOk.f k t437).bind fun t447 => (if t447 = true then ((impl_RowsOk.f k t437).bind fun t448 => ((spec_RowsOk.f k t437).bind fun t449 => (laws_FnBatchOf.j0 k t437 t440 (t448 != t449)))) else (laws_FnBatchOf.j0 k t437 t440 true))) else (laws_FnBatchOf.j0 k t437 t440 true))))))
theorem laws_FnBatchOf.mono_l : ∀ k,(∀ y0 y1 y2,LeO (laws_FnBatchOf.j0 k y0 y1 y2) (laws_FnBatchOf.j0 (k + 1) y0 y1 y2))
 | 0=>fun _ _ _ r h=>by simp [laws_FnBatchOf.j0] at h
 | k + 1=>by
  have ih0:=laws_FnBatchOf.mono_l k
  ·intro y0 y1 y2
   unfold laws_FnBatchOf.j0
   repeat' first
   | (with_reducible exact ih0 _ _ _)
   | (with_reducible exact impl_BatchOf.mono _ _)
   | (with_reducible exact impl_BatchOk.mono _ _)
   | (with_reducible exact impl_RowsOk.mono _ _)
   | (with_reducible exact laws_lwRows.mono _ _ _)
   | (with_reducible exact laws_lwSame.mono _ _ _ _)
   | (with_reducible exact spec_BatchOf.mono _ _)
   | (with_reducible exact spec_DrawBatchOf.mono _ _)
   | (with_reducible exact spec_RowsOk.mono _ _)
   | (with_reducible exact LeO.refl _)
   | (with_reducible exact LeO.none _)
   | (with_reducible refine LeO.ite ?_ ?_)
   | (with_reducible refine LeO.bind ?_ (fun _=>?_))
   | exact ih0 _ _ _
   | exact impl_BatchOf.mono _ _
   | exact impl_BatchOk.mono _ _
   | exact impl_RowsOk.mono _ _
   | exact laws_lwRows.mono _ _ _
   | exact laws_lwSame.mono _ _ _ _
   | exact spec_BatchOf.mono _ _
   | exact spec_DrawBatchOf.mono _ _
   | exact spec_RowsOk.mono _ _
   | exact LeO.none _
   | refine LeO.ite ?_ ?_
   | refine LeO.bind ?_ (fun _=>?_)
theorem laws_FnBatchOf.mono : ∀ a0 k,LeO (laws_FnBatchOf.f k a0) (laws_FnBatchOf.f (k + 1) a0):=by
 intro a0 k
 have ih0:=laws_FnBatchOf.mono_l k
 unfold laws_FnBatchOf.f
 repeat' first
   | (with_reducible exact ih0 _ _ _)
   | (with_reducible exact impl_BatchOf.mono _ _)
   | (with_reducible exact impl_BatchOk.mono _ _)
   | (with_reducible exact impl_RowsOk.mono _ _)
   | (with_reducible exact laws_lwRows.mono _ _ _)
   | (with_reducible exact laws_lwSame.mono _ _ _ _)
   | (with_reducible exact spec_BatchOf.mono _ _)
   | (with_reducible exact spec_DrawBatchOf.mono _ _)
   | (with_reducible exact spec_RowsOk.mono _ _)
   | (with_reducible exact LeO.refl _)
   | (with_reducible exact LeO.none _)
   | (with_reducible refine LeO.ite ?_ ?_)
   | (with_reducible refine LeO.bind ?_ (fun _=>?_))
   | exact ih0 _ _ _
   | exact impl_BatchOf.mono _ _
   | exact impl_BatchOk.mono _ _
   | exact impl_RowsOk.mono _ _
   | exact laws_lwRows.mono _ _ _
   | exact laws_lwSame.mono _ _ _ _
   | exact spec_BatchOf.mono _ _
   | exact spec_DrawBatchOf.mono _ _
   | exact spec_RowsOk.mono _ _
   | exact LeO.none _
   | refine LeO.ite ?_ ?_
   | refine LeO.bind ?_ (fun _=>?_)
set_option maxHeartbeats 8000000 in
set_option maxRecDepth 100000 in
theorem laws_FnBatchOf.calls (k : Nat) (A0 : Option Addr) (c0 : Nat) (l0 : List Int) (r : Bool) (w : World) (hr0 : Kd.C (Kd.int .u8) w A0 l0.length l0) (hc0 : l0.length ≤ c0) (h : laws_FnBatchOf.f k l0 = some r) (hr_ : r = true) :
  Calls Try.prog 12 #[.slice A0 l0.length c0] w fun e w'=>e = .returned (.bool r) ∧ Below w.heap.size w w':=by
 have HR0:=Aside0.mk hr0
 have HC0:=Aside0.mk hc0
 clear hr0 hc0
 have HB:=Aside0.mk (Below.refl w.heap.size w)
 have hq_:=Aside0.mk hr_
 clear hr_
 have H : (if (l0.length : Int) > 1048576 then (some true) else ((spec_DrawBatchOf.f k l0).bind fun t437=>((impl_BatchOf.f k t437).bind fun t440=>((spec_BatchOf.f k t437).bind fun t443=>((laws_lwRows.f k t440 t443).bind fun t446=>(if t446 = true then ((spec_RowsOk.f k t437).bind fun t447=>(if t447 = true then ((impl_RowsOk.f k t437).bind fun t448=>((spec_RowsOk.f k t437).bind fun t449=>(laws_FnBatchOf.j0 k t437 t440 (t448 != t449)))) else (laws_FnBatchOf.j0 k t437 t440 true))) else (laws_FnBatchOf.j0 k t437 t440 true))))))) = some r:=h
 clear h
 by_cases c2 : (l0.length : Int) > 1048576
 ·rw [if_pos c2] at H
  have c2b0 : decide (1048576 < (l0.length : Int)) = true:=decide_eq_true c2
  have c2b1 : decide (1048576 < l0.length) = true:=decide_eq_true (by omega)
  clear c2
  obtain rfl:=Option.some.inj H
  go_enter Try.func12,Try.ntmps12
  go_wp2
  go_ret
  exact ⟨Q44,Q46⟩
 ·rw [if_neg c2] at H
  have c2b0 : decide (1048576 < (l0.length : Int)) = false:=decide_eq_false c2
  have c2b1 : decide (1048576 < l0.length) = false:=decide_eq_false (by omega)
  clear c2
  replace H:=Option.bind_eq_some_iff.mp H
  obtain ⟨t437,A30,H⟩:=H
  replace H : ((impl_BatchOf.f k t437).bind fun t440=>((spec_BatchOf.f k t437).bind fun t443=>((laws_lwRows.f k t440 t443).bind fun t446=>(if t446 = true then ((spec_RowsOk.f k t437).bind fun t447=>(if t447 = true then ((impl_RowsOk.f k t437).bind fun t448=>((spec_RowsOk.f k t437).bind fun t449=>(laws_FnBatchOf.j0 k t437 t440 (t448 != t449)))) else (laws_FnBatchOf.j0 k t437 t440 true))) else (laws_FnBatchOf.j0 k t437 t440 true))))) = some r:=H
  have A3:=Aside0.mk A30
  clear A30
  replace H:=Option.bind_eq_some_iff.mp H
  obtain ⟨t440,A40,H⟩:=H
  replace H : ((spec_BatchOf.f k t437).bind fun t443=>((laws_lwRows.f k t440 t443).bind fun t446=>(if t446 = true then ((spec_RowsOk.f k t437).bind fun t447=>(if t447 = true then ((impl_RowsOk.f k t437).bind fun t448=>((spec_RowsOk.f k t437).bind fun t449=>(laws_FnBatchOf.j0 k t437 t440 (t448 != t449)))) else (laws_FnBatchOf.j0 k t437 t440 true))) else (laws_FnBatchOf.j0 k t437 t440 true)))) = some r:=H
  have A4:=Aside0.mk A40
  clear A40
  have HC5:=Aside0.mk H
  clear H
  go_enter Try.func12,Try.ntmps12
  go_upto_region 5 with (first|((with_reducible refine gate_callee (f:=16) rfl ?_);refine goesL_ (some 9) rfl rfl Try.func16 Q2 rfl #[.slice A0 l0.length c0] rfl Q50 ?_;(with_reducible refine (spec_DrawBatchOf.calls k _ _ l0 t437 _ ?side1 ?side2 A3.out).mono ?_);(case side1=>exact Q55);(case side2=>exact HC0.out);rintro e w6 ⟨v438,rfl,ho0,hb⟩;refine ⟨_,rfl,?_⟩;have n0_:=Aside0.mk (Kd.R_lower ho0 (below_size Q46));have n1_:=Aside0.mk (below_step Q46 hb);clear HB;have HO439:=n0_;have HB:=n1_;clear n0_ n1_;(try clear hb);(try clear hb2);(try clear hk);(try clear hi);(try clear ho0);obtain ⟨Ao7,co7,eo7⟩:=Kd.R_slice HO439.out;subst eo7)|((with_reducible refine gate_callee (f:=26) rfl ?_);refine goesL_ (some 11) rfl rfl Try.func26 Q2 rfl #[.slice Ao7 t437.length co7] rfl Q50 ?_;(with_reducible refine (impl_BatchOf.calls k _ _ t437 t440 _ ?side1 ?side2 A4.out).mono ?_);(case side1=>exact Q74);(case side2=>exact (Kd.R_reads' HO439.out).2.1);rintro e w8 ⟨v441,rfl,ho0,hb⟩;refine ⟨_,rfl,?_⟩;have n0_:=Aside0.mk (Kd.R_elder' Q24 (Kd.R_base ho0) hb);have n1_:=Aside0.mk (Kd.R_lower (Kd.R_new' ho0 (Kd.R_lt Q24)) (below_size Q46));have n2_:=Aside0.mk (below_step Q46 hb);clear HO439;clear HB;have HO439:=n0_;have HO442:=n1_;have HB:=n2_;clear n0_ n1_ n2_;(try clear hb);(try clear hb2);(try clear hk);(try clear hi);(try clear ho0)))
  (try simp only [Act.put,sA_,sZ_,sS_])
  go_cut [28] (fun v28 wc=>∃ (kq : Nat) (x28_4 : Bool),v28 = .bool x28_4 ∧ Aside0 (laws_FnBatchOf.j0 kq t437 t440 x28_4 = some r) ∧ Aside0 (kq ≤ k) ∧ Aside0 (Kd.R k38 38 wc w.heap.size (fun k_=>some k_ ≠ (v441 : Value).ownBlock) (.slice Ao7 t437.length co7) t437) ∧ Aside0 (Kd.R k38 38 wc w.heap.size (fun k_=>some k_ ≠ ((.slice Ao7 t437.length co7) : Value).ownBlock) v441 t440) ∧ Aside0 (Below w.heap.size w wc))
  case first =>
   have H:=HC5.out
   clear HC5
   replace H:=Option.bind_eq_some_iff.mp H
   obtain ⟨t443,A90,H⟩:=H
   replace H : ((laws_lwRows.f k t440 t443).bind fun t446=>(if t446 = true then ((spec_RowsOk.f k t437).bind fun t447=>(if t447 = true then ((impl_RowsOk.f k t437).bind fun t448=>((spec_RowsOk.f k t437).bind fun t449=>(laws_FnBatchOf.j0 k t437 t440 (t448 != t449)))) else (laws_FnBatchOf.j0 k t437 t440 true))) else (laws_FnBatchOf.j0 k t437 t440 true))) = some r:=H
   have A9:=Aside0.mk A90
   clear A90
   replace H:=Option.bind_eq_some_iff.mp H
   obtain ⟨t446,A100,H⟩:=H
   replace H : (if t446 = true then ((spec_RowsOk.f k t437).bind fun t447=>(if t447 = true then ((impl_RowsOk.f k t437).bind fun t448=>((spec_RowsOk.f k t437).bind fun t449=>(laws_FnBatchOf.j0 k t437 t440 (t448 != t449)))) else (laws_FnBatchOf.j0 k t437 t440 true))) else (laws_FnBatchOf.j0 k t437 t440 true)) = some r:=H
   have A10:=Aside0.mk A100
   clear A100
   by_cases c11 : t446 = true
   ·subst c11
    have H1 : ((spec_RowsOk.f k t437).bind fun t447=>(if t447 = true then ((impl_RowsOk.f k t437).bind fun t448=>((spec_RowsOk.f k t437).bind fun t449=>(laws_FnBatchOf.j0 k t437 t440 (t448 != t449)))) else (laws_FnBatchOf.j0 k t437 t440 true))) = some r:=by rw [if_pos rfl] at H;exact H
    clear H
    have H:=H1
    clear H1
    replace H:=Option.bind_eq_some_iff.mp H
    obtain ⟨t447,A120,H⟩:=H
    replace H : (if t447 = true then ((impl_RowsOk.f k t437).bind fun t448=>((spec_RowsOk.f k t437).bind fun t449=>(laws_FnBatchOf.j0 k t437 t440 (t448 != t449)))) else (laws_FnBatchOf.j0 k t437 t440 true)) = some r:=H
    have A12:=Aside0.mk A120
    clear A120
    by_cases c13 : t447 = true
    ·subst c13
     have H1 : ((impl_RowsOk.f k t437).bind fun t448=>((spec_RowsOk.f k t437).bind fun t449=>(laws_FnBatchOf.j0 k t437 t440 (t448 != t449)))) = some r:=by rw [if_pos rfl] at H;exact H
     clear H
     have H:=H1
     clear H1
     replace H:=Option.bind_eq_some_iff.mp H
     obtain ⟨t448,A140,H⟩:=H
     replace H : ((spec_RowsOk.f k t437).bind fun t449=>(laws_FnBatchOf.j0 k t437 t440 (t448 != t449))) = some r:=H
     have A14:=Aside0.mk A140
     clear A140
     replace H:=Option.bind_eq_some_iff.mp H
     obtain ⟨t449,A150,H⟩:=H
     replace H : (laws_FnBatchOf.j0 k t437 t440 (t448 != t449)) = some r:=H
     have A15:=Aside0.mk A150
     clear A150
     have H':=Aside0.mk H
     clear H
     go_wp2_with (first|((with_reducible refine gate_callee (f:=27) rfl ?_);refine goesL_ (some 14) rfl rfl Try.func27 Q2 rfl #[.slice Ao7 t437.length co7] rfl Q50 ?_;(with_reducible refine (spec_BatchOf.calls k _ _ t437 t443 _ ?side1 ?side2 A9.out).mono ?_);(case side1=>exact Q74);(case side2=>exact (Kd.R_reads' HO439.out).2.1);rintro e w16 ⟨v444,rfl,ho0,hb⟩;refine ⟨_,rfl,?_⟩;have n0_:=Aside0.mk (Kd.R_elder' Q24 (Kd.R_base ho0) hb);have n1_:=Aside0.mk (Kd.R_elder' Q25 (Kd.R_base ho0) hb);have n2_:=Aside0.mk (Kd.R_lower (Kd.R_new' (Kd.R_new' ho0 (Kd.R_lt Q24)) (Kd.R_lt Q25)) (below_size Q46));have n3_:=Aside0.mk (below_step Q46 hb);clear HO439;clear HO442;clear HB;have HO439:=n0_;have HO442:=n1_;have HO445:=n2_;have HB:=n3_;clear n0_ n1_ n2_ n3_;(try clear hb);(try clear hb2);(try clear hk);(try clear hi);(try clear ho0);obtain ⟨Ao17,co17,eo17⟩:=Kd.R_slice HO442.out;subst eo17;obtain ⟨Ao18,co18,eo18⟩:=Kd.R_slice HO445.out;subst eo18)|((with_reducible refine gate_callee (f:=18) rfl ?_);refine goesL_ (some 15) rfl rfl Try.func18 Q2 rfl #[.slice Ao17 t440.length co17,.slice Ao18 t443.length co18] rfl Q50 ?_;(with_reducible refine (laws_lwRows.calls k _ _ t440 _ _ t443 true _ ?side1 ?side2 ?side3 ?side4 A10.out).mono ?_);(case side1=>exact Q75);(case side2=>exact (Kd.R_reads' HO442.out).2.1);(case side3=>exact Q76);(case side4=>exact (Kd.R_reads' HO445.out).2.1);rintro e w' ⟨rfl,⟨nd,rfl⟩⟩;refine ⟨_,rfl,?_⟩)|(go_at_call 20;(with_reducible refine (spec_RowsOk.calls k _ _ t437 true _ ?side1 ?side2 A12.out).mono ?_);(case side1=>exact Q74);(case side2=>exact (Kd.R_reads' HO439.out).2.1);rintro e w19 ⟨rfl,hb⟩;have n0_:=Aside0.mk (Kd.R_below Q24 hb);have n1_:=Aside0.mk (Kd.R_below Q25 hb);have n2_:=Aside0.mk (Kd.R_below Q26 hb);have n3_:=Aside0.mk (below_step Q46 hb);clear HO439;clear HO442;clear HO445;clear HB;have HO439:=n0_;have HO442:=n1_;have HO445:=n2_;have HB:=n3_;clear n0_ n1_ n2_ n3_;(try clear hb);(try clear hb2);(try clear hk);(try clear hi);clear A12)|(go_at_call 39;(with_reducible refine (impl_RowsOk.calls k _ _ t437 t448 _ ?side1 ?side2 A14.out).mono ?_);(case side1=>exact Q74);(case side2=>exact (Kd.R_reads' HO439.out).2.1);rintro e w20 ⟨rfl,hb⟩;have n0_:=Aside0.mk (Kd.R_below Q24 hb);have n1_:=Aside0.mk (Kd.R_below Q25 hb);have n2_:=Aside0.mk (Kd.R_below Q26 hb);have n3_:=Aside0.mk (below_step Q46 hb);clear HO439;clear HO442;clear HO445;clear HB;have HO439:=n0_;have HO442:=n1_;have HO445:=n2_;have HB:=n3_;clear n0_ n1_ n2_ n3_;(try clear hb);(try clear hb2);(try clear hk);(try clear hi))|(go_at_call 20;(with_reducible refine (spec_RowsOk.calls k _ _ t437 t449 _ ?side1 ?side2 A15.out).mono ?_);(case side1=>exact Q74);(case side2=>exact (Kd.R_reads' HO439.out).2.1);rintro e w21 ⟨rfl,hb⟩;have n0_:=Aside0.mk (Kd.R_below Q24 hb);have n1_:=Aside0.mk (Kd.R_below Q25 hb);have n2_:=Aside0.mk (Kd.R_below Q26 hb);have n3_:=Aside0.mk (below_step Q46 hb);clear HO439;clear HO442;clear HO445;clear HB;have HO439:=n0_;have HO442:=n1_;have HO445:=n2_;have HB:=n3_;clear n0_ n1_ n2_ n3_;(try clear hb);(try clear hb2);(try clear hk);(try clear hi)))
     go_meet
     case rel=>exact ⟨_,((t448 != t449)),Q7,H',⟨Q5⟩,⟨Q48⟩,⟨Q49⟩,⟨Q46⟩⟩
    ·replace c13:=Bool.eq_false_iff.mpr c13
     subst c13
     have H1 : (laws_FnBatchOf.j0 k t437 t440 true) = some r:=by rw [if_neg (show ¬ (false = true) by decide)] at H;exact H
     clear H
     have H:=H1
     clear H1
     have H':=Aside0.mk H
     clear H
     go_wp2_with (first|((with_reducible refine gate_callee (f:=27) rfl ?_);refine goesL_ (some 14) rfl rfl Try.func27 Q2 rfl #[.slice Ao7 t437.length co7] rfl Q50 ?_;(with_reducible refine (spec_BatchOf.calls k _ _ t437 t443 _ ?side1 ?side2 A9.out).mono ?_);(case side1=>exact Q74);(case side2=>exact (Kd.R_reads' HO439.out).2.1);rintro e w22 ⟨v444,rfl,ho0,hb⟩;refine ⟨_,rfl,?_⟩;have n0_:=Aside0.mk (Kd.R_elder' Q24 (Kd.R_base ho0) hb);have n1_:=Aside0.mk (Kd.R_elder' Q25 (Kd.R_base ho0) hb);have n2_:=Aside0.mk (Kd.R_lower (Kd.R_new' (Kd.R_new' ho0 (Kd.R_lt Q24)) (Kd.R_lt Q25)) (below_size Q46));have n3_:=Aside0.mk (below_step Q46 hb);clear HO439;clear HO442;clear HB;have HO439:=n0_;have HO442:=n1_;have HO445:=n2_;have HB:=n3_;clear n0_ n1_ n2_ n3_;(try clear hb);(try clear hb2);(try clear hk);(try clear hi);(try clear ho0);obtain ⟨Ao23,co23,eo23⟩:=Kd.R_slice HO442.out;subst eo23;obtain ⟨Ao24,co24,eo24⟩:=Kd.R_slice HO445.out;subst eo24)|((with_reducible refine gate_callee (f:=18) rfl ?_);refine goesL_ (some 15) rfl rfl Try.func18 Q2 rfl #[.slice Ao23 t440.length co23,.slice Ao24 t443.length co24] rfl Q50 ?_;(with_reducible refine (laws_lwRows.calls k _ _ t440 _ _ t443 true _ ?side1 ?side2 ?side3 ?side4 A10.out).mono ?_);(case side1=>exact Q75);(case side2=>exact (Kd.R_reads' HO442.out).2.1);(case side3=>exact Q76);(case side4=>exact (Kd.R_reads' HO445.out).2.1);rintro e w' ⟨rfl,⟨nd,rfl⟩⟩;refine ⟨_,rfl,?_⟩)|(go_at_call 20;(with_reducible refine (spec_RowsOk.calls k _ _ t437 false _ ?side1 ?side2 A12.out).mono ?_);(case side1=>exact Q74);(case side2=>exact (Kd.R_reads' HO439.out).2.1);rintro e w25 ⟨rfl,hb⟩;have n0_:=Aside0.mk (Kd.R_below Q24 hb);have n1_:=Aside0.mk (Kd.R_below Q25 hb);have n2_:=Aside0.mk (Kd.R_below Q26 hb);have n3_:=Aside0.mk (below_step Q46 hb);clear HO439;clear HO442;clear HO445;clear HB;have HO439:=n0_;have HO442:=n1_;have HO445:=n2_;have HB:=n3_;clear n0_ n1_ n2_ n3_;(try clear hb);(try clear hb2);(try clear hk);(try clear hi)))
     go_meet
     case rel=>exact ⟨_,(true),Q7,H',⟨Q5⟩,⟨Q48⟩,⟨Q49⟩,⟨Q46⟩⟩
   ·replace c11:=Bool.eq_false_iff.mpr c11
    subst c11
    have H1 : (laws_FnBatchOf.j0 k t437 t440 true) = some r:=by rw [if_neg (show ¬ (false = true) by decide)] at H;exact H
    clear H
    have H:=H1
    clear H1
    have H':=Aside0.mk H
    clear H
    go_wp2_with (first|((with_reducible refine gate_callee (f:=27) rfl ?_);refine goesL_ (some 14) rfl rfl Try.func27 Q2 rfl #[.slice Ao7 t437.length co7] rfl Q50 ?_;(with_reducible refine (spec_BatchOf.calls k _ _ t437 t443 _ ?side1 ?side2 A9.out).mono ?_);(case side1=>exact Q74);(case side2=>exact (Kd.R_reads' HO439.out).2.1);rintro e w26 ⟨v444,rfl,ho0,hb⟩;refine ⟨_,rfl,?_⟩;have n0_:=Aside0.mk (Kd.R_elder' Q24 (Kd.R_base ho0) hb);have n1_:=Aside0.mk (Kd.R_elder' Q25 (Kd.R_base ho0) hb);have n2_:=Aside0.mk (Kd.R_lower (Kd.R_new' (Kd.R_new' ho0 (Kd.R_lt Q24)) (Kd.R_lt Q25)) (below_size Q46));have n3_:=Aside0.mk (below_step Q46 hb);clear HO439;clear HO442;clear HB;have HO439:=n0_;have HO442:=n1_;have HO445:=n2_;have HB:=n3_;clear n0_ n1_ n2_ n3_;(try clear hb);(try clear hb2);(try clear hk);(try clear hi);(try clear ho0);obtain ⟨Ao27,co27,eo27⟩:=Kd.R_slice HO442.out;subst eo27;obtain ⟨Ao28,co28,eo28⟩:=Kd.R_slice HO445.out;subst eo28)|((with_reducible refine gate_callee (f:=18) rfl ?_);refine goesL_ (some 15) rfl rfl Try.func18 Q2 rfl #[.slice Ao27 t440.length co27,.slice Ao28 t443.length co28] rfl Q50 ?_;(with_reducible refine (laws_lwRows.calls k _ _ t440 _ _ t443 false _ ?side1 ?side2 ?side3 ?side4 A10.out).mono ?_);(case side1=>exact Q75);(case side2=>exact (Kd.R_reads' HO442.out).2.1);(case side3=>exact Q76);(case side4=>exact (Kd.R_reads' HO445.out).2.1);rintro e w' ⟨rfl,⟨nd,rfl⟩⟩;refine ⟨_,rfl,?_⟩))
    go_meet
    case rel=>exact ⟨_,(true),Q7,H',⟨Q5⟩,⟨Q48⟩,⟨Q49⟩,⟨Q46⟩⟩
  case rest =>
   clear HC5
   try clear c1
   try clear c2
   try clear c2b0
   try clear c2b1
   try clear p2
   try clear c11
   try clear c12
   try clear c13
   try clear c16
   try clear c18
   try clear c26
   try clear c27
   obtain ⟨kq,x28_4,rfl,HA,HJ4,HO_3,HO_4,HB⟩:=hcut
   cases kq with
   | zero=>exact absurd HA.out (by simp [laws_FnBatchOf.j0])
   | succ kj4 =>
    have H:=HA.out
    clear HA
    simp only [laws_FnBatchOf.j0] at H
    by_cases c29 : x28_4 = true
    ·subst c29
     have H1 : ((spec_BatchOf.f kj4 t437).bind fun t450=>((laws_lwRows.f kj4 t440 t450).bind fun t453=>(if t453 = true then ((impl_RowsOk.f kj4 t437).bind fun t454=>((spec_RowsOk.f kj4 t437).bind fun t455=>(some (t454 == t455)))) else (some false)))) = some r:=by rw [if_pos rfl] at H;exact H
     clear H
     have H:=H1
     clear H1
     replace H:=Option.bind_eq_some_iff.mp H
     obtain ⟨t450,A300,H⟩:=H
     replace H : ((laws_lwRows.f kj4 t440 t450).bind fun t453=>(if t453 = true then ((impl_RowsOk.f kj4 t437).bind fun t454=>((spec_RowsOk.f kj4 t437).bind fun t455=>(some (t454 == t455)))) else (some false))) = some r:=H
     have A30:=Aside0.mk A300
     clear A300
     replace H:=Option.bind_eq_some_iff.mp H
     obtain ⟨t453,A310,H⟩:=H
     replace H : (if t453 = true then ((impl_RowsOk.f kj4 t437).bind fun t454=>((spec_RowsOk.f kj4 t437).bind fun t455=>(some (t454 == t455)))) else (some false)) = some r:=H
     have A31:=Aside0.mk A310
     clear A310
     by_cases c32 : t453 = true
     ·subst c32
      have H1 : ((impl_RowsOk.f kj4 t437).bind fun t454=>((spec_RowsOk.f kj4 t437).bind fun t455=>(some (t454 == t455)))) = some r:=by rw [if_pos rfl] at H;exact H
      clear H
      have H:=H1
      clear H1
      replace H:=Option.bind_eq_some_iff.mp H
      obtain ⟨t454,A330,H⟩:=H
      replace H : ((spec_RowsOk.f kj4 t437).bind fun t455=>(some (t454 == t455))) = some r:=H
      have A33:=Aside0.mk A330
      clear A330
      replace H:=Option.bind_eq_some_iff.mp H
      obtain ⟨t455,A340,H⟩:=H
      replace H : (some (t454 == t455)) = some r:=H
      have A34:=Aside0.mk A340
      clear A340
      obtain rfl:=Option.some.inj H
      go_wp2_with (first|((with_reducible refine gate_callee (f:=27) rfl ?_);refine goesL_ (some 31) rfl rfl Try.func27 Q2 rfl #[.slice Ao7 t437.length co7] rfl Q50 ?_;(with_reducible refine (spec_BatchOf.calls kj4 _ _ t437 t450 _ ?side1 ?side2 A30.out).mono ?_);(case side1=>exact Q70);(case side2=>exact (Kd.R_reads' HO_3.out).2.1);rintro e w35 ⟨v451,rfl,ho0,hb⟩;refine ⟨_,rfl,?_⟩;have n0_:=Aside0.mk (Kd.R_elder' Q16 (Kd.R_base ho0) hb);have n1_:=Aside0.mk (Kd.R_elder' Q17 (Kd.R_base ho0) hb);have n2_:=Aside0.mk (Kd.R_lower (Kd.R_new' (Kd.R_new' ho0 (Kd.R_lt Q16)) (Kd.R_lt Q17)) (below_size Q46));have n3_:=Aside0.mk (below_step Q46 hb);clear HO_3;clear HO_4;clear HB;have HO_3:=n0_;have HO_4:=n1_;have HO452:=n2_;have HB:=n3_;clear n0_ n1_ n2_ n3_;(try clear hb);(try clear hb2);(try clear hk);(try clear hi);(try clear ho0);obtain ⟨Ao36,co36,eo36⟩:=Kd.R_slice HO_4.out;subst eo36;obtain ⟨Ao37,co37,eo37⟩:=Kd.R_slice HO452.out;subst eo37)|((with_reducible refine gate_callee (f:=18) rfl ?_);refine goesL_ (some 32) rfl rfl Try.func18 Q2 rfl #[.slice Ao36 t440.length co36,.slice Ao37 t450.length co37] rfl Q50 ?_;(with_reducible refine (laws_lwRows.calls kj4 _ _ t440 _ _ t450 true _ ?side1 ?side2 ?side3 ?side4 A31.out).mono ?_);(case side1=>exact Q71);(case side2=>exact (Kd.R_reads' HO_4.out).2.1);(case side3=>exact (by repeat (first|exact (Kd.R_reads' HO452.out).2.2|(with_reducible refine Kd.C_alloc ?_ _)|(with_reducible refine Kd.C_drewN ?_ _)|(with_reducible refine Kd.C_drew ?_))));(case side4=>exact (Kd.R_reads' HO452.out).2.1);rintro e w' ⟨rfl,⟨nd,rfl⟩⟩;refine ⟨_,rfl,?_⟩)|(go_at_call 39;(with_reducible refine (impl_RowsOk.calls kj4 _ _ t437 t454 _ ?side1 ?side2 A33.out).mono ?_);(case side1=>exact Q70);(case side2=>exact (Kd.R_reads' HO_3.out).2.1);rintro e w38 ⟨rfl,hb⟩;have n0_:=Aside0.mk (Kd.R_below Q16 hb);have n1_:=Aside0.mk (Kd.R_below Q17 hb);have n2_:=Aside0.mk (Kd.R_below (by (with_reducible repeat (first|apply Kd.R_alloc|apply Kd.R_drewN|apply Kd.R_drew));exact HO452.out) hb);have n3_:=Aside0.mk (below_step Q46 hb);clear HO_3;clear HO_4;clear HO452;clear HB;have HO_3:=n0_;have HO_4:=n1_;have HO452:=n2_;have HB:=n3_;clear n0_ n1_ n2_ n3_;(try clear hb);(try clear hb2);(try clear hk);(try clear hi))|(go_at_call 20;(with_reducible refine (spec_RowsOk.calls kj4 _ _ t437 t455 _ ?side1 ?side2 A34.out).mono ?_);(case side1=>exact Q70);(case side2=>exact (Kd.R_reads' HO_3.out).2.1);rintro e w39 ⟨rfl,hb⟩;have n0_:=Aside0.mk (Kd.R_below Q16 hb);have n1_:=Aside0.mk (Kd.R_below Q17 hb);have n2_:=Aside0.mk (Kd.R_below (by (with_reducible repeat (first|apply Kd.R_alloc|apply Kd.R_drewN|apply Kd.R_drew));exact HO452.out) hb);have n3_:=Aside0.mk (below_step Q46 hb);clear HO_3;clear HO_4;clear HO452;clear HB;have HO_3:=n0_;have HO_4:=n1_;have HO452:=n2_;have HB:=n3_;clear n0_ n1_ n2_ n3_;(try clear hb);(try clear hb2);(try clear hk);(try clear hi)))
      go_ret
      exact ⟨Q44,Q46⟩
     ·replace c32:=Bool.eq_false_iff.mpr c32
      subst c32
      have H1 : (some false) = some r:=by rw [if_neg (show ¬ (false = true) by decide)] at H;exact H
      clear H
      have H:=H1
      clear H1
      exact absurd ((Option.some.inj H).trans hq_.out) Q1
    ·replace c29:=Bool.eq_false_iff.mpr c29
     subst c29
     have H1 : ((impl_BatchOk.f kj4 t440).bind fun t456=>(if t456 = true then ((laws_lwSame.f kj4 t437 t440 ([] : List (S36))).bind fun t457=>(some t457)) else (some false))) = some r:=by rw [if_neg (show ¬ (false = true) by decide)] at H;exact H
     clear H
     have H:=H1
     clear H1
     replace H:=Option.bind_eq_some_iff.mp H
     obtain ⟨t456,A400,H⟩:=H
     replace H : (if t456 = true then ((laws_lwSame.f kj4 t437 t440 ([] : List (S36))).bind fun t457=>(some t457)) else (some false)) = some r:=H
     have A40:=Aside0.mk A400
     clear A400
     by_cases c41 : t456 = true
     ·subst c41
      have H1 : ((laws_lwSame.f kj4 t437 t440 ([] : List (S36))).bind fun t457=>(some t457)) = some r:=by rw [if_pos rfl] at H;exact H
      clear H
      have H:=H1
      clear H1
      replace H:=Option.bind_eq_some_iff.mp H
      obtain ⟨t457,A420,H⟩:=H
      replace H : (some t457) = some r:=H
      have A42:=Aside0.mk A420
      clear A420
      obtain rfl:=Option.some.inj H
      obtain ⟨Ao43,co43,eo43⟩:=Kd.R_slice HO_4.out
      subst eo43
      go_wp2_with (first|((with_reducible refine gate_callee (f:=24) rfl ?_);refine goesL_ (some 41) rfl rfl Try.func24 Q2 rfl #[.slice Ao43 t440.length co43] rfl Q50 ?_;(with_reducible refine (impl_BatchOk.calls kj4 _ _ t440 true _ ?side1 ?side2 A40.out).mono ?_);(case side1=>exact Q71);(case side2=>exact (Kd.R_reads' HO_4.out).2.1);rintro e w44 ⟨rfl,hb⟩;refine ⟨_,rfl,?_⟩;have n0_:=Aside0.mk (Kd.R_below Q16 hb);have n1_:=Aside0.mk (Kd.R_below Q17 hb);have n2_:=Aside0.mk (below_step Q46 hb);clear HO_3;clear HO_4;clear HB;have HO_3:=n0_;have HO_4:=n1_;have HB:=n2_;clear n0_ n1_ n2_;(try clear hb);(try clear hb2);(try clear hk);(try clear hi))|(go_at_call 25;(refine (laws_lwSame.calls kj4 _ _ t437 _ _ t440 _ _ ([] : List (S36)) t457 _ ?side1 ?side2 ?side3 ?side4 ?side5 ?side6 A42.out).mono ?_);(case side1=>exact Q70);(case side2=>exact (Kd.R_reads' HO_3.out).2.1);(case side3=>exact Q71);(case side4=>exact (Kd.R_reads' HO_4.out).2.1);(case side5=>exact Kd.C_nil _ _);(case side6=>exact Nat.le_refl _);rintro e w45 ⟨rfl,hb⟩;have n0_:=Aside0.mk (Kd.R_below Q16 hb);have n1_:=Aside0.mk (Kd.R_below Q17 hb);have n2_:=Aside0.mk (below_step Q46 hb);clear HO_3;clear HO_4;clear HB;have HO_3:=n0_;have HO_4:=n1_;have HB:=n2_;clear n0_ n1_ n2_;(try clear hb);(try clear hb2);(try clear hk);(try clear hi)))
      go_ret
      exact ⟨Q44,Q46⟩
     ·replace c41:=Bool.eq_false_iff.mpr c41
      subst c41
      have H1 : (some false) = some r:=by rw [if_neg (show ¬ (false = true) by decide)] at H;exact H
      clear H
      have H:=H1
      clear H1
      exact absurd ((Option.some.inj H).trans hq_.out) Q1
noncomputable def laws_FnBatchOf.Pure : Prop := ∀ (l0 : List Int), l0.length ≤ maxLen → l0.length * 1 ≤ 140737488351232 → (∀ x ∈ l0, (Lit.int .u8 x).wf = true) → ∃ k, laws_FnBatchOf.f k l0 = some true
end Go.Proofs.Ytjlkffmdmifahaa.PFnBatchOf
