/- Functions that the law comes to: each as a plain Lean function, with the contract of the Go function. -/
import Derived.Test.YtiegpijhkhopgaaVFnSetLeastw
import Derived.Test.YtiegpijhkhopgaaVFnSetLeastp0
import Derived.Test.YtiegpijhkhopgaaVFnSetLeastp1
namespace Go.Proofs.Ytiegpijhkhopgaa.PFnSetLeast
open Go.RowKit Go.Proofs.YtiegpijhkhopgaaW.PrintWords Go.Proofs.YtiegpijhkhopgaaW.PrintLast Go.Proofs.YtiegpijhkhopgaaW.PrintMore
attribute [local go_sem] max2_int min2_int max_two min_two max_three min_three max_four min_four
set_option linter.unusedVariables false
set_option linter.unusedSimpArgs false
attribute [local go_sem high] eqA60
def spec_l3Count.f (a0 : Int) : Option (Int) := some (Int.tmod (wrap64 ((Int.tmod a0 100) + 100)) 100)
set_option maxHeartbeats 8000000 in
set_option maxRecDepth 100000 in
theorem spec_l3Count.calls (a0 : Int) (r : Int) (w : World) (h : spec_l3Count.f a0 = some r) :
  Calls Try.prog 93 #[.int .i64 a0] w fun e w'=>e = .returned (.int .i64 r) ∧ Drawn0 w w':=by
 have H : (some (Int.tmod (wrap64 ((Int.tmod a0 100) + 100)) 100)) = some r:=h
 clear h
 obtain rfl:=Option.some.inj H
 go_enter Try.func93,Try.ntmps93
 go_wp2
 go_ret
 exact ⟨by first|rfl|(simp;done)|(simp [*];done),by repeat (first|exact Drawn0.refl _|apply Drawn0.step)⟩
def spec_l3Key.l0 : Nat → List (S60) → Int → Int → List (S60) → Int → Int → Option ((List (S60)))
 | 0, _, _, _, _, _, _ => none
 | k + 1, x0, x1, x2, x7, x8, x9 => if x9 < (x0.length : Int) then (if 0 ≤ x9 then (if ((rd_T60 x0 x9).f0) = x1 then (if ((rd_T60 x0 x9).f2) > 0 then (if x2 = 2 then (if x7.length < 5864062014805 then (spec_l3Key.l0 k x0 x1 x2 (x7 ++ [(⟨x1, (rd_T60 x0 x9).f1, 1⟩ : S60)]) (wrap64 (x8 + ((rd_T60 x0 x9).f2))) (wrap64 (x9 + 1))) else (none)) else (if x2 = 3 then (if (x7.length : Int) = 0 then (if x7.length < 5864062014805 then (spec_l3Key.l0 k x0 x1 x2 (x7 ++ [(⟨x1, (rd_T60 x0 x9).f1, 1⟩ : S60)]) (wrap64 (x8 + ((rd_T60 x0 x9).f2))) (wrap64 (x9 + 1))) else (none)) else (spec_l3Key.l0 k x0 x1 x2 x7 (wrap64 (x8 + ((rd_T60 x0 x9).f2))) (wrap64 (x9 + 1)))) else (spec_l3Key.l0 k x0 x1 x2 x7 (wrap64 (x8 + ((rd_T60 x0 x9).f2))) (wrap64 (x9 + 1))))) else (spec_l3Key.l0 k x0 x1 x2 x7 (wrap64 (x8 + ((rd_T60 x0 x9).f2))) (wrap64 (x9 + 1)))) else (spec_l3Key.l0 k x0 x1 x2 x7 x8 (wrap64 (x9 + 1)))) else (none)) else (if x2 = 1 then (if x8 = 0 then (some x7) else ((spec_l3Count.f x8).bind fun t136 => (if x7.length < 5864062014805 then (some (x7 ++ [(⟨x1, t136, 1⟩ : S60)])) else (none)))) else (some x7))
def spec_l3Key.f (k : Nat) (l0 : List (S60)) (a1 : Int) (a2 : Int) : Option ((List (S60))) := spec_l3Key.l0 k l0 a1 a2 (([] : List (S60))) 0 0
theorem spec_l3Key.mono_l : ∀ k,(∀ y0 y1 y2 y3 y4 y5,LeO (spec_l3Key.l0 k y0 y1 y2 y3 y4 y5) (spec_l3Key.l0 (k + 1) y0 y1 y2 y3 y4 y5))
 | 0=>fun _ _ _ _ _ _ r h=>by simp [spec_l3Key.l0] at h
 | k + 1=>by
  have ih0:=spec_l3Key.mono_l k
  ·intro y0 y1 y2 y3 y4 y5
   unfold spec_l3Key.l0
   repeat' first
   | (with_reducible exact ih0 _ _ _ _ _ _)
   | (with_reducible exact LeO.refl _)
   | (with_reducible exact LeO.none _)
   | (with_reducible refine LeO.ite ?_ ?_)
   | (with_reducible refine LeO.bind ?_ (fun _=>?_))
   | exact ih0 _ _ _ _ _ _
   | exact LeO.none _
   | refine LeO.ite ?_ ?_
   | refine LeO.bind ?_ (fun _=>?_)
theorem spec_l3Key.mono : ∀ a0 a1 a2 k,LeO (spec_l3Key.f k a0 a1 a2) (spec_l3Key.f (k + 1) a0 a1 a2):=by
 intro a0 a1 a2 k
 have ih0:=spec_l3Key.mono_l k
 unfold spec_l3Key.f
 repeat' first
   | (with_reducible exact ih0 _ _ _ _ _ _)
   | (with_reducible exact LeO.refl _)
   | (with_reducible exact LeO.none _)
   | (with_reducible refine LeO.ite ?_ ?_)
   | (with_reducible refine LeO.bind ?_ (fun _=>?_))
   | exact ih0 _ _ _ _ _ _
   | exact LeO.none _
   | refine LeO.ite ?_ ?_
   | refine LeO.bind ?_ (fun _=>?_)
set_option maxHeartbeats 8000000 in
set_option maxRecDepth 100000 in
theorem spec_l3Key.calls (k : Nat) (A0 : Option Addr) (c0 : Nat) (l0 : List (S60)) (a1 : Int) (a2 : Int) (r : List (S60)) (w : World) (hr0 : Kd.C k60 w A0 l0.length l0) (hc0 : l0.length ≤ c0) (h : spec_l3Key.f k l0 a1 a2 = some r) :
  Calls Try.prog 87 #[.slice A0 l0.length c0,.int .i64 a1,.int .i64 a2] w fun e w'=>∃ v0_ : Value,e = .returned (v0_) ∧ Kd.R k60 60 w' w.heap.size (fun _=>True) v0_ r ∧ Below w.heap.size w w':=by
 have hu60:=Try.underlying60
 have HR0:=Aside0.mk hr0
 have HC0:=Aside0.mk hc0
 clear hr0 hc0
 have HB:=Aside0.mk (Below.refl w.heap.size w)
 have H : (spec_l3Key.l0 k l0 a1 a2 (([] : List (S60))) 0 0) = some r:=h
 clear h
 obtain ⟨y133,hy133⟩ : ∃ y_ : List (S60),y_ = (([] : List (S60))):=⟨_,rfl⟩
 replace H : (spec_l3Key.l0 k l0 a1 a2 y133 0 0) = some r:=by first|(rw [hy133];with_reducible exact H)|(have H2_:=(Option.bind_some _ _).symm.trans H;rw [hy133];with_reducible exact H2_)|(have H2_:=(Option.bind_some _ _).symm.trans H;with_reducible exact H2_)|with_reducible exact H|(rw [hy133];exact H)|exact H
 have Ny133:=Aside0.mk hy133
 clear hy133
 have H':=Aside0.mk H
 clear H
 go_enter Try.func87,Try.ntmps87
 go_wp2_with (first|((with_reducible refine gate_dst (N:=10) rfl ?_);(try (refine gate_guard (by rfl) ?_;dsimp only));refine Kd.R_lit k60 _ 60 ?hg (N:=10) ?hd (xs:=([] : List (S60))) (inner:=[]) (ok:=fun _=>True) (okp:=fun _=>True) ?hr ?hp (fun _ hk=>hk) trivial (Below.refl _ _) (Nat.le_refl _) (by simp) ?_;(case hd=>rfl);(case hg=>rfl);(case hr=>first|(go_simp;done)|(go_simp;rfl));(case hp=>exact (Reps.none _ _));intro v134 w4 ho5 hb hg_ hnew_;clear hg_ hnew_;(first|rw [← Ny133.out] at ho5|(simp only [Int.reduceToNat] at ho5;rw [← Ny133.out] at ho5));have n0_:=Aside0.mk (Kd.R_lower ho5 (below_size (by repeat (first|(with_reducible first|exact HB.out|apply below_alloc|apply pw_below_drewN|apply below_drew1)|exact HB.out))));have n1_:=Aside0.mk (below_step (by repeat (first|(with_reducible first|exact HB.out|apply below_alloc|apply pw_below_drewN|apply below_drew1)|exact HB.out)) hb);clear HB;have HO135:=n0_;have HB:=n1_;clear n0_ n1_;clear hb ho5))
 go_loopg [7,8,9] k (fun kq v7 v8 v9 w'=>∃ (x7_1 : List (S60)) (x8_1 : Int) (x9_1 : Int),v8 = .int .i64 x8_1 ∧ v9 = .int .i64 x9_1 ∧ Aside0 (spec_l3Key.l0 kq l0 a1 a2 x7_1 x8_1 x9_1 = some r) ∧ Aside0 (kq ≤ k) ∧ Aside0 (Kd.R k60 60 w' w.heap.size (fun _=>True) v7 x7_1) ∧ Aside0 (Below w.heap.size w w'))
 case atStart=>exact ⟨(y133),(0),(0),(by first|rfl|(simp;done)|(simp [*];done)),(by first|rfl|(simp;done)|(simp [*];done)),H',⟨Nat.le_refl _⟩,⟨by (with_reducible repeat (first|apply Kd.R_alloc|apply Kd.R_drewN|apply Kd.R_drew));exact HO135.out⟩,⟨by repeat (first|(with_reducible first|exact HB.out|apply below_alloc|apply pw_below_drewN|apply below_drew1)|exact HB.out)⟩⟩
 case round =>
  clear H'
  try clear p2
  obtain ⟨x7_1,x8_1,x9_1,rfl,rfl,HA,HK1,HO_7,HB⟩:=hrel
  cases gk with
  | zero=>exact absurd HA.out (by simp [spec_l3Key.l0])
  | succ k1 =>
   have H:=HA.out
   clear HA
   simp only [spec_l3Key.l0] at H
   by_cases c6 : x9_1 < (l0.length : Int)
   ·rw [if_pos c6] at H
    have c6b0 : decide (x9_1 < (l0.length : Int)) = true:=decide_eq_true c6
    clear c6
    by_cases c7 : 0 ≤ x9_1
    ·rw [if_pos c7] at H
     have c7b0 : decide (0 ≤ x9_1) = true:=decide_eq_true c7
     clear c7
     by_cases c8 : ((rd_T60 l0 x9_1).f0) = a1
     ·rw [if_pos c8] at H
      have c8b0 : (((rd_T60 l0 x9_1).f0) == a1) = true:=beq_iff_eq.mpr c8
      have c8b1 : (((rd_T60 l0 x9_1).f0) != a1) = false:=bne_eq_false_iff_eq.mpr c8
      clear c8
      by_cases c9 : ((rd_T60 l0 x9_1).f2) > 0
      ·rw [if_pos c9] at H
       have c9b0 : decide (0 < ((rd_T60 l0 x9_1).f2)) = true:=decide_eq_true c9
       clear c9
       by_cases c10 : a2 = 2
       ·rw [if_pos c10] at H
        have c10b0 : (a2 == 2) = true:=beq_iff_eq.mpr c10
        have c10b1 : (a2 != 2) = false:=bne_eq_false_iff_eq.mpr c10
        clear c10
        by_cases c11 : x7_1.length < 5864062014805
        ·rw [if_pos c11] at H
         have LMc11:=Aside0.mk c11
         clear c11
         obtain ⟨y144,hy144⟩ : ∃ y_ : List (S60),y_ = (x7_1 ++ [(⟨a1,(rd_T60 l0 x9_1).f1,1⟩ : S60)]):=⟨_,rfl⟩
         replace H : (spec_l3Key.l0 k1 l0 a1 a2 y144 (wrap64 (x8_1 + ((rd_T60 l0 x9_1).f2))) (wrap64 (x9_1 + 1))) = some r:=by first|(rw [hy144];with_reducible exact H)|(have H2_:=(Option.bind_some _ _).symm.trans H;rw [hy144];with_reducible exact H2_)|(have H2_:=(Option.bind_some _ _).symm.trans H;with_reducible exact H2_)|with_reducible exact H|(rw [hy144];exact H)|exact H
         have Ny144:=Aside0.mk hy144
         clear hy144
         have H':=Aside0.mk H
         clear H
         have p140 : 0 ≤ (x9_1 : Int):=of_decide_eq_true (by first|(with_reducible assumption)|assumption)
         have q140 : x9_1 < (l0.length : Int):=of_decide_eq_true (by first|(with_reducible assumption)|assumption)
         obtain ⟨ad140,e140,hx140_0,hx140_1,hx140_2⟩:=at_T60 HR0.out x9_1 p140 q140
         cases e140
         replace hx140_0:=(HB.out.cell (bl_ w _ hx140_0)).trans hx140_0
         replace hx140_1:=(HB.out.cell (bl_ w _ hx140_1)).trans hx140_1
         replace hx140_2:=(HB.out.cell (bl_ w _ hx140_2)).trans hx140_2
         replace p140:=eq_true p140
         replace q140:=eq_true q140
         have p141 : 0 ≤ (x9_1 : Int):=of_decide_eq_true (by first|(with_reducible assumption)|assumption)
         have q141 : x9_1 < (l0.length : Int):=of_decide_eq_true (by first|(with_reducible assumption)|assumption)
         obtain ⟨ad141,e141,hx141_0,hx141_1,hx141_2⟩:=at_T60 HR0.out x9_1 p141 q141
         obtain rfl : ad140 = ad141:=(by injection e141)
         replace hx141_0:=(HB.out.cell (bl_ w _ hx141_0)).trans hx141_0
         replace hx141_1:=(HB.out.cell (bl_ w _ hx141_1)).trans hx141_1
         replace hx141_2:=(HB.out.cell (bl_ w _ hx141_2)).trans hx141_2
         replace p141:=eq_true p141
         replace q141:=eq_true q141
         have p142 : 0 ≤ (x9_1 : Int):=of_decide_eq_true (by first|(with_reducible assumption)|assumption)
         have q142 : x9_1 < (l0.length : Int):=of_decide_eq_true (by first|(with_reducible assumption)|assumption)
         obtain ⟨ad142,e142,hx142_0,hx142_1,hx142_2⟩:=at_T60 HR0.out x9_1 p142 q142
         obtain rfl : ad140 = ad142:=(by injection e142)
         replace hx142_0:=(HB.out.cell (bl_ w _ hx142_0)).trans hx142_0
         replace hx142_1:=(HB.out.cell (bl_ w _ hx142_1)).trans hx142_1
         replace hx142_2:=(HB.out.cell (bl_ w _ hx142_2)).trans hx142_2
         replace p142:=eq_true p142
         replace q142:=eq_true q142
         have p143 : 0 ≤ (x9_1 : Int):=of_decide_eq_true (by first|(with_reducible assumption)|assumption)
         have q143 : x9_1 < (l0.length : Int):=of_decide_eq_true (by first|(with_reducible assumption)|assumption)
         obtain ⟨ad143,e143,hx143_0,hx143_1,hx143_2⟩:=at_T60 HR0.out x9_1 p143 q143
         obtain rfl : ad140 = ad143:=(by injection e143)
         replace hx143_0:=(HB.out.cell (bl_ w _ hx143_0)).trans hx143_0
         replace hx143_1:=(HB.out.cell (bl_ w _ hx143_1)).trans hx143_1
         replace hx143_2:=(HB.out.cell (bl_ w _ hx143_2)).trans hx143_2
         replace p143:=eq_true p143
         replace q143:=eq_true q143
         go_wp2_with (first|((with_reducible refine gate_builtin (b:=.append) (xs:=#[.tmp 50,.tmp 58]) rfl ?_);(try (refine gate_guard (by rfl) ?_;dsimp only));at_builtin;refine Kd.R_append k60 (w0:=w) w.heap.size rfl (.tmp 50) (.tmp 58) 36 60 (.agg #[(.int .i64 0),(.int .i64 0),(.int .i64 0)]) 24 rfl Try.underlying36 info60 rfl (by decide) (by omega) u7 x7_1 (⟨a1,(rd_T60 l0 x9_1).f1,1⟩ : S60) [.int .i64 a1,.int .i64 ((rd_T60 l0 x9_1).f1),.int .i64 1] (fun _=>True) (fun _=>False) rfl rfl ?aP (fun _ hk=>hk.elim) ?aF ?aO ?aB ?aS ?aL ?_;(case aP=>exact k60_mkM _ _ _ (⟨a1,(rd_T60 l0 x9_1).f1,1⟩ : S60));(case aB=>exact (by repeat (first|(with_reducible first|exact HB.out|apply below_alloc|apply pw_below_drewN|apply below_drew1)|exact HB.out)));(case aF=>exact (fun _ _=>trivial));(case aO=>exact (by (with_reducible repeat (first|apply Kd.R_alloc|apply Kd.R_drewN|apply Kd.R_drew));exact HO_7.out));(case aS=>exact (below_size (by repeat (first|(with_reducible first|exact HB.out|apply below_alloc|apply pw_below_drewN|apply below_drew1)|exact HB.out))));(case aL=>have:=LMc11.out;omega);intro v145 w12 ho hb hg hat;rw [← Ny144.out] at ho;have n0_:=Aside0.mk (hb);have n1_:=Aside0.mk (ho);clear HB;clear HO_7;have HB:=n0_;have HO146:=n1_;clear n0_ n1_;clear ho hb hg hat))
         go_roundg k1
         case measure=>have:=HK1.out;omega
         case rel=>exact ⟨(y144),(wrap64 (x8_1 + ((rd_T60 l0 x9_1).f2))),(wrap64 (x9_1 + 1)),(by first|rfl|(simp;done)|(simp [*];done)),(by first|rfl|(simp;done)|(simp [*];done)),H',⟨by have:=HK1.out;omega⟩,⟨by (with_reducible repeat (first|apply Kd.R_alloc|apply Kd.R_drewN|apply Kd.R_drew));exact HO146.out⟩,⟨by repeat (first|(with_reducible first|exact HB.out|apply below_alloc|apply pw_below_drewN|apply below_drew1)|exact HB.out)⟩⟩
        ·rw [if_neg c11] at H
         exact absurd H (by simp)
       ·rw [if_neg c10] at H
        have c10b0 : (a2 == 2) = false:=beq_eq_false_iff_ne.mpr c10
        have c10b1 : (a2 != 2) = true:=bne_iff_ne.mpr c10
        by_cases c13 : a2 = 3
        ·rw [if_pos c13] at H
         have c13b0 : (a2 == 3) = true:=beq_iff_eq.mpr c13
         have c13b1 : (a2 != 3) = false:=bne_eq_false_iff_eq.mpr c13
         clear c13
         by_cases c14 : (x7_1.length : Int) = 0
         ·rw [if_pos c14] at H
          have c14b0 : ((x7_1.length : Int) == 0) = true:=beq_iff_eq.mpr c14
          have c14b1 : ((x7_1.length : Int) != 0) = false:=bne_eq_false_iff_eq.mpr c14
          clear c14
          by_cases c15 : x7_1.length < 5864062014805
          ·rw [if_pos c15] at H
           have LMc15:=Aside0.mk c15
           clear c15
           obtain ⟨y148,hy148⟩ : ∃ y_ : List (S60),y_ = (x7_1 ++ [(⟨a1,(rd_T60 l0 x9_1).f1,1⟩ : S60)]):=⟨_,rfl⟩
           replace H : (spec_l3Key.l0 k1 l0 a1 a2 y148 (wrap64 (x8_1 + ((rd_T60 l0 x9_1).f2))) (wrap64 (x9_1 + 1))) = some r:=by first|(rw [hy148];with_reducible exact H)|(have H2_:=(Option.bind_some _ _).symm.trans H;rw [hy148];with_reducible exact H2_)|(have H2_:=(Option.bind_some _ _).symm.trans H;with_reducible exact H2_)|with_reducible exact H|(rw [hy148];exact H)|exact H
           have Ny148:=Aside0.mk hy148
           clear hy148
           have H':=Aside0.mk H
           clear H
           have p140 : 0 ≤ (x9_1 : Int):=of_decide_eq_true (by first|(with_reducible assumption)|assumption)
           have q140 : x9_1 < (l0.length : Int):=of_decide_eq_true (by first|(with_reducible assumption)|assumption)
           obtain ⟨ad140,e140,hx140_0,hx140_1,hx140_2⟩:=at_T60 HR0.out x9_1 p140 q140
           cases e140
           replace hx140_0:=(HB.out.cell (bl_ w _ hx140_0)).trans hx140_0
           replace hx140_1:=(HB.out.cell (bl_ w _ hx140_1)).trans hx140_1
           replace hx140_2:=(HB.out.cell (bl_ w _ hx140_2)).trans hx140_2
           replace p140:=eq_true p140
           replace q140:=eq_true q140
           have p141 : 0 ≤ (x9_1 : Int):=of_decide_eq_true (by first|(with_reducible assumption)|assumption)
           have q141 : x9_1 < (l0.length : Int):=of_decide_eq_true (by first|(with_reducible assumption)|assumption)
           obtain ⟨ad141,e141,hx141_0,hx141_1,hx141_2⟩:=at_T60 HR0.out x9_1 p141 q141
           obtain rfl : ad140 = ad141:=(by injection e141)
           replace hx141_0:=(HB.out.cell (bl_ w _ hx141_0)).trans hx141_0
           replace hx141_1:=(HB.out.cell (bl_ w _ hx141_1)).trans hx141_1
           replace hx141_2:=(HB.out.cell (bl_ w _ hx141_2)).trans hx141_2
           replace p141:=eq_true p141
           replace q141:=eq_true q141
           have p142 : 0 ≤ (x9_1 : Int):=of_decide_eq_true (by first|(with_reducible assumption)|assumption)
           have q142 : x9_1 < (l0.length : Int):=of_decide_eq_true (by first|(with_reducible assumption)|assumption)
           obtain ⟨ad142,e142,hx142_0,hx142_1,hx142_2⟩:=at_T60 HR0.out x9_1 p142 q142
           obtain rfl : ad140 = ad142:=(by injection e142)
           replace hx142_0:=(HB.out.cell (bl_ w _ hx142_0)).trans hx142_0
           replace hx142_1:=(HB.out.cell (bl_ w _ hx142_1)).trans hx142_1
           replace hx142_2:=(HB.out.cell (bl_ w _ hx142_2)).trans hx142_2
           replace p142:=eq_true p142
           replace q142:=eq_true q142
           obtain ⟨Ao16,co16,eo16⟩:=Kd.R_slice HO_7.out
           subst eo16
           have p147 : 0 ≤ (x9_1 : Int):=of_decide_eq_true (by first|(with_reducible assumption)|assumption)
           have q147 : x9_1 < (l0.length : Int):=of_decide_eq_true (by first|(with_reducible assumption)|assumption)
           obtain ⟨ad147,e147,hx147_0,hx147_1,hx147_2⟩:=at_T60 HR0.out x9_1 p147 q147
           obtain rfl : ad140 = ad147:=(by injection e147)
           replace hx147_0:=(HB.out.cell (bl_ w _ hx147_0)).trans hx147_0
           replace hx147_1:=(HB.out.cell (bl_ w _ hx147_1)).trans hx147_1
           replace hx147_2:=(HB.out.cell (bl_ w _ hx147_2)).trans hx147_2
           replace p147:=eq_true p147
           replace q147:=eq_true q147
           go_wp2_with (first|((with_reducible refine gate_builtin (b:=.append) (xs:=#[.tmp 50,.tmp 58]) rfl ?_);(try (refine gate_guard (by rfl) ?_;dsimp only));at_builtin;refine Kd.R_append k60 (w0:=w) w.heap.size rfl (.tmp 50) (.tmp 58) 36 60 (.agg #[(.int .i64 0),(.int .i64 0),(.int .i64 0)]) 24 rfl Try.underlying36 info60 rfl (by decide) (by omega) (.slice Ao16 x7_1.length co16) x7_1 (⟨a1,(rd_T60 l0 x9_1).f1,1⟩ : S60) [.int .i64 a1,.int .i64 ((rd_T60 l0 x9_1).f1),.int .i64 1] (fun _=>True) (fun _=>False) rfl rfl ?aP (fun _ hk=>hk.elim) ?aF ?aO ?aB ?aS ?aL ?_;(case aP=>exact k60_mkM _ _ _ (⟨a1,(rd_T60 l0 x9_1).f1,1⟩ : S60));(case aB=>exact (by repeat (first|(with_reducible first|exact HB.out|apply below_alloc|apply pw_below_drewN|apply below_drew1)|exact HB.out)));(case aF=>exact (fun _ _=>trivial));(case aO=>exact (by (with_reducible repeat (first|apply Kd.R_alloc|apply Kd.R_drewN|apply Kd.R_drew));exact HO_7.out));(case aS=>exact (below_size (by repeat (first|(with_reducible first|exact HB.out|apply below_alloc|apply pw_below_drewN|apply below_drew1)|exact HB.out))));(case aL=>have:=LMc15.out;omega);intro v149 w17 ho hb hg hat;rw [← Ny148.out] at ho;have n0_:=Aside0.mk (hb);have n1_:=Aside0.mk (ho);clear HB;clear HO_7;have HB:=n0_;have HO150:=n1_;clear n0_ n1_;clear ho hb hg hat))
           go_roundg k1
           case measure=>have:=HK1.out;omega
           case rel=>exact ⟨(y148),(wrap64 (x8_1 + ((rd_T60 l0 x9_1).f2))),(wrap64 (x9_1 + 1)),(by first|rfl|(simp;done)|(simp [*];done)),(by first|rfl|(simp;done)|(simp [*];done)),H',⟨by have:=HK1.out;omega⟩,⟨by (with_reducible repeat (first|apply Kd.R_alloc|apply Kd.R_drewN|apply Kd.R_drew));exact HO150.out⟩,⟨by repeat (first|(with_reducible first|exact HB.out|apply below_alloc|apply pw_below_drewN|apply below_drew1)|exact HB.out)⟩⟩
          ·rw [if_neg c15] at H
           exact absurd H (by simp)
         ·rw [if_neg c14] at H
          have c14b0 : ((x7_1.length : Int) == 0) = false:=beq_eq_false_iff_ne.mpr c14
          have c14b1 : ((x7_1.length : Int) != 0) = true:=bne_iff_ne.mpr c14
          have c14b2 : ¬ (x7_1 = []):=fun h_=>c14 (by rw [h_];rfl)
          have H':=Aside0.mk H
          clear H
          have p140 : 0 ≤ (x9_1 : Int):=of_decide_eq_true (by first|(with_reducible assumption)|assumption)
          have q140 : x9_1 < (l0.length : Int):=of_decide_eq_true (by first|(with_reducible assumption)|assumption)
          obtain ⟨ad140,e140,hx140_0,hx140_1,hx140_2⟩:=at_T60 HR0.out x9_1 p140 q140
          cases e140
          replace hx140_0:=(HB.out.cell (bl_ w _ hx140_0)).trans hx140_0
          replace hx140_1:=(HB.out.cell (bl_ w _ hx140_1)).trans hx140_1
          replace hx140_2:=(HB.out.cell (bl_ w _ hx140_2)).trans hx140_2
          replace p140:=eq_true p140
          replace q140:=eq_true q140
          have p141 : 0 ≤ (x9_1 : Int):=of_decide_eq_true (by first|(with_reducible assumption)|assumption)
          have q141 : x9_1 < (l0.length : Int):=of_decide_eq_true (by first|(with_reducible assumption)|assumption)
          obtain ⟨ad141,e141,hx141_0,hx141_1,hx141_2⟩:=at_T60 HR0.out x9_1 p141 q141
          obtain rfl : ad140 = ad141:=(by injection e141)
          replace hx141_0:=(HB.out.cell (bl_ w _ hx141_0)).trans hx141_0
          replace hx141_1:=(HB.out.cell (bl_ w _ hx141_1)).trans hx141_1
          replace hx141_2:=(HB.out.cell (bl_ w _ hx141_2)).trans hx141_2
          replace p141:=eq_true p141
          replace q141:=eq_true q141
          have p142 : 0 ≤ (x9_1 : Int):=of_decide_eq_true (by first|(with_reducible assumption)|assumption)
          have q142 : x9_1 < (l0.length : Int):=of_decide_eq_true (by first|(with_reducible assumption)|assumption)
          obtain ⟨ad142,e142,hx142_0,hx142_1,hx142_2⟩:=at_T60 HR0.out x9_1 p142 q142
          obtain rfl : ad140 = ad142:=(by injection e142)
          replace hx142_0:=(HB.out.cell (bl_ w _ hx142_0)).trans hx142_0
          replace hx142_1:=(HB.out.cell (bl_ w _ hx142_1)).trans hx142_1
          replace hx142_2:=(HB.out.cell (bl_ w _ hx142_2)).trans hx142_2
          replace p142:=eq_true p142
          replace q142:=eq_true q142
          obtain ⟨Ao18,co18,eo18⟩:=Kd.R_slice HO_7.out
          subst eo18
          go_wp2
          go_roundg k1
          case measure=>have:=HK1.out;omega
          case rel=>exact ⟨(x7_1),(wrap64 (x8_1 + ((rd_T60 l0 x9_1).f2))),(wrap64 (x9_1 + 1)),(by first|rfl|(simp;done)|(simp [*];done)),(by first|rfl|(simp;done)|(simp [*];done)),H',⟨by have:=HK1.out;omega⟩,⟨by (with_reducible repeat (first|apply Kd.R_alloc|apply Kd.R_drewN|apply Kd.R_drew));exact HO_7.out⟩,⟨by repeat (first|(with_reducible first|exact HB.out|apply below_alloc|apply pw_below_drewN|apply below_drew1)|exact HB.out)⟩⟩
        ·rw [if_neg c13] at H
         have c13b0 : (a2 == 3) = false:=beq_eq_false_iff_ne.mpr c13
         have c13b1 : (a2 != 3) = true:=bne_iff_ne.mpr c13
         have H':=Aside0.mk H
         clear H
         have p140 : 0 ≤ (x9_1 : Int):=of_decide_eq_true (by first|(with_reducible assumption)|assumption)
         have q140 : x9_1 < (l0.length : Int):=of_decide_eq_true (by first|(with_reducible assumption)|assumption)
         obtain ⟨ad140,e140,hx140_0,hx140_1,hx140_2⟩:=at_T60 HR0.out x9_1 p140 q140
         cases e140
         replace hx140_0:=(HB.out.cell (bl_ w _ hx140_0)).trans hx140_0
         replace hx140_1:=(HB.out.cell (bl_ w _ hx140_1)).trans hx140_1
         replace hx140_2:=(HB.out.cell (bl_ w _ hx140_2)).trans hx140_2
         replace p140:=eq_true p140
         replace q140:=eq_true q140
         have p141 : 0 ≤ (x9_1 : Int):=of_decide_eq_true (by first|(with_reducible assumption)|assumption)
         have q141 : x9_1 < (l0.length : Int):=of_decide_eq_true (by first|(with_reducible assumption)|assumption)
         obtain ⟨ad141,e141,hx141_0,hx141_1,hx141_2⟩:=at_T60 HR0.out x9_1 p141 q141
         obtain rfl : ad140 = ad141:=(by injection e141)
         replace hx141_0:=(HB.out.cell (bl_ w _ hx141_0)).trans hx141_0
         replace hx141_1:=(HB.out.cell (bl_ w _ hx141_1)).trans hx141_1
         replace hx141_2:=(HB.out.cell (bl_ w _ hx141_2)).trans hx141_2
         replace p141:=eq_true p141
         replace q141:=eq_true q141
         have p142 : 0 ≤ (x9_1 : Int):=of_decide_eq_true (by first|(with_reducible assumption)|assumption)
         have q142 : x9_1 < (l0.length : Int):=of_decide_eq_true (by first|(with_reducible assumption)|assumption)
         obtain ⟨ad142,e142,hx142_0,hx142_1,hx142_2⟩:=at_T60 HR0.out x9_1 p142 q142
         obtain rfl : ad140 = ad142:=(by injection e142)
         replace hx142_0:=(HB.out.cell (bl_ w _ hx142_0)).trans hx142_0
         replace hx142_1:=(HB.out.cell (bl_ w _ hx142_1)).trans hx142_1
         replace hx142_2:=(HB.out.cell (bl_ w _ hx142_2)).trans hx142_2
         replace p142:=eq_true p142
         replace q142:=eq_true q142
         go_wp2
         go_roundg k1
         case measure=>have:=HK1.out;omega
         case rel=>exact ⟨(x7_1),(wrap64 (x8_1 + ((rd_T60 l0 x9_1).f2))),(wrap64 (x9_1 + 1)),(by first|rfl|(simp;done)|(simp [*];done)),(by first|rfl|(simp;done)|(simp [*];done)),H',⟨by have:=HK1.out;omega⟩,⟨by (with_reducible repeat (first|apply Kd.R_alloc|apply Kd.R_drewN|apply Kd.R_drew));exact HO_7.out⟩,⟨by repeat (first|(with_reducible first|exact HB.out|apply below_alloc|apply pw_below_drewN|apply below_drew1)|exact HB.out)⟩⟩
      ·rw [if_neg c9] at H
       have c9b0 : decide (0 < ((rd_T60 l0 x9_1).f2)) = false:=decide_eq_false c9
       clear c9
       have H':=Aside0.mk H
       clear H
       have p140 : 0 ≤ (x9_1 : Int):=of_decide_eq_true (by first|(with_reducible assumption)|assumption)
       have q140 : x9_1 < (l0.length : Int):=of_decide_eq_true (by first|(with_reducible assumption)|assumption)
       obtain ⟨ad140,e140,hx140_0,hx140_1,hx140_2⟩:=at_T60 HR0.out x9_1 p140 q140
       cases e140
       replace hx140_0:=(HB.out.cell (bl_ w _ hx140_0)).trans hx140_0
       replace hx140_1:=(HB.out.cell (bl_ w _ hx140_1)).trans hx140_1
       replace hx140_2:=(HB.out.cell (bl_ w _ hx140_2)).trans hx140_2
       replace p140:=eq_true p140
       replace q140:=eq_true q140
       have p141 : 0 ≤ (x9_1 : Int):=of_decide_eq_true (by first|(with_reducible assumption)|assumption)
       have q141 : x9_1 < (l0.length : Int):=of_decide_eq_true (by first|(with_reducible assumption)|assumption)
       obtain ⟨ad141,e141,hx141_0,hx141_1,hx141_2⟩:=at_T60 HR0.out x9_1 p141 q141
       obtain rfl : ad140 = ad141:=(by injection e141)
       replace hx141_0:=(HB.out.cell (bl_ w _ hx141_0)).trans hx141_0
       replace hx141_1:=(HB.out.cell (bl_ w _ hx141_1)).trans hx141_1
       replace hx141_2:=(HB.out.cell (bl_ w _ hx141_2)).trans hx141_2
       replace p141:=eq_true p141
       replace q141:=eq_true q141
       have p142 : 0 ≤ (x9_1 : Int):=of_decide_eq_true (by first|(with_reducible assumption)|assumption)
       have q142 : x9_1 < (l0.length : Int):=of_decide_eq_true (by first|(with_reducible assumption)|assumption)
       obtain ⟨ad142,e142,hx142_0,hx142_1,hx142_2⟩:=at_T60 HR0.out x9_1 p142 q142
       obtain rfl : ad140 = ad142:=(by injection e142)
       replace hx142_0:=(HB.out.cell (bl_ w _ hx142_0)).trans hx142_0
       replace hx142_1:=(HB.out.cell (bl_ w _ hx142_1)).trans hx142_1
       replace hx142_2:=(HB.out.cell (bl_ w _ hx142_2)).trans hx142_2
       replace p142:=eq_true p142
       replace q142:=eq_true q142
       go_wp2
       go_roundg k1
       case measure=>have:=HK1.out;omega
       case rel=>exact ⟨(x7_1),(wrap64 (x8_1 + ((rd_T60 l0 x9_1).f2))),(wrap64 (x9_1 + 1)),(by first|rfl|(simp;done)|(simp [*];done)),(by first|rfl|(simp;done)|(simp [*];done)),H',⟨by have:=HK1.out;omega⟩,⟨by (with_reducible repeat (first|apply Kd.R_alloc|apply Kd.R_drewN|apply Kd.R_drew));exact HO_7.out⟩,⟨by repeat (first|(with_reducible first|exact HB.out|apply below_alloc|apply pw_below_drewN|apply below_drew1)|exact HB.out)⟩⟩
     ·rw [if_neg c8] at H
      have c8b0 : (((rd_T60 l0 x9_1).f0) == a1) = false:=beq_eq_false_iff_ne.mpr c8
      have c8b1 : (((rd_T60 l0 x9_1).f0) != a1) = true:=bne_iff_ne.mpr c8
      have H':=Aside0.mk H
      clear H
      have p140 : 0 ≤ (x9_1 : Int):=of_decide_eq_true (by first|(with_reducible assumption)|assumption)
      have q140 : x9_1 < (l0.length : Int):=of_decide_eq_true (by first|(with_reducible assumption)|assumption)
      obtain ⟨ad140,e140,hx140_0,hx140_1,hx140_2⟩:=at_T60 HR0.out x9_1 p140 q140
      cases e140
      replace hx140_0:=(HB.out.cell (bl_ w _ hx140_0)).trans hx140_0
      replace hx140_1:=(HB.out.cell (bl_ w _ hx140_1)).trans hx140_1
      replace hx140_2:=(HB.out.cell (bl_ w _ hx140_2)).trans hx140_2
      replace p140:=eq_true p140
      replace q140:=eq_true q140
      go_wp2
      go_roundg k1
      case measure=>have:=HK1.out;omega
      case rel=>exact ⟨(x7_1),(x8_1),(wrap64 (x9_1 + 1)),(by first|rfl|(simp;done)|(simp [*];done)),(by first|rfl|(simp;done)|(simp [*];done)),H',⟨by have:=HK1.out;omega⟩,⟨by (with_reducible repeat (first|apply Kd.R_alloc|apply Kd.R_drewN|apply Kd.R_drew));exact HO_7.out⟩,⟨by repeat (first|(with_reducible first|exact HB.out|apply below_alloc|apply pw_below_drewN|apply below_drew1)|exact HB.out)⟩⟩
    ·rw [if_neg c7] at H
     exact absurd H (by simp)
   ·rw [if_neg c6] at H
    have c6b0 : decide (x9_1 < (l0.length : Int)) = false:=decide_eq_false c6
    clear c6
    by_cases c19 : a2 = 1
    ·rw [if_pos c19] at H
     have c19b0 : (a2 == 1) = true:=beq_iff_eq.mpr c19
     have c19b1 : (a2 != 1) = false:=bne_eq_false_iff_eq.mpr c19
     clear c19
     by_cases c20 : x8_1 = 0
     ·rw [if_pos c20] at H
      have c20b0 : (x8_1 == 0) = true:=beq_iff_eq.mpr c20
      have c20b1 : (x8_1 != 0) = false:=bne_eq_false_iff_eq.mpr c20
      clear c20
      obtain rfl:=Option.some.inj H
      go_wp2
      go_ret
      exact ⟨_,by first|rfl|(simp [errW_none,errW_some] <;> rfl)|(simp [*,errW_none,errW_some] <;> rfl),by (with_reducible repeat (first|apply Kd.R_alloc|apply Kd.R_drewN|apply Kd.R_drew));exact HO_7.out,by repeat (first|(with_reducible first|exact HB.out|apply below_alloc|apply pw_below_drewN|apply below_drew1)|exact HB.out)⟩
     ·rw [if_neg c20] at H
      have c20b0 : (x8_1 == 0) = false:=beq_eq_false_iff_ne.mpr c20
      have c20b1 : (x8_1 != 0) = true:=bne_iff_ne.mpr c20
      replace H:=Option.bind_eq_some_iff.mp H
      obtain ⟨t136,A210,H⟩:=H
      replace H : (if x7_1.length < 5864062014805 then (some (x7_1 ++ [(⟨a1,t136,1⟩ : S60)])) else (none)) = some r:=H
      have A21:=Aside0.mk A210
      clear A210
      by_cases c22 : x7_1.length < 5864062014805
      ·rw [if_pos c22] at H
       have LMc22:=Aside0.mk c22
       clear c22
       obtain ⟨y137,hy137⟩ : ∃ y_ : List (S60),y_ = (x7_1 ++ [(⟨a1,t136,1⟩ : S60)]):=⟨_,rfl⟩
       replace H : (some y137) = some r:=by first|(rw [hy137];with_reducible exact H)|(have H2_:=(Option.bind_some _ _).symm.trans H;rw [hy137];with_reducible exact H2_)|(have H2_:=(Option.bind_some _ _).symm.trans H;with_reducible exact H2_)|with_reducible exact H|(rw [hy137];exact H)|exact H
       have Ny137:=Aside0.mk hy137
       clear hy137
       obtain rfl:=Option.some.inj H
       go_wp2_with (first|((with_reducible refine gate_callee (f:=93) rfl ?_);refine goesL_ (some 69) rfl rfl Try.func93 (by kernel_rfl) rfl #[.int .i64 x8_1] rfl (by (try simp only [List.map_toArray,List.map_cons,List.map_nil]);first|done|rfl|(simp only [List.length_drop,List.length_take];rfl)) ?_;(with_reducible refine (spec_l3Count.calls x8_1 t136 _ A21.out).mono ?_);rintro e w' ⟨rfl,⟨nd,rfl⟩⟩;refine ⟨_,rfl,?_⟩)|((with_reducible refine gate_builtin (b:=.append) (xs:=#[.tmp 66,.tmp 71]) rfl ?_);(try (refine gate_guard (by rfl) ?_;dsimp only));at_builtin;refine Kd.R_append k60 (w0:=w) w.heap.size rfl (.tmp 66) (.tmp 71) 36 60 (.agg #[(.int .i64 0),(.int .i64 0),(.int .i64 0)]) 24 rfl Try.underlying36 info60 rfl (by decide) (by omega) u7 x7_1 (⟨a1,t136,1⟩ : S60) [.int .i64 a1,.int .i64 t136,.int .i64 1] (fun _=>True) (fun _=>False) rfl rfl ?aP (fun _ hk=>hk.elim) ?aF ?aO ?aB ?aS ?aL ?_;(case aP=>exact k60_mkM _ _ _ (⟨a1,t136,1⟩ : S60));(case aB=>exact (by repeat (first|(with_reducible first|exact HB.out|apply below_alloc|apply pw_below_drewN|apply below_drew1)|exact HB.out)));(case aF=>exact (fun _ _=>trivial));(case aO=>exact (by (with_reducible repeat (first|apply Kd.R_alloc|apply Kd.R_drewN|apply Kd.R_drew));exact HO_7.out));(case aS=>exact (below_size (by repeat (first|(with_reducible first|exact HB.out|apply below_alloc|apply pw_below_drewN|apply below_drew1)|exact HB.out))));(case aL=>have:=LMc22.out;omega);intro v138 w23 ho hb hg hat;rw [← Ny137.out] at ho;have n0_:=Aside0.mk (hb);have n1_:=Aside0.mk (ho);clear HB;clear HO_7;have HB:=n0_;have HO139:=n1_;clear n0_ n1_;clear ho hb hg hat))
       go_ret
       exact ⟨_,by first|rfl|(simp [errW_none,errW_some] <;> rfl)|(simp [*,errW_none,errW_some] <;> rfl),by (with_reducible repeat (first|apply Kd.R_alloc|apply Kd.R_drewN|apply Kd.R_drew));exact HO139.out,by repeat (first|(with_reducible first|exact HB.out|apply below_alloc|apply pw_below_drewN|apply below_drew1)|exact HB.out)⟩
      ·rw [if_neg c22] at H
       exact absurd H (by simp)
    ·rw [if_neg c19] at H
     have c19b0 : (a2 == 1) = false:=beq_eq_false_iff_ne.mpr c19
     have c19b1 : (a2 != 1) = true:=bne_iff_ne.mpr c19
     obtain rfl:=Option.some.inj H
     go_wp2
     go_ret
     exact ⟨_,by first|rfl|(simp [errW_none,errW_some] <;> rfl)|(simp [*,errW_none,errW_some] <;> rfl),by (with_reducible repeat (first|apply Kd.R_alloc|apply Kd.R_drewN|apply Kd.R_drew));exact HO_7.out,by repeat (first|(with_reducible first|exact HB.out|apply below_alloc|apply pw_below_drewN|apply below_drew1)|exact HB.out)⟩
def spec_l3Sum.l0 : Nat → List (S60) → Int → List (S60) → Int → Option ((List (S60)))
 | 0, _, _, _, _ => none
 | k + 1, x0, x1, x5, x6 => if x6 < 4 then ((spec_SetOk.f k x0).bind fun t154 => (if t154 = true then ((spec_l3Key.f k x0 x6 x1).bind fun t155 => (if x5.length + t155.length < 5864062014805 then (spec_l3Sum.l0 k x0 x1 (x5 ++ t155) (wrap64 (x6 + 1))) else (none))) else (some x5))) else (some x5)
def spec_l3Sum.f (k : Nat) (l0 : List (S60)) (a1 : Int) : Option ((List (S60))) := spec_l3Sum.l0 k l0 a1 (([] : List (S60))) 0
theorem spec_l3Sum.mono_l : ∀ k,(∀ y0 y1 y2 y3,LeO (spec_l3Sum.l0 k y0 y1 y2 y3) (spec_l3Sum.l0 (k + 1) y0 y1 y2 y3))
 | 0=>fun _ _ _ _ r h=>by simp [spec_l3Sum.l0] at h
 | k + 1=>by
  have ih0:=spec_l3Sum.mono_l k
  ·intro y0 y1 y2 y3
   unfold spec_l3Sum.l0
   repeat' first
   | (with_reducible exact ih0 _ _ _ _)
   | (with_reducible exact spec_SetOk.mono _ _)
   | (with_reducible exact spec_l3Key.mono _ _ _ _)
   | (with_reducible exact LeO.refl _)
   | (with_reducible exact LeO.none _)
   | (with_reducible refine LeO.ite ?_ ?_)
   | (with_reducible refine LeO.bind ?_ (fun _=>?_))
   | exact ih0 _ _ _ _
   | exact spec_SetOk.mono _ _
   | exact spec_l3Key.mono _ _ _ _
   | exact LeO.none _
   | refine LeO.ite ?_ ?_
   | refine LeO.bind ?_ (fun _=>?_)
theorem spec_l3Sum.mono : ∀ a0 a1 k,LeO (spec_l3Sum.f k a0 a1) (spec_l3Sum.f (k + 1) a0 a1):=by
 intro a0 a1 k
 have ih0:=spec_l3Sum.mono_l k
 unfold spec_l3Sum.f
 repeat' first
   | (with_reducible exact ih0 _ _ _ _)
   | (with_reducible exact spec_SetOk.mono _ _)
   | (with_reducible exact spec_l3Key.mono _ _ _ _)
   | (with_reducible exact LeO.refl _)
   | (with_reducible exact LeO.none _)
   | (with_reducible refine LeO.ite ?_ ?_)
   | (with_reducible refine LeO.bind ?_ (fun _=>?_))
   | exact ih0 _ _ _ _
   | exact spec_SetOk.mono _ _
   | exact spec_l3Key.mono _ _ _ _
   | exact LeO.none _
   | refine LeO.ite ?_ ?_
   | refine LeO.bind ?_ (fun _=>?_)
set_option maxHeartbeats 8000000 in
set_option maxRecDepth 100000 in
theorem spec_l3Sum.calls (k : Nat) (A0 : Option Addr) (c0 : Nat) (l0 : List (S60)) (a1 : Int) (r : List (S60)) (w : World) (hr0 : Kd.C k60 w A0 l0.length l0) (hc0 : l0.length ≤ c0) (h : spec_l3Sum.f k l0 a1 = some r) :
  Calls Try.prog 69 #[.slice A0 l0.length c0,.int .i64 a1] w fun e w'=>∃ v0_ : Value,e = .returned (v0_) ∧ Kd.R k60 60 w' w.heap.size (fun _=>True) v0_ r ∧ Below w.heap.size w w':=by
 have HR0:=Aside0.mk hr0
 have HC0:=Aside0.mk hc0
 clear hr0 hc0
 have HB:=Aside0.mk (Below.refl w.heap.size w)
 have H : (spec_l3Sum.l0 k l0 a1 (([] : List (S60))) 0) = some r:=h
 clear h
 obtain ⟨y151,hy151⟩ : ∃ y_ : List (S60),y_ = (([] : List (S60))):=⟨_,rfl⟩
 replace H : (spec_l3Sum.l0 k l0 a1 y151 0) = some r:=by first|(rw [hy151];with_reducible exact H)|(have H2_:=(Option.bind_some _ _).symm.trans H;rw [hy151];with_reducible exact H2_)|(have H2_:=(Option.bind_some _ _).symm.trans H;with_reducible exact H2_)|with_reducible exact H|(rw [hy151];exact H)|exact H
 have Ny151:=Aside0.mk hy151
 clear hy151
 have H':=Aside0.mk H
 clear H
 go_enter Try.func69,Try.ntmps69
 go_wp2_with (first|((with_reducible refine gate_dst (N:=7) rfl ?_);refine Kd.R_lit k60 _ 60 ?hg (N:=7) ?hd (xs:=([] : List (S60))) (inner:=[]) (ok:=fun _=>True) (okp:=fun _=>True) ?hr ?hp (fun _ hk=>hk) trivial (Below.refl _ _) (Nat.le_refl _) (by simp) ?_;(case hd=>rfl);(case hg=>rfl);(case hr=>first|(go_simp;done)|(go_simp;rfl));(case hp=>exact (Reps.none _ _));intro v152 w3 ho4 hb hg_ hnew_;clear hg_ hnew_;(first|rw [← Ny151.out] at ho4|(simp only [Int.reduceToNat] at ho4;rw [← Ny151.out] at ho4));have n0_:=Aside0.mk (Kd.R_lower ho4 (below_size (by repeat (first|(with_reducible first|exact HB.out|apply below_alloc|apply pw_below_drewN|apply below_drew1)|exact HB.out))));have n1_:=Aside0.mk (below_step (by repeat (first|(with_reducible first|exact HB.out|apply below_alloc|apply pw_below_drewN|apply below_drew1)|exact HB.out)) hb);clear HB;have HO153:=n0_;have HB:=n1_;clear n0_ n1_;clear hb ho4))
 go_loopg [5,6] k (fun kq v5 v6 w'=>∃ (x5_1 : List (S60)) (x6_1 : Int),v6 = .int .i64 x6_1 ∧ Aside0 (spec_l3Sum.l0 kq l0 a1 x5_1 x6_1 = some r) ∧ Aside0 (kq ≤ k) ∧ Aside0 (Kd.R k60 60 w' w.heap.size (fun _=>True) v5 x5_1) ∧ Aside0 (Below w.heap.size w w'))
 case atStart=>exact ⟨(y151),(0),(by first|rfl|(simp;done)|(simp [*];done)),H',⟨Nat.le_refl _⟩,⟨by (with_reducible repeat (first|apply Kd.R_alloc|apply Kd.R_drewN|apply Kd.R_drew));exact HO153.out⟩,⟨by repeat (first|(with_reducible first|exact HB.out|apply below_alloc|apply pw_below_drewN|apply below_drew1)|exact HB.out)⟩⟩
 case round =>
  clear H'
  try clear p2
  obtain ⟨x5_1,x6_1,rfl,HA,HK1,HO_5,HB⟩:=hrel
  cases gk with
  | zero=>exact absurd HA.out (by simp [spec_l3Sum.l0])
  | succ k1 =>
   have H:=HA.out
   clear HA
   simp only [spec_l3Sum.l0] at H
   by_cases c5 : x6_1 < 4
   ·rw [if_pos c5] at H
    have c5b0 : decide (x6_1 < 4) = true:=decide_eq_true c5
    clear c5
    replace H:=Option.bind_eq_some_iff.mp H
    obtain ⟨t154,A60,H⟩:=H
    replace H : (if t154 = true then ((spec_l3Key.f k1 l0 x6_1 a1).bind fun t155=>(if x5_1.length + t155.length < 5864062014805 then (spec_l3Sum.l0 k1 l0 a1 (x5_1 ++ t155) (wrap64 (x6_1 + 1))) else (none))) else (some x5_1)) = some r:=H
    have A6:=Aside0.mk A60
    clear A60
    by_cases c7 : t154 = true
    ·subst c7
     have H1 : ((spec_l3Key.f k1 l0 x6_1 a1).bind fun t155=>(if x5_1.length + t155.length < 5864062014805 then (spec_l3Sum.l0 k1 l0 a1 (x5_1 ++ t155) (wrap64 (x6_1 + 1))) else (none))) = some r:=by rw [if_pos rfl] at H;exact H
     clear H
     have H:=H1
     clear H1
     replace H:=Option.bind_eq_some_iff.mp H
     obtain ⟨t155,A80,H⟩:=H
     replace H : (if x5_1.length + t155.length < 5864062014805 then (spec_l3Sum.l0 k1 l0 a1 (x5_1 ++ t155) (wrap64 (x6_1 + 1))) else (none)) = some r:=H
     have A8:=Aside0.mk A80
     clear A80
     by_cases c9 : x5_1.length + t155.length < 5864062014805
     ·rw [if_pos c9] at H
      have LMc9:=Aside0.mk c9
      clear c9
      obtain ⟨y158,hy158⟩ : ∃ y_ : List (S60),y_ = (x5_1 ++ t155):=⟨_,rfl⟩
      replace H : (spec_l3Sum.l0 k1 l0 a1 y158 (wrap64 (x6_1 + 1))) = some r:=by first|(rw [hy158];with_reducible exact H)|(have H2_:=(Option.bind_some _ _).symm.trans H;rw [hy158];with_reducible exact H2_)|(have H2_:=(Option.bind_some _ _).symm.trans H;with_reducible exact H2_)|with_reducible exact H|(rw [hy158];exact H)|exact H
      have Ny158:=Aside0.mk hy158
      clear hy158
      have H':=Aside0.mk H
      clear H
      go_wp2_with (first|(go_at_call 51;(with_reducible refine (spec_SetOk.calls k1 _ _ l0 true _ ?side1 ?side2 A6.out).mono ?_);(case side1=>repeat (first|exact (Kd.C_below HR0.out HB.out)|(with_reducible refine Kd.C_alloc ?_ _)|(with_reducible refine Kd.C_drewN ?_ _)|(with_reducible refine Kd.C_drew ?_)));(case side2=>exact HC0.out);rintro e w10 ⟨rfl,hb⟩;have n0_:=Aside0.mk (Kd.R_below (by (with_reducible repeat (first|apply Kd.R_alloc|apply Kd.R_drewN|apply Kd.R_drew));exact HO_5.out) hb);have n1_:=Aside0.mk (below_step (by repeat (first|(with_reducible first|exact HB.out|apply below_alloc|apply pw_below_drewN|apply below_drew1)|exact HB.out)) hb);clear HO_5;clear HB;have HO_5:=n0_;have HB:=n1_;clear n0_ n1_;(try clear hb);(try clear hb2);(try clear hk);(try clear hi))|((with_reducible refine gate_callee (f:=87) rfl ?_);refine goesL_ (some 20) rfl rfl Try.func87 (by kernel_rfl) rfl #[.slice A0 l0.length c0,.int .i64 x6_1,.int .i64 a1] rfl (by (try simp only [List.map_toArray,List.map_cons,List.map_nil]);first|done|rfl|(simp only [List.length_drop,List.length_take];rfl)) ?_;(with_reducible refine (spec_l3Key.calls k1 _ _ l0 x6_1 a1 t155 _ ?side1 ?side2 A8.out).mono ?_);(case side1=>repeat (first|exact (Kd.C_below HR0.out HB.out)|(with_reducible refine Kd.C_alloc ?_ _)|(with_reducible refine Kd.C_drewN ?_ _)|(with_reducible refine Kd.C_drew ?_)));(case side2=>exact HC0.out);rintro e w11 ⟨v156,rfl,ho0,hb⟩;refine ⟨_,rfl,?_⟩;have n0_:=Aside0.mk (Kd.R_elder' (by (with_reducible repeat (first|apply Kd.R_alloc|apply Kd.R_drewN|apply Kd.R_drew));exact HO_5.out) (Kd.R_base ho0) hb);have n1_:=Aside0.mk (Kd.R_lower (Kd.R_new' ho0 (Kd.R_lt (by (with_reducible repeat (first|apply Kd.R_alloc|apply Kd.R_drewN|apply Kd.R_drew));exact HO_5.out))) (below_size (by repeat (first|(with_reducible first|exact HB.out|apply below_alloc|apply pw_below_drewN|apply below_drew1)|exact HB.out))));have n2_:=Aside0.mk (below_step (by repeat (first|(with_reducible first|exact HB.out|apply below_alloc|apply pw_below_drewN|apply below_drew1)|exact HB.out)) hb);clear HO_5;clear HB;have HO_5:=n0_;have HO157:=n1_;have HB:=n2_;clear n0_ n1_ n2_;(try clear hb);(try clear hb2);(try clear hk);(try clear hi);(try clear ho0);obtain ⟨Ao13,co13,eo13⟩:=Kd.R_slice HO157.out;subst eo13)|((with_reducible refine gate_builtin (b:=.append) (xs:=#[.tmp 16,.tmp 20]) rfl ?_);at_builtin;refine Kd.R_append_rows k60 (w0:=w) w.heap.size rfl (.tmp 16) (.tmp 20) 36 60 (.agg #[(.int .i64 0),(.int .i64 0),(.int .i64 0)]) 24 rfl Try.underlying36 info60 rfl (by decide) (by omega) u5 x5_1 t155 _ _ _ (fun k_=>some k_ ≠ (.slice Ao13 t155.length co13 : Value).ownBlock) (fun _=>False) rfl rfl ?aO ?aR (fun _ _ h=>h) (fun _ h=>h.elim) ?aF ?aB ?aS ?aL ?_;(case aR=>repeat (first|exact (Kd.R_reads' HO157.out).2.2|(with_reducible refine Kd.C_alloc ?_ _)|(with_reducible refine Kd.C_drewN ?_ _)|(with_reducible refine Kd.C_drew ?_)));(case aB=>exact (by repeat (first|(with_reducible first|exact HB.out|apply below_alloc|apply pw_below_drewN|apply below_drew1)|exact HB.out)));(case aF=>exact (fun k_ hk=>Kd.fresh' (Kd.R_lt (by (with_reducible repeat (first|apply Kd.R_alloc|apply Kd.R_drewN|apply Kd.R_drew));exact HO157.out)) k_ hk));(case aO=>exact (by (with_reducible repeat (first|apply Kd.R_alloc|apply Kd.R_drewN|apply Kd.R_drew));exact Kd.R_mono HO_5.out (fun _ hk=>hk.2)));(case aS=>exact (below_size (by repeat (first|(with_reducible first|exact HB.out|apply below_alloc|apply pw_below_drewN|apply below_drew1)|exact HB.out))));(case aL=>have:=LMc9.out;omega);intro v159 w12 ho hb hg hat;rw [← Ny158.out] at ho;have n0_:=Aside0.mk (Kd.R_after (ok:=(fun _=>True)) (by (with_reducible repeat (first|apply Kd.R_alloc|apply Kd.R_drewN|apply Kd.R_drew));exact HO157.out) hg hat);have n1_:=Aside0.mk (hb);have n2_:=Aside0.mk (ho);clear HO157;clear HB;clear HO_5;have HO157:=n0_;have HB:=n1_;have HO160:=n2_;clear n0_ n1_ n2_;clear ho hb hg hat))
      go_roundg k1
      case measure=>have:=HK1.out;omega
      case rel=>exact ⟨(y158),(wrap64 (x6_1 + 1)),(by first|rfl|(simp;done)|(simp [*];done)),H',⟨by have:=HK1.out;omega⟩,⟨by (with_reducible repeat (first|apply Kd.R_alloc|apply Kd.R_drewN|apply Kd.R_drew));exact Kd.R_mono HO160.out (fun _ hk=>trivial)⟩,⟨by repeat (first|(with_reducible first|exact HB.out|apply below_alloc|apply pw_below_drewN|apply below_drew1)|exact HB.out)⟩⟩
     ·rw [if_neg c9] at H
      exact absurd H (by simp)
    ·replace c7:=Bool.eq_false_iff.mpr c7
     subst c7
     have H1 : (some x5_1) = some r:=by rw [if_neg (show ¬ (false = true) by decide)] at H;exact H
     clear H
     have H:=H1
     clear H1
     obtain rfl:=Option.some.inj H
     go_wp2_with (first|(go_at_call 51;(with_reducible refine (spec_SetOk.calls k1 _ _ l0 false _ ?side1 ?side2 A6.out).mono ?_);(case side1=>repeat (first|exact (Kd.C_below HR0.out HB.out)|(with_reducible refine Kd.C_alloc ?_ _)|(with_reducible refine Kd.C_drewN ?_ _)|(with_reducible refine Kd.C_drew ?_)));(case side2=>exact HC0.out);rintro e w14 ⟨rfl,hb⟩;have n0_:=Aside0.mk (Kd.R_below (by (with_reducible repeat (first|apply Kd.R_alloc|apply Kd.R_drewN|apply Kd.R_drew));exact HO_5.out) hb);have n1_:=Aside0.mk (below_step (by repeat (first|(with_reducible first|exact HB.out|apply below_alloc|apply pw_below_drewN|apply below_drew1)|exact HB.out)) hb);clear HO_5;clear HB;have HO_5:=n0_;have HB:=n1_;clear n0_ n1_;(try clear hb);(try clear hb2);(try clear hk);(try clear hi)))
     go_ret
     exact ⟨_,by first|rfl|(simp [errW_none,errW_some] <;> rfl)|(simp [*,errW_none,errW_some] <;> rfl),by (with_reducible repeat (first|apply Kd.R_alloc|apply Kd.R_drewN|apply Kd.R_drew));exact HO_5.out,by repeat (first|(with_reducible first|exact HB.out|apply below_alloc|apply pw_below_drewN|apply below_drew1)|exact HB.out)⟩
   ·rw [if_neg c5] at H
    have c5b0 : decide (x6_1 < 4) = false:=decide_eq_false c5
    clear c5
    obtain rfl:=Option.some.inj H
    go_wp2
    go_ret
    exact ⟨_,by first|rfl|(simp [errW_none,errW_some] <;> rfl)|(simp [*,errW_none,errW_some] <;> rfl),by (with_reducible repeat (first|apply Kd.R_alloc|apply Kd.R_drewN|apply Kd.R_drew));exact HO_5.out,by repeat (first|(with_reducible first|exact HB.out|apply below_alloc|apply pw_below_drewN|apply below_drew1)|exact HB.out)⟩
def spec_SetLeast.f (k : Nat) (l0 : List (S60)) : Option ((List (S60))) := (spec_l3Sum.f k l0 3).bind fun t161 => (some t161)
theorem spec_SetLeast.mono : ∀ a0 k,LeO (spec_SetLeast.f k a0) (spec_SetLeast.f (k + 1) a0):=by
 intro a0 k
 unfold spec_SetLeast.f
 repeat' first
   | (with_reducible exact spec_l3Sum.mono _ _ _)
   | (with_reducible exact LeO.refl _)
   | (with_reducible exact LeO.none _)
   | (with_reducible refine LeO.ite ?_ ?_)
   | (with_reducible refine LeO.bind ?_ (fun _=>?_))
   | exact spec_l3Sum.mono _ _ _
   | exact LeO.none _
   | refine LeO.ite ?_ ?_
   | refine LeO.bind ?_ (fun _=>?_)
set_option maxHeartbeats 8000000 in
set_option maxRecDepth 100000 in
theorem spec_SetLeast.calls (k : Nat) (A0 : Option Addr) (c0 : Nat) (l0 : List (S60)) (r : List (S60)) (w : World) (hr0 : Kd.C k60 w A0 l0.length l0) (hc0 : l0.length ≤ c0) (h : spec_SetLeast.f k l0 = some r) :
  Calls Try.prog 45 #[.slice A0 l0.length c0] w fun e w'=>∃ v0_ : Value,e = .returned (v0_) ∧ Kd.R k60 60 w' w.heap.size (fun _=>True) v0_ r ∧ Below w.heap.size w w':=by
 have HR0:=Aside0.mk hr0
 have HC0:=Aside0.mk hc0
 clear hr0 hc0
 have HB:=Aside0.mk (Below.refl w.heap.size w)
 have H : ((spec_l3Sum.f k l0 3).bind fun t161=>(some t161)) = some r:=h
 clear h
 replace H:=Option.bind_eq_some_iff.mp H
 obtain ⟨t161,A20,H⟩:=H
 replace H : (some t161) = some r:=H
 have A2:=Aside0.mk A20
 clear A20
 obtain rfl:=Option.some.inj H
 go_enter Try.func45,Try.ntmps45
 go_wp2_with (first|((with_reducible refine gate_callee (f:=69) rfl ?_);refine goesL_ (some 4) rfl rfl Try.func69 (by kernel_rfl) rfl #[.slice A0 l0.length c0,.int .i64 3] rfl (by (try simp only [List.map_toArray,List.map_cons,List.map_nil]);first|done|rfl|(simp only [List.length_drop,List.length_take];rfl)) ?_;(with_reducible refine (spec_l3Sum.calls k _ _ l0 3 t161 _ ?side1 ?side2 A2.out).mono ?_);(case side1=>repeat (first|exact HR0.out|(with_reducible refine Kd.C_alloc ?_ _)|(with_reducible refine Kd.C_drewN ?_ _)|(with_reducible refine Kd.C_drew ?_)));(case side2=>exact HC0.out);rintro e w3 ⟨v162,rfl,ho0,hb⟩;refine ⟨_,rfl,?_⟩;have n0_:=Aside0.mk (Kd.R_lower ho0 (below_size (by repeat (first|(with_reducible first|exact HB.out|apply below_alloc|apply pw_below_drewN|apply below_drew1)|exact HB.out))));have n1_:=Aside0.mk (below_step (by repeat (first|(with_reducible first|exact HB.out|apply below_alloc|apply pw_below_drewN|apply below_drew1)|exact HB.out)) hb);clear HB;have HO163:=n0_;have HB:=n1_;clear n0_ n1_;(try clear hb);(try clear hb2);(try clear hk);(try clear hi);(try clear ho0)))
 go_ret
 exact ⟨_,by first|rfl|(simp [errW_none,errW_some] <;> rfl)|(simp [*,errW_none,errW_some] <;> rfl),by (with_reducible repeat (first|apply Kd.R_alloc|apply Kd.R_drewN|apply Kd.R_drew));exact HO163.out,by repeat (first|(with_reducible first|exact HB.out|apply below_alloc|apply pw_below_drewN|apply below_drew1)|exact HB.out)⟩
def impl_leastOf.l0 : Nat → List (S60) → List (S60) → Int → Int → Option ((List (S60)))
 | 0, _, _, _, _ => none
 | k + 1, x3, x8, x9, x10 => if x10 < x9 then (if 0 ≤ x10 then (if x10 < (x8.length : Int) then (if (x3.length : Int) = 0 then (if x3.length < 5864062014805 then (impl_leastOf.l0 k (x3 ++ [(⟨(rd_T60 x8 x10).f0, (rd_T60 x8 x10).f1, (rd_T60 x8 x10).f2⟩ : S60)]) x8 x9 (wrap64 (x10 + 1))) else (none)) else (if 0 ≤ (wrap64 ((x3.length : Int) - 1)) then (if (wrap64 ((x3.length : Int) - 1)) < (x3.length : Int) then (if ((rd_T60 x3 (wrap64 ((x3.length : Int) - 1))).f0) = ((rd_T60 x8 x10).f0) then (impl_leastOf.l0 k x3 x8 x9 (wrap64 (x10 + 1))) else (if x3.length < 5864062014805 then (impl_leastOf.l0 k (x3 ++ [(⟨(rd_T60 x8 x10).f0, (rd_T60 x8 x10).f1, (rd_T60 x8 x10).f2⟩ : S60)]) x8 x9 (wrap64 (x10 + 1))) else (none))) else (none)) else (none))) else (none)) else (none)) else (some x3)
def impl_leastOf.f (k : Nat) (l0 : List (S60)) : Option ((List (S60))) := (impl_once.f k l0).bind fun t167 => (impl_leastOf.l0 k (([] : List (S60))) t167 (t167.length : Int) 0)
theorem impl_leastOf.mono_l : ∀ k,(∀ y0 y1 y2 y3,LeO (impl_leastOf.l0 k y0 y1 y2 y3) (impl_leastOf.l0 (k + 1) y0 y1 y2 y3))
 | 0=>fun _ _ _ _ r h=>by simp [impl_leastOf.l0] at h
 | k + 1=>by
  have ih0:=impl_leastOf.mono_l k
  ·intro y0 y1 y2 y3
   unfold impl_leastOf.l0
   repeat' first
   | (with_reducible exact ih0 _ _ _ _)
   | (with_reducible exact impl_once.mono _ _)
   | (with_reducible exact LeO.refl _)
   | (with_reducible exact LeO.none _)
   | (with_reducible refine LeO.ite ?_ ?_)
   | (with_reducible refine LeO.bind ?_ (fun _=>?_))
   | exact ih0 _ _ _ _
   | exact impl_once.mono _ _
   | exact LeO.none _
   | refine LeO.ite ?_ ?_
   | refine LeO.bind ?_ (fun _=>?_)
theorem impl_leastOf.mono : ∀ a0 k,LeO (impl_leastOf.f k a0) (impl_leastOf.f (k + 1) a0):=by
 intro a0 k
 have ih0:=impl_leastOf.mono_l k
 unfold impl_leastOf.f
 repeat' first
   | (with_reducible exact ih0 _ _ _ _)
   | (with_reducible exact impl_once.mono _ _)
   | (with_reducible exact LeO.refl _)
   | (with_reducible exact LeO.none _)
   | (with_reducible refine LeO.ite ?_ ?_)
   | (with_reducible refine LeO.bind ?_ (fun _=>?_))
   | exact ih0 _ _ _ _
   | exact impl_once.mono _ _
   | exact LeO.none _
   | refine LeO.ite ?_ ?_
   | refine LeO.bind ?_ (fun _=>?_)
set_option maxHeartbeats 8000000 in
set_option maxRecDepth 100000 in
theorem impl_leastOf.calls (k : Nat) (A0 : Option Addr) (c0 : Nat) (l0 : List (S60)) (r : List (S60)) (w : World) (hr0 : Kd.C k60 w A0 l0.length l0) (hc0 : l0.length ≤ c0) (h : impl_leastOf.f k l0 = some r) :
  Calls Try.prog 78 #[.slice A0 l0.length c0] w fun e w'=>∃ v0_ : Value,e = .returned (v0_) ∧ Kd.R k60 60 w' w.heap.size (fun _=>True) v0_ r ∧ Below w.heap.size w w':=by
 have hu60:=Try.underlying60
 have HR0:=Aside0.mk hr0
 have HC0:=Aside0.mk hc0
 clear hr0 hc0
 have HB:=Aside0.mk (Below.refl w.heap.size w)
 have H : ((impl_once.f k l0).bind fun t167=>(impl_leastOf.l0 k (([] : List (S60))) t167 (t167.length : Int) 0)) = some r:=h
 clear h
 obtain ⟨y164,hy164⟩ : ∃ y_ : List (S60),y_ = (([] : List (S60))):=⟨_,rfl⟩
 replace H : ((impl_once.f k l0).bind fun t167=>(impl_leastOf.l0 k y164 t167 (t167.length : Int) 0)) = some r:=by first|(rw [hy164];with_reducible exact H)|(have H2_:=(Option.bind_some _ _).symm.trans H;rw [hy164];with_reducible exact H2_)|(have H2_:=(Option.bind_some _ _).symm.trans H;with_reducible exact H2_)|with_reducible exact H|(rw [hy164];exact H)|exact H
 have Ny164:=Aside0.mk hy164
 clear hy164
 replace H:=Option.bind_eq_some_iff.mp H
 obtain ⟨t167,A20,H⟩:=H
 replace H : (impl_leastOf.l0 k y164 t167 (t167.length : Int) 0) = some r:=H
 have A2:=Aside0.mk A20
 clear A20
 have H':=Aside0.mk H
 clear H
 go_enter Try.func78,Try.ntmps78
 go_wp2_with (first|((with_reducible refine gate_dst (N:=6) rfl ?_);(try (refine gate_guard (by rfl) ?_;dsimp only));refine Kd.R_lit k60 _ 60 ?hg (N:=6) ?hd (xs:=([] : List (S60))) (inner:=[]) (ok:=fun _=>True) (okp:=fun _=>True) ?hr ?hp (fun _ hk=>hk) trivial (Below.refl _ _) (Nat.le_refl _) (by simp) ?_;(case hd=>rfl);(case hg=>rfl);(case hr=>first|(go_simp;done)|(go_simp;rfl));(case hp=>exact (Reps.none _ _));intro v165 w3 ho4 hb hg_ hnew_;clear hg_ hnew_;(first|rw [← Ny164.out] at ho4|(simp only [Int.reduceToNat] at ho4;rw [← Ny164.out] at ho4));have n0_:=Aside0.mk (Kd.R_lower ho4 (below_size (by repeat (first|(with_reducible first|exact HB.out|apply below_alloc|apply pw_below_drewN|apply below_drew1)|exact HB.out))));have n1_:=Aside0.mk (below_step (by repeat (first|(with_reducible first|exact HB.out|apply below_alloc|apply pw_below_drewN|apply below_drew1)|exact HB.out)) hb);clear HB;have HO166:=n0_;have HB:=n1_;clear n0_ n1_;clear hb ho4)|(go_at_call 70;(with_reducible refine (impl_once.calls k _ _ l0 t167 _ ?side1 ?side2 A2.out).mono ?_);(case side1=>repeat (first|exact (Kd.C_below HR0.out HB.out)|(with_reducible refine Kd.C_alloc ?_ _)|(with_reducible refine Kd.C_drewN ?_ _)|(with_reducible refine Kd.C_drew ?_)));(case side2=>exact HC0.out);rintro e w5 ⟨v168,rfl,ho0,hb⟩;have n0_:=Aside0.mk (Kd.R_elder' (by (with_reducible repeat (first|apply Kd.R_alloc|apply Kd.R_drewN|apply Kd.R_drew));exact HO166.out) (Kd.R_base ho0) hb);have n1_:=Aside0.mk (Kd.R_lower (Kd.R_new' ho0 (Kd.R_lt (by (with_reducible repeat (first|apply Kd.R_alloc|apply Kd.R_drewN|apply Kd.R_drew));exact HO166.out))) (below_size (by repeat (first|(with_reducible first|exact HB.out|apply below_alloc|apply pw_below_drewN|apply below_drew1)|exact HB.out))));have n2_:=Aside0.mk (below_step (by repeat (first|(with_reducible first|exact HB.out|apply below_alloc|apply pw_below_drewN|apply below_drew1)|exact HB.out)) hb);clear HO166;clear HB;have HO166:=n0_;have HO169:=n1_;have HB:=n2_;clear n0_ n1_ n2_;(try clear hb);(try clear hb2);(try clear hk);(try clear hi);(try clear ho0);obtain ⟨Ao6,co6,eo6⟩:=Kd.R_slice HO169.out;subst eo6))
 repeat (go_quiet (first|((with_reducible refine gate_dst (N:=6) rfl ?_);(try (refine gate_guard (by rfl) ?_;dsimp only));refine Kd.R_lit k60 _ 60 ?hg (N:=6) ?hd (xs:=([] : List (S60))) (inner:=[]) (ok:=fun _=>True) (okp:=fun _=>True) ?hr ?hp (fun _ hk=>hk) trivial (Below.refl _ _) (Nat.le_refl _) (by simp) ?_;(case hd=>rfl);(case hg=>rfl);(case hr=>first|(go_simp;done)|(go_simp;rfl));(case hp=>exact (Reps.none _ _));intro v165 w3 ho4 hb hg_ hnew_;clear hg_ hnew_;(first|rw [← Ny164.out] at ho4|(simp only [Int.reduceToNat] at ho4;rw [← Ny164.out] at ho4));have n0_:=Aside0.mk (Kd.R_lower ho4 (below_size (by repeat (first|(with_reducible first|exact HB.out|apply below_alloc|apply pw_below_drewN|apply below_drew1)|exact HB.out))));have n1_:=Aside0.mk (below_step (by repeat (first|(with_reducible first|exact HB.out|apply below_alloc|apply pw_below_drewN|apply below_drew1)|exact HB.out)) hb);clear HB;have HO166:=n0_;have HB:=n1_;clear n0_ n1_;clear hb ho4)|(go_at_call 70;(with_reducible refine (impl_once.calls k _ _ l0 t167 _ ?side1 ?side2 A2.out).mono ?_);(case side1=>repeat (first|exact (Kd.C_below HR0.out HB.out)|(with_reducible refine Kd.C_alloc ?_ _)|(with_reducible refine Kd.C_drewN ?_ _)|(with_reducible refine Kd.C_drew ?_)));(case side2=>exact HC0.out);rintro e w5 ⟨v168,rfl,ho0,hb⟩;have n0_:=Aside0.mk (Kd.R_elder' (by (with_reducible repeat (first|apply Kd.R_alloc|apply Kd.R_drewN|apply Kd.R_drew));exact HO166.out) (Kd.R_base ho0) hb);have n1_:=Aside0.mk (Kd.R_lower (Kd.R_new' ho0 (Kd.R_lt (by (with_reducible repeat (first|apply Kd.R_alloc|apply Kd.R_drewN|apply Kd.R_drew));exact HO166.out))) (below_size (by repeat (first|(with_reducible first|exact HB.out|apply below_alloc|apply pw_below_drewN|apply below_drew1)|exact HB.out))));have n2_:=Aside0.mk (below_step (by repeat (first|(with_reducible first|exact HB.out|apply below_alloc|apply pw_below_drewN|apply below_drew1)|exact HB.out)) hb);clear HO166;clear HB;have HO166:=n0_;have HO169:=n1_;have HB:=n2_;clear n0_ n1_ n2_;(try clear hb);(try clear hb2);(try clear hk);(try clear hi);(try clear ho0);obtain ⟨Ao6,co6,eo6⟩:=Kd.R_slice HO169.out;subst eo6));try go_wp2_with (first|((with_reducible refine gate_dst (N:=6) rfl ?_);(try (refine gate_guard (by rfl) ?_;dsimp only));refine Kd.R_lit k60 _ 60 ?hg (N:=6) ?hd (xs:=([] : List (S60))) (inner:=[]) (ok:=fun _=>True) (okp:=fun _=>True) ?hr ?hp (fun _ hk=>hk) trivial (Below.refl _ _) (Nat.le_refl _) (by simp) ?_;(case hd=>rfl);(case hg=>rfl);(case hr=>first|(go_simp;done)|(go_simp;rfl));(case hp=>exact (Reps.none _ _));intro v165 w3 ho4 hb hg_ hnew_;clear hg_ hnew_;(first|rw [← Ny164.out] at ho4|(simp only [Int.reduceToNat] at ho4;rw [← Ny164.out] at ho4));have n0_:=Aside0.mk (Kd.R_lower ho4 (below_size (by repeat (first|(with_reducible first|exact HB.out|apply below_alloc|apply pw_below_drewN|apply below_drew1)|exact HB.out))));have n1_:=Aside0.mk (below_step (by repeat (first|(with_reducible first|exact HB.out|apply below_alloc|apply pw_below_drewN|apply below_drew1)|exact HB.out)) hb);clear HB;have HO166:=n0_;have HB:=n1_;clear n0_ n1_;clear hb ho4)|(go_at_call 70;(with_reducible refine (impl_once.calls k _ _ l0 t167 _ ?side1 ?side2 A2.out).mono ?_);(case side1=>repeat (first|exact (Kd.C_below HR0.out HB.out)|(with_reducible refine Kd.C_alloc ?_ _)|(with_reducible refine Kd.C_drewN ?_ _)|(with_reducible refine Kd.C_drew ?_)));(case side2=>exact HC0.out);rintro e w5 ⟨v168,rfl,ho0,hb⟩;have n0_:=Aside0.mk (Kd.R_elder' (by (with_reducible repeat (first|apply Kd.R_alloc|apply Kd.R_drewN|apply Kd.R_drew));exact HO166.out) (Kd.R_base ho0) hb);have n1_:=Aside0.mk (Kd.R_lower (Kd.R_new' ho0 (Kd.R_lt (by (with_reducible repeat (first|apply Kd.R_alloc|apply Kd.R_drewN|apply Kd.R_drew));exact HO166.out))) (below_size (by repeat (first|(with_reducible first|exact HB.out|apply below_alloc|apply pw_below_drewN|apply below_drew1)|exact HB.out))));have n2_:=Aside0.mk (below_step (by repeat (first|(with_reducible first|exact HB.out|apply below_alloc|apply pw_below_drewN|apply below_drew1)|exact HB.out)) hb);clear HO166;clear HB;have HO166:=n0_;have HO169:=n1_;have HB:=n2_;clear n0_ n1_ n2_;(try clear hb);(try clear hb2);(try clear hk);(try clear hi);(try clear ho0);obtain ⟨Ao6,co6,eo6⟩:=Kd.R_slice HO169.out;subst eo6)))
 go_loopg [3,10] k (fun kq v3 v10 w'=>∃ (x3_1 : List (S60)) (x10_1 : Int),v10 = .int .i64 x10_1 ∧ Aside0 (impl_leastOf.l0 kq x3_1 t167 (t167.length : Int) x10_1 = some r) ∧ Aside0 (kq ≤ k) ∧ Aside0 (Kd.R k60 60 w' w.heap.size (fun k_=>some k_ ≠ ((.slice Ao6 t167.length co6) : Value).ownBlock) v3 x3_1) ∧ Aside0 (Kd.R k60 60 w' w.heap.size (fun k_=>some k_ ≠ (v3 : Value).ownBlock) (.slice Ao6 t167.length co6) t167) ∧ Aside0 (Below w.heap.size w w'))
 case atStart=>exact ⟨(y164),(0),(by first|rfl|(simp;done)|(simp [*];done)),H',⟨Nat.le_refl _⟩,⟨by (with_reducible repeat (first|apply Kd.R_alloc|apply Kd.R_drewN|apply Kd.R_drew));exact Kd.R_mono HO166.out (fun _ hk=>hk.2)⟩,⟨by (with_reducible repeat (first|apply Kd.R_alloc|apply Kd.R_drewN|apply Kd.R_drew));exact Kd.R_mono HO169.out (fun _ hk=>hk.2)⟩,⟨by repeat (first|(with_reducible first|exact HB.out|apply below_alloc|apply pw_below_drewN|apply below_drew1)|exact HB.out)⟩⟩
 case round =>
  clear H'
  try clear p2
  obtain ⟨x3_1,x10_1,rfl,HA,HK1,HO_3,HO_8,HB⟩:=hrel
  cases gk with
  | zero=>exact absurd HA.out (by simp [impl_leastOf.l0])
  | succ k1 =>
   have H:=HA.out
   clear HA
   simp only [impl_leastOf.l0] at H
   by_cases c7 : x10_1 < (t167.length : Int)
   ·rw [if_pos c7] at H
    have c7b0 : decide (x10_1 < (t167.length : Int)) = true:=decide_eq_true c7
    clear c7
    by_cases c8 : 0 ≤ x10_1
    ·rw [if_pos c8] at H
     have c8b0 : decide (0 ≤ x10_1) = true:=decide_eq_true c8
     clear c8
     by_cases c9 : x10_1 < (t167.length : Int)
     ·rw [if_pos c9] at H
      have c9b0 : decide (x10_1 < (t167.length : Int)) = true:=decide_eq_true c9
      clear c9
      by_cases c10 : (x3_1.length : Int) = 0
      ·rw [if_pos c10] at H
       have c10b0 : ((x3_1.length : Int) == 0) = true:=beq_iff_eq.mpr c10
       have c10b1 : ((x3_1.length : Int) != 0) = false:=bne_eq_false_iff_eq.mpr c10
       clear c10
       by_cases c11 : x3_1.length < 5864062014805
       ·rw [if_pos c11] at H
        have LMc11:=Aside0.mk c11
        clear c11
        obtain ⟨y172,hy172⟩ : ∃ y_ : List (S60),y_ = (x3_1 ++ [(⟨(rd_T60 t167 x10_1).f0,(rd_T60 t167 x10_1).f1,(rd_T60 t167 x10_1).f2⟩ : S60)]):=⟨_,rfl⟩
        replace H : (impl_leastOf.l0 k1 y172 t167 (t167.length : Int) (wrap64 (x10_1 + 1))) = some r:=by first|(rw [hy172];with_reducible exact H)|(have H2_:=(Option.bind_some _ _).symm.trans H;rw [hy172];with_reducible exact H2_)|(have H2_:=(Option.bind_some _ _).symm.trans H;with_reducible exact H2_)|with_reducible exact H|(rw [hy172];exact H)|exact H
        have Ny172:=Aside0.mk hy172
        clear hy172
        have H':=Aside0.mk H
        clear H
        have p170 : 0 ≤ (x10_1 : Int):=of_decide_eq_true (by first|(with_reducible assumption)|assumption)
        have q170 : x10_1 < (t167.length : Int):=of_decide_eq_true (by first|(with_reducible assumption)|assumption)
        obtain ⟨ad170,e170,hx170_0,hx170_1,hx170_2⟩:=at_T60 (Kd.R_reads' HO_8.out).2.2 x10_1 p170 q170
        cases e170
        replace p170:=eq_true p170
        replace q170:=eq_true q170
        go_wp2_with (first|((with_reducible refine gate_dst (N:=5) rfl ?_);(try (refine gate_guard (by rfl) ?_;dsimp only));refine box_event ?hg (N:=5) ?hd (cs:=#[.int .i64 0,.int .i64 0,.int .i64 0]) (t:=60) ?hr ?_;(case hd=>rfl);(case hg=>rfl);(case hr=>first|(go_simp;done)|(go_simp;rfl));intro gb171 hg w12 hbox hb;have n0_:=Aside0.mk (Kd.R_below (Kd.R_elderB (by (with_reducible repeat (first|apply Kd.R_alloc|apply Kd.R_drewN|apply Kd.R_drew));exact HO_3.out) gb171 (Nat.le_of_eq hg.symm)) hb);have n1_:=Aside0.mk (Kd.R_below (Kd.R_elderB (by (with_reducible repeat (first|apply Kd.R_alloc|apply Kd.R_drewN|apply Kd.R_drew));exact HO_8.out) gb171 (Nat.le_of_eq hg.symm)) hb);have n2_:=Aside0.mk (below_step (by repeat (first|(with_reducible first|exact HB.out|apply below_alloc|apply pw_below_drewN|apply below_drew1)|exact HB.out)) hb);have n3_:=Aside0.mk (hbox);have n4_:=Aside0.mk ((by rw [hg];exact (below_size (by repeat (first|(with_reducible first|exact HB.out|apply below_alloc|apply pw_below_drewN|apply below_drew1)|exact HB.out))) : w.heap.size ≤ gb171));have n5_:=n4_;clear HO_3;clear HO_8;clear HB;have HO_3:=n0_;have HO_8:=n1_;have HB:=n2_;have BK171:=n3_;have GW171:=n4_;have GE171:=n5_;clear n0_ n1_ n2_ n3_ n4_ n5_;clear hb hbox hg;have hcz13_0 : w12.cell? ⟨gb171,0,none⟩ = some (.int .i64 0):=(blk_cell BK171.out 0).trans rfl;have hcz13_1 : w12.cell? ⟨gb171,1,none⟩ = some (.int .i64 0):=(blk_cell BK171.out 1).trans rfl;have hcz13_2 : w12.cell? ⟨gb171,2,none⟩ = some (.int .i64 0):=(blk_cell BK171.out 2).trans rfl;have hfz13_0:=blk_frozen BK171.out 0;have hfz13_1:=blk_frozen BK171.out 1;have hfz13_2:=blk_frozen BK171.out 2;obtain ⟨Ao14,co14,eo14⟩:=Kd.R_slice HO_3.out;subst eo14)|((with_reducible refine gate_builtin (b:=.append) (xs:=#[.tmp 29,.tmp 31]) rfl ?_);(try (refine gate_guard (by rfl) ?_;dsimp only));at_builtin;refine Kd.R_append k60 (w0:=w) w.heap.size rfl (.tmp 29) (.tmp 31) 36 60 (.agg #[(.int .i64 0),(.int .i64 0),(.int .i64 0)]) 24 rfl Try.underlying36 info60 rfl (by decide) (by omega) (.slice Ao14 x3_1.length co14) x3_1 (⟨(rd_T60 t167 x10_1).f0,(rd_T60 t167 x10_1).f1,(rd_T60 t167 x10_1).f2⟩ : S60) [.int .i64 ((rd_T60 t167 x10_1).f0),.int .i64 ((rd_T60 t167 x10_1).f1),.int .i64 ((rd_T60 t167 x10_1).f2)] (fun k_=>some k_ ≠ (.slice (some ad170) t167.length co6 : Value).ownBlock ∧ k_ ≠ gb171) (fun _=>False) rfl (by first|(go_simp;done)|(go_simp;rfl)) ?aP (fun _ hk=>hk.elim) ?aF ?aO ?aB ?aS ?aL ?_;(case aP=>exact k60_mkM _ _ _ (⟨(rd_T60 t167 x10_1).f0,(rd_T60 t167 x10_1).f1,(rd_T60 t167 x10_1).f2⟩ : S60));(case aB=>exact (by repeat (first|(with_reducible first|exact HB.out|apply below_alloc|apply pw_below_drewN|apply below_drew1|refine below_set ?_ GE171.out)|exact HB.out)));(case aF=>exact (fun k_ hk=>⟨Kd.fresh' (Kd.R_lt (by (with_reducible repeat (first|apply Kd.R_alloc|apply Kd.R_drewN|apply Kd.R_drew));exact (Kd.R_mono (Kd.R_far (p:=⟨gb171,2,none⟩) (Kd.R_far (p:=⟨gb171,1,none⟩) (Kd.R_far (p:=⟨gb171,0,none⟩) (Kd.R_mono HO_8.out (fun k_ hk=>(⟨hk,hk.2⟩ : _ ∧ k_ ≠ gb171))) (fun _ hk=>hk.2) (.int .i64 ((rd_T60 t167 x10_1).f0))) (fun _ hk=>hk.2) (.int .i64 ((rd_T60 t167 x10_1).f1))) (fun _ hk=>hk.2) (.int .i64 ((rd_T60 t167 x10_1).f2))) (fun _ h_=>h_.1)))) k_ hk,Kd.freshB (g:=gb171) (o:=.cells #[.int .i64 ((rd_T60 t167 x10_1).f0),.int .i64 ((rd_T60 t167 x10_1).f1),.int .i64 ((rd_T60 t167 x10_1).f2)] 60 (0,0)) (by (with_reducible repeat (first|refine blk_drewN ?_ _|refine blk_drew ?_|refine blk_alloc ?_ _));refine blk_put (cs:=#[.int .i64 ((rd_T60 t167 x10_1).f0),.int .i64 ((rd_T60 t167 x10_1).f1),.int .i64 0]) ?_ 2 _ rfl;(with_reducible repeat (first|refine blk_drewN ?_ _|refine blk_drew ?_|refine blk_alloc ?_ _));refine blk_put (cs:=#[.int .i64 ((rd_T60 t167 x10_1).f0),.int .i64 0,.int .i64 0]) ?_ 1 _ rfl;(with_reducible repeat (first|refine blk_drewN ?_ _|refine blk_drew ?_|refine blk_alloc ?_ _));refine blk_put (cs:=#[.int .i64 0,.int .i64 0,.int .i64 0]) ?_ 0 _ rfl;(with_reducible repeat (first|refine blk_drewN ?_ _|refine blk_drew ?_|refine blk_alloc ?_ _));exact BK171.out) k_ hk⟩));(case aO=>exact (by (with_reducible repeat (first|apply Kd.R_alloc|apply Kd.R_drewN|apply Kd.R_drew));exact Kd.R_mono (Kd.R_far (p:=⟨gb171,2,none⟩) (Kd.R_far (p:=⟨gb171,1,none⟩) (Kd.R_far (p:=⟨gb171,0,none⟩) (Kd.R_mono HO_3.out (fun k_ hk=>(⟨hk,hk.2⟩ : _ ∧ k_ ≠ gb171))) (fun _ hk=>hk.2) (.int .i64 ((rd_T60 t167 x10_1).f0))) (fun _ hk=>hk.2) (.int .i64 ((rd_T60 t167 x10_1).f1))) (fun _ hk=>hk.2) (.int .i64 ((rd_T60 t167 x10_1).f2))) (fun _ hk=>⟨hk.1.1,hk.1.2⟩)));(case aS=>exact (below_size (by repeat (first|(with_reducible first|exact HB.out|apply below_alloc|apply pw_below_drewN|apply below_drew1|refine below_set ?_ GE171.out)|exact HB.out))));(case aL=>have:=LMc11.out;omega);intro v173 w15 ho hb hg hat;rw [← Ny172.out] at ho;have n0_:=Aside0.mk (Kd.R_after (ok:=(fun k_=>k_ ≠ gb171)) (by (with_reducible repeat (first|apply Kd.R_alloc|apply Kd.R_drewN|apply Kd.R_drew));exact Kd.R_mono (Kd.R_far (p:=⟨gb171,2,none⟩) (Kd.R_far (p:=⟨gb171,1,none⟩) (Kd.R_far (p:=⟨gb171,0,none⟩) (Kd.R_mono HO_8.out (fun k_ hk=>(⟨hk,hk.2⟩ : _ ∧ k_ ≠ gb171))) (fun _ hk=>hk.2) (.int .i64 ((rd_T60 t167 x10_1).f0))) (fun _ hk=>hk.2) (.int .i64 ((rd_T60 t167 x10_1).f1))) (fun _ hk=>hk.2) (.int .i64 ((rd_T60 t167 x10_1).f2))) (fun _ hk=>⟨hk.1.2,hk.1.1⟩)) hg hat);have n1_:=Aside0.mk (blk_grown (g:=gb171) (o:=.cells #[.int .i64 ((rd_T60 t167 x10_1).f0),.int .i64 ((rd_T60 t167 x10_1).f1),.int .i64 ((rd_T60 t167 x10_1).f2)] 60 (0,0)) (by (with_reducible repeat (first|refine blk_drewN ?_ _|refine blk_drew ?_|refine blk_alloc ?_ _));refine blk_put (cs:=#[.int .i64 ((rd_T60 t167 x10_1).f0),.int .i64 ((rd_T60 t167 x10_1).f1),.int .i64 0]) ?_ 2 _ rfl;(with_reducible repeat (first|refine blk_drewN ?_ _|refine blk_drew ?_|refine blk_alloc ?_ _));refine blk_put (cs:=#[.int .i64 ((rd_T60 t167 x10_1).f0),.int .i64 0,.int .i64 0]) ?_ 1 _ rfl;(with_reducible repeat (first|refine blk_drewN ?_ _|refine blk_drew ?_|refine blk_alloc ?_ _));refine blk_put (cs:=#[.int .i64 0,.int .i64 0,.int .i64 0]) ?_ 0 _ rfl;(with_reducible repeat (first|refine blk_drewN ?_ _|refine blk_drew ?_|refine blk_alloc ?_ _));exact BK171.out) hg (Kd.R_away HO_3.out (fun _ hk=>hk.2)));have n2_:=Aside0.mk (hb);have n3_:=Aside0.mk (ho);clear HO_8;clear BK171;clear HB;clear HO_3;have HO_8:=n0_;have BK171:=n1_;have HB:=n2_;have HO174:=n3_;clear n0_ n1_ n2_ n3_;clear ho hb hg hat))
        repeat (go_quiet (first|((with_reducible refine gate_dst (N:=5) rfl ?_);(try (refine gate_guard (by rfl) ?_;dsimp only));refine box_event ?hg (N:=5) ?hd (cs:=#[.int .i64 0,.int .i64 0,.int .i64 0]) (t:=60) ?hr ?_;(case hd=>rfl);(case hg=>rfl);(case hr=>first|(go_simp;done)|(go_simp;rfl));intro gb171 hg w12 hbox hb;have n0_:=Aside0.mk (Kd.R_below (Kd.R_elderB (by (with_reducible repeat (first|apply Kd.R_alloc|apply Kd.R_drewN|apply Kd.R_drew));exact HO_3.out) gb171 (Nat.le_of_eq hg.symm)) hb);have n1_:=Aside0.mk (Kd.R_below (Kd.R_elderB (by (with_reducible repeat (first|apply Kd.R_alloc|apply Kd.R_drewN|apply Kd.R_drew));exact HO_8.out) gb171 (Nat.le_of_eq hg.symm)) hb);have n2_:=Aside0.mk (below_step (by repeat (first|(with_reducible first|exact HB.out|apply below_alloc|apply pw_below_drewN|apply below_drew1)|exact HB.out)) hb);have n3_:=Aside0.mk (hbox);have n4_:=Aside0.mk ((by rw [hg];exact (below_size (by repeat (first|(with_reducible first|exact HB.out|apply below_alloc|apply pw_below_drewN|apply below_drew1)|exact HB.out))) : w.heap.size ≤ gb171));have n5_:=n4_;clear HO_3;clear HO_8;clear HB;have HO_3:=n0_;have HO_8:=n1_;have HB:=n2_;have BK171:=n3_;have GW171:=n4_;have GE171:=n5_;clear n0_ n1_ n2_ n3_ n4_ n5_;clear hb hbox hg;have hcz13_0 : w12.cell? ⟨gb171,0,none⟩ = some (.int .i64 0):=(blk_cell BK171.out 0).trans rfl;have hcz13_1 : w12.cell? ⟨gb171,1,none⟩ = some (.int .i64 0):=(blk_cell BK171.out 1).trans rfl;have hcz13_2 : w12.cell? ⟨gb171,2,none⟩ = some (.int .i64 0):=(blk_cell BK171.out 2).trans rfl;have hfz13_0:=blk_frozen BK171.out 0;have hfz13_1:=blk_frozen BK171.out 1;have hfz13_2:=blk_frozen BK171.out 2;obtain ⟨Ao14,co14,eo14⟩:=Kd.R_slice HO_3.out;subst eo14)|((with_reducible refine gate_builtin (b:=.append) (xs:=#[.tmp 29,.tmp 31]) rfl ?_);(try (refine gate_guard (by rfl) ?_;dsimp only));at_builtin;refine Kd.R_append k60 (w0:=w) w.heap.size rfl (.tmp 29) (.tmp 31) 36 60 (.agg #[(.int .i64 0),(.int .i64 0),(.int .i64 0)]) 24 rfl Try.underlying36 info60 rfl (by decide) (by omega) (.slice Ao14 x3_1.length co14) x3_1 (⟨(rd_T60 t167 x10_1).f0,(rd_T60 t167 x10_1).f1,(rd_T60 t167 x10_1).f2⟩ : S60) [.int .i64 ((rd_T60 t167 x10_1).f0),.int .i64 ((rd_T60 t167 x10_1).f1),.int .i64 ((rd_T60 t167 x10_1).f2)] (fun k_=>some k_ ≠ (.slice (some ad170) t167.length co6 : Value).ownBlock ∧ k_ ≠ gb171) (fun _=>False) rfl (by first|(go_simp;done)|(go_simp;rfl)) ?aP (fun _ hk=>hk.elim) ?aF ?aO ?aB ?aS ?aL ?_;(case aP=>exact k60_mkM _ _ _ (⟨(rd_T60 t167 x10_1).f0,(rd_T60 t167 x10_1).f1,(rd_T60 t167 x10_1).f2⟩ : S60));(case aB=>exact (by repeat (first|(with_reducible first|exact HB.out|apply below_alloc|apply pw_below_drewN|apply below_drew1|refine below_set ?_ GE171.out)|exact HB.out)));(case aF=>exact (fun k_ hk=>⟨Kd.fresh' (Kd.R_lt (by (with_reducible repeat (first|apply Kd.R_alloc|apply Kd.R_drewN|apply Kd.R_drew));exact (Kd.R_mono (Kd.R_far (p:=⟨gb171,2,none⟩) (Kd.R_far (p:=⟨gb171,1,none⟩) (Kd.R_far (p:=⟨gb171,0,none⟩) (Kd.R_mono HO_8.out (fun k_ hk=>(⟨hk,hk.2⟩ : _ ∧ k_ ≠ gb171))) (fun _ hk=>hk.2) (.int .i64 ((rd_T60 t167 x10_1).f0))) (fun _ hk=>hk.2) (.int .i64 ((rd_T60 t167 x10_1).f1))) (fun _ hk=>hk.2) (.int .i64 ((rd_T60 t167 x10_1).f2))) (fun _ h_=>h_.1)))) k_ hk,Kd.freshB (g:=gb171) (o:=.cells #[.int .i64 ((rd_T60 t167 x10_1).f0),.int .i64 ((rd_T60 t167 x10_1).f1),.int .i64 ((rd_T60 t167 x10_1).f2)] 60 (0,0)) (by (with_reducible repeat (first|refine blk_drewN ?_ _|refine blk_drew ?_|refine blk_alloc ?_ _));refine blk_put (cs:=#[.int .i64 ((rd_T60 t167 x10_1).f0),.int .i64 ((rd_T60 t167 x10_1).f1),.int .i64 0]) ?_ 2 _ rfl;(with_reducible repeat (first|refine blk_drewN ?_ _|refine blk_drew ?_|refine blk_alloc ?_ _));refine blk_put (cs:=#[.int .i64 ((rd_T60 t167 x10_1).f0),.int .i64 0,.int .i64 0]) ?_ 1 _ rfl;(with_reducible repeat (first|refine blk_drewN ?_ _|refine blk_drew ?_|refine blk_alloc ?_ _));refine blk_put (cs:=#[.int .i64 0,.int .i64 0,.int .i64 0]) ?_ 0 _ rfl;(with_reducible repeat (first|refine blk_drewN ?_ _|refine blk_drew ?_|refine blk_alloc ?_ _));exact BK171.out) k_ hk⟩));(case aO=>exact (by (with_reducible repeat (first|apply Kd.R_alloc|apply Kd.R_drewN|apply Kd.R_drew));exact Kd.R_mono (Kd.R_far (p:=⟨gb171,2,none⟩) (Kd.R_far (p:=⟨gb171,1,none⟩) (Kd.R_far (p:=⟨gb171,0,none⟩) (Kd.R_mono HO_3.out (fun k_ hk=>(⟨hk,hk.2⟩ : _ ∧ k_ ≠ gb171))) (fun _ hk=>hk.2) (.int .i64 ((rd_T60 t167 x10_1).f0))) (fun _ hk=>hk.2) (.int .i64 ((rd_T60 t167 x10_1).f1))) (fun _ hk=>hk.2) (.int .i64 ((rd_T60 t167 x10_1).f2))) (fun _ hk=>⟨hk.1.1,hk.1.2⟩)));(case aS=>exact (below_size (by repeat (first|(with_reducible first|exact HB.out|apply below_alloc|apply pw_below_drewN|apply below_drew1|refine below_set ?_ GE171.out)|exact HB.out))));(case aL=>have:=LMc11.out;omega);intro v173 w15 ho hb hg hat;rw [← Ny172.out] at ho;have n0_:=Aside0.mk (Kd.R_after (ok:=(fun k_=>k_ ≠ gb171)) (by (with_reducible repeat (first|apply Kd.R_alloc|apply Kd.R_drewN|apply Kd.R_drew));exact Kd.R_mono (Kd.R_far (p:=⟨gb171,2,none⟩) (Kd.R_far (p:=⟨gb171,1,none⟩) (Kd.R_far (p:=⟨gb171,0,none⟩) (Kd.R_mono HO_8.out (fun k_ hk=>(⟨hk,hk.2⟩ : _ ∧ k_ ≠ gb171))) (fun _ hk=>hk.2) (.int .i64 ((rd_T60 t167 x10_1).f0))) (fun _ hk=>hk.2) (.int .i64 ((rd_T60 t167 x10_1).f1))) (fun _ hk=>hk.2) (.int .i64 ((rd_T60 t167 x10_1).f2))) (fun _ hk=>⟨hk.1.2,hk.1.1⟩)) hg hat);have n1_:=Aside0.mk (blk_grown (g:=gb171) (o:=.cells #[.int .i64 ((rd_T60 t167 x10_1).f0),.int .i64 ((rd_T60 t167 x10_1).f1),.int .i64 ((rd_T60 t167 x10_1).f2)] 60 (0,0)) (by (with_reducible repeat (first|refine blk_drewN ?_ _|refine blk_drew ?_|refine blk_alloc ?_ _));refine blk_put (cs:=#[.int .i64 ((rd_T60 t167 x10_1).f0),.int .i64 ((rd_T60 t167 x10_1).f1),.int .i64 0]) ?_ 2 _ rfl;(with_reducible repeat (first|refine blk_drewN ?_ _|refine blk_drew ?_|refine blk_alloc ?_ _));refine blk_put (cs:=#[.int .i64 ((rd_T60 t167 x10_1).f0),.int .i64 0,.int .i64 0]) ?_ 1 _ rfl;(with_reducible repeat (first|refine blk_drewN ?_ _|refine blk_drew ?_|refine blk_alloc ?_ _));refine blk_put (cs:=#[.int .i64 0,.int .i64 0,.int .i64 0]) ?_ 0 _ rfl;(with_reducible repeat (first|refine blk_drewN ?_ _|refine blk_drew ?_|refine blk_alloc ?_ _));exact BK171.out) hg (Kd.R_away HO_3.out (fun _ hk=>hk.2)));have n2_:=Aside0.mk (hb);have n3_:=Aside0.mk (ho);clear HO_8;clear BK171;clear HB;clear HO_3;have HO_8:=n0_;have BK171:=n1_;have HB:=n2_;have HO174:=n3_;clear n0_ n1_ n2_ n3_;clear ho hb hg hat));try go_wp2_with (first|((with_reducible refine gate_dst (N:=5) rfl ?_);(try (refine gate_guard (by rfl) ?_;dsimp only));refine box_event ?hg (N:=5) ?hd (cs:=#[.int .i64 0,.int .i64 0,.int .i64 0]) (t:=60) ?hr ?_;(case hd=>rfl);(case hg=>rfl);(case hr=>first|(go_simp;done)|(go_simp;rfl));intro gb171 hg w12 hbox hb;have n0_:=Aside0.mk (Kd.R_below (Kd.R_elderB (by (with_reducible repeat (first|apply Kd.R_alloc|apply Kd.R_drewN|apply Kd.R_drew));exact HO_3.out) gb171 (Nat.le_of_eq hg.symm)) hb);have n1_:=Aside0.mk (Kd.R_below (Kd.R_elderB (by (with_reducible repeat (first|apply Kd.R_alloc|apply Kd.R_drewN|apply Kd.R_drew));exact HO_8.out) gb171 (Nat.le_of_eq hg.symm)) hb);have n2_:=Aside0.mk (below_step (by repeat (first|(with_reducible first|exact HB.out|apply below_alloc|apply pw_below_drewN|apply below_drew1)|exact HB.out)) hb);have n3_:=Aside0.mk (hbox);have n4_:=Aside0.mk ((by rw [hg];exact (below_size (by repeat (first|(with_reducible first|exact HB.out|apply below_alloc|apply pw_below_drewN|apply below_drew1)|exact HB.out))) : w.heap.size ≤ gb171));have n5_:=n4_;clear HO_3;clear HO_8;clear HB;have HO_3:=n0_;have HO_8:=n1_;have HB:=n2_;have BK171:=n3_;have GW171:=n4_;have GE171:=n5_;clear n0_ n1_ n2_ n3_ n4_ n5_;clear hb hbox hg;have hcz13_0 : w12.cell? ⟨gb171,0,none⟩ = some (.int .i64 0):=(blk_cell BK171.out 0).trans rfl;have hcz13_1 : w12.cell? ⟨gb171,1,none⟩ = some (.int .i64 0):=(blk_cell BK171.out 1).trans rfl;have hcz13_2 : w12.cell? ⟨gb171,2,none⟩ = some (.int .i64 0):=(blk_cell BK171.out 2).trans rfl;have hfz13_0:=blk_frozen BK171.out 0;have hfz13_1:=blk_frozen BK171.out 1;have hfz13_2:=blk_frozen BK171.out 2;obtain ⟨Ao14,co14,eo14⟩:=Kd.R_slice HO_3.out;subst eo14)|((with_reducible refine gate_builtin (b:=.append) (xs:=#[.tmp 29,.tmp 31]) rfl ?_);(try (refine gate_guard (by rfl) ?_;dsimp only));at_builtin;refine Kd.R_append k60 (w0:=w) w.heap.size rfl (.tmp 29) (.tmp 31) 36 60 (.agg #[(.int .i64 0),(.int .i64 0),(.int .i64 0)]) 24 rfl Try.underlying36 info60 rfl (by decide) (by omega) (.slice Ao14 x3_1.length co14) x3_1 (⟨(rd_T60 t167 x10_1).f0,(rd_T60 t167 x10_1).f1,(rd_T60 t167 x10_1).f2⟩ : S60) [.int .i64 ((rd_T60 t167 x10_1).f0),.int .i64 ((rd_T60 t167 x10_1).f1),.int .i64 ((rd_T60 t167 x10_1).f2)] (fun k_=>some k_ ≠ (.slice (some ad170) t167.length co6 : Value).ownBlock ∧ k_ ≠ gb171) (fun _=>False) rfl (by first|(go_simp;done)|(go_simp;rfl)) ?aP (fun _ hk=>hk.elim) ?aF ?aO ?aB ?aS ?aL ?_;(case aP=>exact k60_mkM _ _ _ (⟨(rd_T60 t167 x10_1).f0,(rd_T60 t167 x10_1).f1,(rd_T60 t167 x10_1).f2⟩ : S60));(case aB=>exact (by repeat (first|(with_reducible first|exact HB.out|apply below_alloc|apply pw_below_drewN|apply below_drew1|refine below_set ?_ GE171.out)|exact HB.out)));(case aF=>exact (fun k_ hk=>⟨Kd.fresh' (Kd.R_lt (by (with_reducible repeat (first|apply Kd.R_alloc|apply Kd.R_drewN|apply Kd.R_drew));exact (Kd.R_mono (Kd.R_far (p:=⟨gb171,2,none⟩) (Kd.R_far (p:=⟨gb171,1,none⟩) (Kd.R_far (p:=⟨gb171,0,none⟩) (Kd.R_mono HO_8.out (fun k_ hk=>(⟨hk,hk.2⟩ : _ ∧ k_ ≠ gb171))) (fun _ hk=>hk.2) (.int .i64 ((rd_T60 t167 x10_1).f0))) (fun _ hk=>hk.2) (.int .i64 ((rd_T60 t167 x10_1).f1))) (fun _ hk=>hk.2) (.int .i64 ((rd_T60 t167 x10_1).f2))) (fun _ h_=>h_.1)))) k_ hk,Kd.freshB (g:=gb171) (o:=.cells #[.int .i64 ((rd_T60 t167 x10_1).f0),.int .i64 ((rd_T60 t167 x10_1).f1),.int .i64 ((rd_T60 t167 x10_1).f2)] 60 (0,0)) (by (with_reducible repeat (first|refine blk_drewN ?_ _|refine blk_drew ?_|refine blk_alloc ?_ _));refine blk_put (cs:=#[.int .i64 ((rd_T60 t167 x10_1).f0),.int .i64 ((rd_T60 t167 x10_1).f1),.int .i64 0]) ?_ 2 _ rfl;(with_reducible repeat (first|refine blk_drewN ?_ _|refine blk_drew ?_|refine blk_alloc ?_ _));refine blk_put (cs:=#[.int .i64 ((rd_T60 t167 x10_1).f0),.int .i64 0,.int .i64 0]) ?_ 1 _ rfl;(with_reducible repeat (first|refine blk_drewN ?_ _|refine blk_drew ?_|refine blk_alloc ?_ _));refine blk_put (cs:=#[.int .i64 0,.int .i64 0,.int .i64 0]) ?_ 0 _ rfl;(with_reducible repeat (first|refine blk_drewN ?_ _|refine blk_drew ?_|refine blk_alloc ?_ _));exact BK171.out) k_ hk⟩));(case aO=>exact (by (with_reducible repeat (first|apply Kd.R_alloc|apply Kd.R_drewN|apply Kd.R_drew));exact Kd.R_mono (Kd.R_far (p:=⟨gb171,2,none⟩) (Kd.R_far (p:=⟨gb171,1,none⟩) (Kd.R_far (p:=⟨gb171,0,none⟩) (Kd.R_mono HO_3.out (fun k_ hk=>(⟨hk,hk.2⟩ : _ ∧ k_ ≠ gb171))) (fun _ hk=>hk.2) (.int .i64 ((rd_T60 t167 x10_1).f0))) (fun _ hk=>hk.2) (.int .i64 ((rd_T60 t167 x10_1).f1))) (fun _ hk=>hk.2) (.int .i64 ((rd_T60 t167 x10_1).f2))) (fun _ hk=>⟨hk.1.1,hk.1.2⟩)));(case aS=>exact (below_size (by repeat (first|(with_reducible first|exact HB.out|apply below_alloc|apply pw_below_drewN|apply below_drew1|refine below_set ?_ GE171.out)|exact HB.out))));(case aL=>have:=LMc11.out;omega);intro v173 w15 ho hb hg hat;rw [← Ny172.out] at ho;have n0_:=Aside0.mk (Kd.R_after (ok:=(fun k_=>k_ ≠ gb171)) (by (with_reducible repeat (first|apply Kd.R_alloc|apply Kd.R_drewN|apply Kd.R_drew));exact Kd.R_mono (Kd.R_far (p:=⟨gb171,2,none⟩) (Kd.R_far (p:=⟨gb171,1,none⟩) (Kd.R_far (p:=⟨gb171,0,none⟩) (Kd.R_mono HO_8.out (fun k_ hk=>(⟨hk,hk.2⟩ : _ ∧ k_ ≠ gb171))) (fun _ hk=>hk.2) (.int .i64 ((rd_T60 t167 x10_1).f0))) (fun _ hk=>hk.2) (.int .i64 ((rd_T60 t167 x10_1).f1))) (fun _ hk=>hk.2) (.int .i64 ((rd_T60 t167 x10_1).f2))) (fun _ hk=>⟨hk.1.2,hk.1.1⟩)) hg hat);have n1_:=Aside0.mk (blk_grown (g:=gb171) (o:=.cells #[.int .i64 ((rd_T60 t167 x10_1).f0),.int .i64 ((rd_T60 t167 x10_1).f1),.int .i64 ((rd_T60 t167 x10_1).f2)] 60 (0,0)) (by (with_reducible repeat (first|refine blk_drewN ?_ _|refine blk_drew ?_|refine blk_alloc ?_ _));refine blk_put (cs:=#[.int .i64 ((rd_T60 t167 x10_1).f0),.int .i64 ((rd_T60 t167 x10_1).f1),.int .i64 0]) ?_ 2 _ rfl;(with_reducible repeat (first|refine blk_drewN ?_ _|refine blk_drew ?_|refine blk_alloc ?_ _));refine blk_put (cs:=#[.int .i64 ((rd_T60 t167 x10_1).f0),.int .i64 0,.int .i64 0]) ?_ 1 _ rfl;(with_reducible repeat (first|refine blk_drewN ?_ _|refine blk_drew ?_|refine blk_alloc ?_ _));refine blk_put (cs:=#[.int .i64 0,.int .i64 0,.int .i64 0]) ?_ 0 _ rfl;(with_reducible repeat (first|refine blk_drewN ?_ _|refine blk_drew ?_|refine blk_alloc ?_ _));exact BK171.out) hg (Kd.R_away HO_3.out (fun _ hk=>hk.2)));have n2_:=Aside0.mk (hb);have n3_:=Aside0.mk (ho);clear HO_8;clear BK171;clear HB;clear HO_3;have HO_8:=n0_;have BK171:=n1_;have HB:=n2_;have HO174:=n3_;clear n0_ n1_ n2_ n3_;clear ho hb hg hat)))
        go_roundg k1
        case measure=>have:=HK1.out;omega
        case rel=>exact ⟨(y172),(wrap64 (x10_1 + 1)),(by first|rfl|(simp;done)|(simp [*];done)),H',⟨by have:=HK1.out;omega⟩,⟨by (with_reducible repeat (first|apply Kd.R_alloc|apply Kd.R_drewN|apply Kd.R_drew));exact Kd.R_mono HO174.out (fun _ hk=>hk.1)⟩,⟨by (with_reducible repeat (first|apply Kd.R_alloc|apply Kd.R_drewN|apply Kd.R_drew));exact Kd.R_mono HO_8.out (fun _ hk=>hk.2)⟩,⟨by repeat (first|(with_reducible first|exact HB.out|apply below_alloc|apply pw_below_drewN|apply below_drew1|refine below_set ?_ GE171.out)|exact HB.out)⟩⟩
       ·rw [if_neg c11] at H
        exact absurd H (by simp)
      ·rw [if_neg c10] at H
       have c10b0 : ((x3_1.length : Int) == 0) = false:=beq_eq_false_iff_ne.mpr c10
       have c10b1 : ((x3_1.length : Int) != 0) = true:=bne_iff_ne.mpr c10
       have c10b2 : ¬ (x3_1 = []):=fun h_=>c10 (by rw [h_];rfl)
       obtain ⟨ji16,hji16⟩ : ∃ j_ : Int,(wrap64 ((x3_1.length : Int) - 1)) = j_:=⟨_,rfl⟩
       replace H : (if 0 ≤ (ji16) then (if (ji16) < (x3_1.length : Int) then (if ((rd_T60 x3_1 (ji16)).f0) = ((rd_T60 t167 x10_1).f0) then (impl_leastOf.l0 k1 x3_1 t167 (t167.length : Int) (wrap64 (x10_1 + 1))) else (if x3_1.length < 5864062014805 then (impl_leastOf.l0 k1 (x3_1 ++ [(⟨(rd_T60 t167 x10_1).f0,(rd_T60 t167 x10_1).f1,(rd_T60 t167 x10_1).f2⟩ : S60)]) t167 (t167.length : Int) (wrap64 (x10_1 + 1))) else (none))) else (none)) else (none)) = some r:=by first|(rw [hji16] at H;exact H)|(simp only [hji16] at H ⊢;exact H)
       have hji16w : (IntKind.i64.wrap ((x3_1.length : Int) - 1)) = ji16:=(i64_w _).trans hji16
       by_cases c17 : 0 ≤ (ji16)
       ·rw [if_pos c17] at H
        have c17b0 : decide (0 ≤ (ji16)) = true:=decide_eq_true c17
        clear c17
        by_cases c18 : (ji16) < (x3_1.length : Int)
        ·rw [if_pos c18] at H
         have c18b0 : decide ((ji16) < (x3_1.length : Int)) = true:=decide_eq_true c18
         clear c18
         by_cases c19 : ((rd_T60 x3_1 (ji16)).f0) = ((rd_T60 t167 x10_1).f0)
         ·rw [if_pos c19] at H
          have c19b0 : (((rd_T60 x3_1 (ji16)).f0) == ((rd_T60 t167 x10_1).f0)) = true:=beq_iff_eq.mpr c19
          have c19b1 : (((rd_T60 x3_1 (ji16)).f0) != ((rd_T60 t167 x10_1).f0)) = false:=bne_eq_false_iff_eq.mpr c19
          clear c19
          have H':=Aside0.mk H
          clear H
          have p170 : 0 ≤ (x10_1 : Int):=of_decide_eq_true (by first|(with_reducible assumption)|assumption)
          have q170 : x10_1 < (t167.length : Int):=of_decide_eq_true (by first|(with_reducible assumption)|assumption)
          obtain ⟨ad170,e170,hx170_0,hx170_1,hx170_2⟩:=at_T60 (Kd.R_reads' HO_8.out).2.2 x10_1 p170 q170
          cases e170
          replace p170:=eq_true p170
          replace q170:=eq_true q170
          go_wp2_with (first|((with_reducible refine gate_dst (N:=5) rfl ?_);(try (refine gate_guard (by rfl) ?_;dsimp only));refine box_event ?hg (N:=5) ?hd (cs:=#[.int .i64 0,.int .i64 0,.int .i64 0]) (t:=60) ?hr ?_;(case hd=>rfl);(case hg=>rfl);(case hr=>first|(go_simp;done)|(go_simp;rfl));intro gb171 hg w20 hbox hb;have n0_:=Aside0.mk (Kd.R_below (Kd.R_elderB (by (with_reducible repeat (first|apply Kd.R_alloc|apply Kd.R_drewN|apply Kd.R_drew));exact HO_3.out) gb171 (Nat.le_of_eq hg.symm)) hb);have n1_:=Aside0.mk (Kd.R_below (Kd.R_elderB (by (with_reducible repeat (first|apply Kd.R_alloc|apply Kd.R_drewN|apply Kd.R_drew));exact HO_8.out) gb171 (Nat.le_of_eq hg.symm)) hb);have n2_:=Aside0.mk (below_step (by repeat (first|(with_reducible first|exact HB.out|apply below_alloc|apply pw_below_drewN|apply below_drew1)|exact HB.out)) hb);have n3_:=Aside0.mk (hbox);have n4_:=Aside0.mk ((by rw [hg];exact (below_size (by repeat (first|(with_reducible first|exact HB.out|apply below_alloc|apply pw_below_drewN|apply below_drew1)|exact HB.out))) : w.heap.size ≤ gb171));have n5_:=n4_;clear HO_3;clear HO_8;clear HB;have HO_3:=n0_;have HO_8:=n1_;have HB:=n2_;have BK171:=n3_;have GW171:=n4_;have GE171:=n5_;clear n0_ n1_ n2_ n3_ n4_ n5_;clear hb hbox hg;have hcz21_0 : w20.cell? ⟨gb171,0,none⟩ = some (.int .i64 0):=(blk_cell BK171.out 0).trans rfl;have hcz21_1 : w20.cell? ⟨gb171,1,none⟩ = some (.int .i64 0):=(blk_cell BK171.out 1).trans rfl;have hcz21_2 : w20.cell? ⟨gb171,2,none⟩ = some (.int .i64 0):=(blk_cell BK171.out 2).trans rfl;have hfz21_0:=blk_frozen BK171.out 0;have hfz21_1:=blk_frozen BK171.out 1;have hfz21_2:=blk_frozen BK171.out 2;obtain ⟨Ao22,co22,eo22⟩:=Kd.R_slice HO_3.out;subst eo22;have p175 : 0 ≤ ((ji16) : Int):=of_decide_eq_true (by first|(with_reducible assumption)|assumption);have q175 : (ji16) < (x3_1.length : Int):=of_decide_eq_true (by first|(with_reducible assumption)|assumption);obtain ⟨ad175,e175,hx175_0,hx175_1,hx175_2⟩:=at_T60 (Kd.R_reads' HO_3.out).2.2 (ji16) p175 q175;cases e175;have hn175_0 : ad175.block ≠ gb171:=Kd.own_blk (Kd.R_away HO_3.out (fun _ hk=>hk.2));have hn175_1 : ad175.block ≠ gb171:=Kd.own_blk (Kd.R_away HO_3.out (fun _ hk=>hk.2));have hn175_2 : ad175.block ≠ gb171:=Kd.own_blk (Kd.R_away HO_3.out (fun _ hk=>hk.2));replace hx175_0:=(cell_far (p:=⟨gb171,0,none⟩) (by first|(rw [add_block];exact hn175_0)|(show (Addr.add _ _).block ≠ _;rw [add_block];exact hn175_0)|exact hn175_0) (.int .i64 ((rd_T60 t167 x10_1).f0))).trans hx175_0;replace hx175_1:=(cell_far (p:=⟨gb171,0,none⟩) (by first|(rw [add_block];exact hn175_0)|(show (Addr.add _ _).block ≠ _;rw [add_block];exact hn175_0)|exact hn175_0) (.int .i64 ((rd_T60 t167 x10_1).f0))).trans hx175_1;replace hx175_2:=(cell_far (p:=⟨gb171,0,none⟩) (by first|(rw [add_block];exact hn175_0)|(show (Addr.add _ _).block ≠ _;rw [add_block];exact hn175_0)|exact hn175_0) (.int .i64 ((rd_T60 t167 x10_1).f0))).trans hx175_2;replace hx175_0:=(cell_far (p:=⟨gb171,1,none⟩) (by first|(rw [add_block];exact hn175_1)|(show (Addr.add _ _).block ≠ _;rw [add_block];exact hn175_1)|exact hn175_1) (.int .i64 ((rd_T60 t167 x10_1).f1))).trans hx175_0;replace hx175_1:=(cell_far (p:=⟨gb171,1,none⟩) (by first|(rw [add_block];exact hn175_1)|(show (Addr.add _ _).block ≠ _;rw [add_block];exact hn175_1)|exact hn175_1) (.int .i64 ((rd_T60 t167 x10_1).f1))).trans hx175_1;replace hx175_2:=(cell_far (p:=⟨gb171,1,none⟩) (by first|(rw [add_block];exact hn175_1)|(show (Addr.add _ _).block ≠ _;rw [add_block];exact hn175_1)|exact hn175_1) (.int .i64 ((rd_T60 t167 x10_1).f1))).trans hx175_2;replace hx175_0:=(cell_far (p:=⟨gb171,2,none⟩) (by first|(rw [add_block];exact hn175_2)|(show (Addr.add _ _).block ≠ _;rw [add_block];exact hn175_2)|exact hn175_2) (.int .i64 ((rd_T60 t167 x10_1).f2))).trans hx175_0;replace hx175_1:=(cell_far (p:=⟨gb171,2,none⟩) (by first|(rw [add_block];exact hn175_2)|(show (Addr.add _ _).block ≠ _;rw [add_block];exact hn175_2)|exact hn175_2) (.int .i64 ((rd_T60 t167 x10_1).f2))).trans hx175_1;replace hx175_2:=(cell_far (p:=⟨gb171,2,none⟩) (by first|(rw [add_block];exact hn175_2)|(show (Addr.add _ _).block ≠ _;rw [add_block];exact hn175_2)|exact hn175_2) (.int .i64 ((rd_T60 t167 x10_1).f2))).trans hx175_2;(try have hy175_0:=fun (n_ : Nat)=>(show (((((w20.drewN n_).setCell ⟨gb171,0,none⟩ (.int .i64 ((rd_T60 t167 x10_1).f0))).setCell ⟨gb171,1,none⟩ (.int .i64 ((rd_T60 t167 x10_1).f1))).setCell ⟨gb171,2,none⟩ (.int .i64 ((rd_T60 t167 x10_1).f2)))).cell? _ = some _ from hx175_0));(try have hy175_1:=fun (n_ : Nat)=>(show (((((w20.drewN n_).setCell ⟨gb171,0,none⟩ (.int .i64 ((rd_T60 t167 x10_1).f0))).setCell ⟨gb171,1,none⟩ (.int .i64 ((rd_T60 t167 x10_1).f1))).setCell ⟨gb171,2,none⟩ (.int .i64 ((rd_T60 t167 x10_1).f2)))).cell? _ = some _ from hx175_1));(try have hy175_2:=fun (n_ : Nat)=>(show (((((w20.drewN n_).setCell ⟨gb171,0,none⟩ (.int .i64 ((rd_T60 t167 x10_1).f0))).setCell ⟨gb171,1,none⟩ (.int .i64 ((rd_T60 t167 x10_1).f1))).setCell ⟨gb171,2,none⟩ (.int .i64 ((rd_T60 t167 x10_1).f2)))).cell? _ = some _ from hx175_2));clear hn175_0;clear hn175_1;clear hn175_2;replace p175:=eq_true p175;replace q175:=eq_true q175))
          repeat (go_quiet (first|((with_reducible refine gate_dst (N:=5) rfl ?_);(try (refine gate_guard (by rfl) ?_;dsimp only));refine box_event ?hg (N:=5) ?hd (cs:=#[.int .i64 0,.int .i64 0,.int .i64 0]) (t:=60) ?hr ?_;(case hd=>rfl);(case hg=>rfl);(case hr=>first|(go_simp;done)|(go_simp;rfl));intro gb171 hg w20 hbox hb;have n0_:=Aside0.mk (Kd.R_below (Kd.R_elderB (by (with_reducible repeat (first|apply Kd.R_alloc|apply Kd.R_drewN|apply Kd.R_drew));exact HO_3.out) gb171 (Nat.le_of_eq hg.symm)) hb);have n1_:=Aside0.mk (Kd.R_below (Kd.R_elderB (by (with_reducible repeat (first|apply Kd.R_alloc|apply Kd.R_drewN|apply Kd.R_drew));exact HO_8.out) gb171 (Nat.le_of_eq hg.symm)) hb);have n2_:=Aside0.mk (below_step (by repeat (first|(with_reducible first|exact HB.out|apply below_alloc|apply pw_below_drewN|apply below_drew1)|exact HB.out)) hb);have n3_:=Aside0.mk (hbox);have n4_:=Aside0.mk ((by rw [hg];exact (below_size (by repeat (first|(with_reducible first|exact HB.out|apply below_alloc|apply pw_below_drewN|apply below_drew1)|exact HB.out))) : w.heap.size ≤ gb171));have n5_:=n4_;clear HO_3;clear HO_8;clear HB;have HO_3:=n0_;have HO_8:=n1_;have HB:=n2_;have BK171:=n3_;have GW171:=n4_;have GE171:=n5_;clear n0_ n1_ n2_ n3_ n4_ n5_;clear hb hbox hg;have hcz21_0 : w20.cell? ⟨gb171,0,none⟩ = some (.int .i64 0):=(blk_cell BK171.out 0).trans rfl;have hcz21_1 : w20.cell? ⟨gb171,1,none⟩ = some (.int .i64 0):=(blk_cell BK171.out 1).trans rfl;have hcz21_2 : w20.cell? ⟨gb171,2,none⟩ = some (.int .i64 0):=(blk_cell BK171.out 2).trans rfl;have hfz21_0:=blk_frozen BK171.out 0;have hfz21_1:=blk_frozen BK171.out 1;have hfz21_2:=blk_frozen BK171.out 2;obtain ⟨Ao22,co22,eo22⟩:=Kd.R_slice HO_3.out;subst eo22;have p175 : 0 ≤ ((ji16) : Int):=of_decide_eq_true (by first|(with_reducible assumption)|assumption);have q175 : (ji16) < (x3_1.length : Int):=of_decide_eq_true (by first|(with_reducible assumption)|assumption);obtain ⟨ad175,e175,hx175_0,hx175_1,hx175_2⟩:=at_T60 (Kd.R_reads' HO_3.out).2.2 (ji16) p175 q175;cases e175;have hn175_0 : ad175.block ≠ gb171:=Kd.own_blk (Kd.R_away HO_3.out (fun _ hk=>hk.2));have hn175_1 : ad175.block ≠ gb171:=Kd.own_blk (Kd.R_away HO_3.out (fun _ hk=>hk.2));have hn175_2 : ad175.block ≠ gb171:=Kd.own_blk (Kd.R_away HO_3.out (fun _ hk=>hk.2));replace hx175_0:=(cell_far (p:=⟨gb171,0,none⟩) (by first|(rw [add_block];exact hn175_0)|(show (Addr.add _ _).block ≠ _;rw [add_block];exact hn175_0)|exact hn175_0) (.int .i64 ((rd_T60 t167 x10_1).f0))).trans hx175_0;replace hx175_1:=(cell_far (p:=⟨gb171,0,none⟩) (by first|(rw [add_block];exact hn175_0)|(show (Addr.add _ _).block ≠ _;rw [add_block];exact hn175_0)|exact hn175_0) (.int .i64 ((rd_T60 t167 x10_1).f0))).trans hx175_1;replace hx175_2:=(cell_far (p:=⟨gb171,0,none⟩) (by first|(rw [add_block];exact hn175_0)|(show (Addr.add _ _).block ≠ _;rw [add_block];exact hn175_0)|exact hn175_0) (.int .i64 ((rd_T60 t167 x10_1).f0))).trans hx175_2;replace hx175_0:=(cell_far (p:=⟨gb171,1,none⟩) (by first|(rw [add_block];exact hn175_1)|(show (Addr.add _ _).block ≠ _;rw [add_block];exact hn175_1)|exact hn175_1) (.int .i64 ((rd_T60 t167 x10_1).f1))).trans hx175_0;replace hx175_1:=(cell_far (p:=⟨gb171,1,none⟩) (by first|(rw [add_block];exact hn175_1)|(show (Addr.add _ _).block ≠ _;rw [add_block];exact hn175_1)|exact hn175_1) (.int .i64 ((rd_T60 t167 x10_1).f1))).trans hx175_1;replace hx175_2:=(cell_far (p:=⟨gb171,1,none⟩) (by first|(rw [add_block];exact hn175_1)|(show (Addr.add _ _).block ≠ _;rw [add_block];exact hn175_1)|exact hn175_1) (.int .i64 ((rd_T60 t167 x10_1).f1))).trans hx175_2;replace hx175_0:=(cell_far (p:=⟨gb171,2,none⟩) (by first|(rw [add_block];exact hn175_2)|(show (Addr.add _ _).block ≠ _;rw [add_block];exact hn175_2)|exact hn175_2) (.int .i64 ((rd_T60 t167 x10_1).f2))).trans hx175_0;replace hx175_1:=(cell_far (p:=⟨gb171,2,none⟩) (by first|(rw [add_block];exact hn175_2)|(show (Addr.add _ _).block ≠ _;rw [add_block];exact hn175_2)|exact hn175_2) (.int .i64 ((rd_T60 t167 x10_1).f2))).trans hx175_1;replace hx175_2:=(cell_far (p:=⟨gb171,2,none⟩) (by first|(rw [add_block];exact hn175_2)|(show (Addr.add _ _).block ≠ _;rw [add_block];exact hn175_2)|exact hn175_2) (.int .i64 ((rd_T60 t167 x10_1).f2))).trans hx175_2;(try have hy175_0:=fun (n_ : Nat)=>(show (((((w20.drewN n_).setCell ⟨gb171,0,none⟩ (.int .i64 ((rd_T60 t167 x10_1).f0))).setCell ⟨gb171,1,none⟩ (.int .i64 ((rd_T60 t167 x10_1).f1))).setCell ⟨gb171,2,none⟩ (.int .i64 ((rd_T60 t167 x10_1).f2)))).cell? _ = some _ from hx175_0));(try have hy175_1:=fun (n_ : Nat)=>(show (((((w20.drewN n_).setCell ⟨gb171,0,none⟩ (.int .i64 ((rd_T60 t167 x10_1).f0))).setCell ⟨gb171,1,none⟩ (.int .i64 ((rd_T60 t167 x10_1).f1))).setCell ⟨gb171,2,none⟩ (.int .i64 ((rd_T60 t167 x10_1).f2)))).cell? _ = some _ from hx175_1));(try have hy175_2:=fun (n_ : Nat)=>(show (((((w20.drewN n_).setCell ⟨gb171,0,none⟩ (.int .i64 ((rd_T60 t167 x10_1).f0))).setCell ⟨gb171,1,none⟩ (.int .i64 ((rd_T60 t167 x10_1).f1))).setCell ⟨gb171,2,none⟩ (.int .i64 ((rd_T60 t167 x10_1).f2)))).cell? _ = some _ from hx175_2));clear hn175_0;clear hn175_1;clear hn175_2;replace p175:=eq_true p175;replace q175:=eq_true q175));try go_wp2_with (first|((with_reducible refine gate_dst (N:=5) rfl ?_);(try (refine gate_guard (by rfl) ?_;dsimp only));refine box_event ?hg (N:=5) ?hd (cs:=#[.int .i64 0,.int .i64 0,.int .i64 0]) (t:=60) ?hr ?_;(case hd=>rfl);(case hg=>rfl);(case hr=>first|(go_simp;done)|(go_simp;rfl));intro gb171 hg w20 hbox hb;have n0_:=Aside0.mk (Kd.R_below (Kd.R_elderB (by (with_reducible repeat (first|apply Kd.R_alloc|apply Kd.R_drewN|apply Kd.R_drew));exact HO_3.out) gb171 (Nat.le_of_eq hg.symm)) hb);have n1_:=Aside0.mk (Kd.R_below (Kd.R_elderB (by (with_reducible repeat (first|apply Kd.R_alloc|apply Kd.R_drewN|apply Kd.R_drew));exact HO_8.out) gb171 (Nat.le_of_eq hg.symm)) hb);have n2_:=Aside0.mk (below_step (by repeat (first|(with_reducible first|exact HB.out|apply below_alloc|apply pw_below_drewN|apply below_drew1)|exact HB.out)) hb);have n3_:=Aside0.mk (hbox);have n4_:=Aside0.mk ((by rw [hg];exact (below_size (by repeat (first|(with_reducible first|exact HB.out|apply below_alloc|apply pw_below_drewN|apply below_drew1)|exact HB.out))) : w.heap.size ≤ gb171));have n5_:=n4_;clear HO_3;clear HO_8;clear HB;have HO_3:=n0_;have HO_8:=n1_;have HB:=n2_;have BK171:=n3_;have GW171:=n4_;have GE171:=n5_;clear n0_ n1_ n2_ n3_ n4_ n5_;clear hb hbox hg;have hcz21_0 : w20.cell? ⟨gb171,0,none⟩ = some (.int .i64 0):=(blk_cell BK171.out 0).trans rfl;have hcz21_1 : w20.cell? ⟨gb171,1,none⟩ = some (.int .i64 0):=(blk_cell BK171.out 1).trans rfl;have hcz21_2 : w20.cell? ⟨gb171,2,none⟩ = some (.int .i64 0):=(blk_cell BK171.out 2).trans rfl;have hfz21_0:=blk_frozen BK171.out 0;have hfz21_1:=blk_frozen BK171.out 1;have hfz21_2:=blk_frozen BK171.out 2;obtain ⟨Ao22,co22,eo22⟩:=Kd.R_slice HO_3.out;subst eo22;have p175 : 0 ≤ ((ji16) : Int):=of_decide_eq_true (by first|(with_reducible assumption)|assumption);have q175 : (ji16) < (x3_1.length : Int):=of_decide_eq_true (by first|(with_reducible assumption)|assumption);obtain ⟨ad175,e175,hx175_0,hx175_1,hx175_2⟩:=at_T60 (Kd.R_reads' HO_3.out).2.2 (ji16) p175 q175;cases e175;have hn175_0 : ad175.block ≠ gb171:=Kd.own_blk (Kd.R_away HO_3.out (fun _ hk=>hk.2));have hn175_1 : ad175.block ≠ gb171:=Kd.own_blk (Kd.R_away HO_3.out (fun _ hk=>hk.2));have hn175_2 : ad175.block ≠ gb171:=Kd.own_blk (Kd.R_away HO_3.out (fun _ hk=>hk.2));replace hx175_0:=(cell_far (p:=⟨gb171,0,none⟩) (by first|(rw [add_block];exact hn175_0)|(show (Addr.add _ _).block ≠ _;rw [add_block];exact hn175_0)|exact hn175_0) (.int .i64 ((rd_T60 t167 x10_1).f0))).trans hx175_0;replace hx175_1:=(cell_far (p:=⟨gb171,0,none⟩) (by first|(rw [add_block];exact hn175_0)|(show (Addr.add _ _).block ≠ _;rw [add_block];exact hn175_0)|exact hn175_0) (.int .i64 ((rd_T60 t167 x10_1).f0))).trans hx175_1;replace hx175_2:=(cell_far (p:=⟨gb171,0,none⟩) (by first|(rw [add_block];exact hn175_0)|(show (Addr.add _ _).block ≠ _;rw [add_block];exact hn175_0)|exact hn175_0) (.int .i64 ((rd_T60 t167 x10_1).f0))).trans hx175_2;replace hx175_0:=(cell_far (p:=⟨gb171,1,none⟩) (by first|(rw [add_block];exact hn175_1)|(show (Addr.add _ _).block ≠ _;rw [add_block];exact hn175_1)|exact hn175_1) (.int .i64 ((rd_T60 t167 x10_1).f1))).trans hx175_0;replace hx175_1:=(cell_far (p:=⟨gb171,1,none⟩) (by first|(rw [add_block];exact hn175_1)|(show (Addr.add _ _).block ≠ _;rw [add_block];exact hn175_1)|exact hn175_1) (.int .i64 ((rd_T60 t167 x10_1).f1))).trans hx175_1;replace hx175_2:=(cell_far (p:=⟨gb171,1,none⟩) (by first|(rw [add_block];exact hn175_1)|(show (Addr.add _ _).block ≠ _;rw [add_block];exact hn175_1)|exact hn175_1) (.int .i64 ((rd_T60 t167 x10_1).f1))).trans hx175_2;replace hx175_0:=(cell_far (p:=⟨gb171,2,none⟩) (by first|(rw [add_block];exact hn175_2)|(show (Addr.add _ _).block ≠ _;rw [add_block];exact hn175_2)|exact hn175_2) (.int .i64 ((rd_T60 t167 x10_1).f2))).trans hx175_0;replace hx175_1:=(cell_far (p:=⟨gb171,2,none⟩) (by first|(rw [add_block];exact hn175_2)|(show (Addr.add _ _).block ≠ _;rw [add_block];exact hn175_2)|exact hn175_2) (.int .i64 ((rd_T60 t167 x10_1).f2))).trans hx175_1;replace hx175_2:=(cell_far (p:=⟨gb171,2,none⟩) (by first|(rw [add_block];exact hn175_2)|(show (Addr.add _ _).block ≠ _;rw [add_block];exact hn175_2)|exact hn175_2) (.int .i64 ((rd_T60 t167 x10_1).f2))).trans hx175_2;(try have hy175_0:=fun (n_ : Nat)=>(show (((((w20.drewN n_).setCell ⟨gb171,0,none⟩ (.int .i64 ((rd_T60 t167 x10_1).f0))).setCell ⟨gb171,1,none⟩ (.int .i64 ((rd_T60 t167 x10_1).f1))).setCell ⟨gb171,2,none⟩ (.int .i64 ((rd_T60 t167 x10_1).f2)))).cell? _ = some _ from hx175_0));(try have hy175_1:=fun (n_ : Nat)=>(show (((((w20.drewN n_).setCell ⟨gb171,0,none⟩ (.int .i64 ((rd_T60 t167 x10_1).f0))).setCell ⟨gb171,1,none⟩ (.int .i64 ((rd_T60 t167 x10_1).f1))).setCell ⟨gb171,2,none⟩ (.int .i64 ((rd_T60 t167 x10_1).f2)))).cell? _ = some _ from hx175_1));(try have hy175_2:=fun (n_ : Nat)=>(show (((((w20.drewN n_).setCell ⟨gb171,0,none⟩ (.int .i64 ((rd_T60 t167 x10_1).f0))).setCell ⟨gb171,1,none⟩ (.int .i64 ((rd_T60 t167 x10_1).f1))).setCell ⟨gb171,2,none⟩ (.int .i64 ((rd_T60 t167 x10_1).f2)))).cell? _ = some _ from hx175_2));clear hn175_0;clear hn175_1;clear hn175_2;replace p175:=eq_true p175;replace q175:=eq_true q175)))
          go_roundg k1
          case measure=>have:=HK1.out;omega
          case rel=>exact ⟨(x3_1),(wrap64 (x10_1 + 1)),(by first|rfl|(simp;done)|(simp [*];done)),H',⟨by have:=HK1.out;omega⟩,⟨by (with_reducible repeat (first|apply Kd.R_alloc|apply Kd.R_drewN|apply Kd.R_drew));exact Kd.R_mono (Kd.R_far (p:=⟨gb171,2,none⟩) (Kd.R_far (p:=⟨gb171,1,none⟩) (Kd.R_far (p:=⟨gb171,0,none⟩) (Kd.R_mono HO_3.out (fun k_ hk=>(⟨hk,hk.2⟩ : _ ∧ k_ ≠ gb171))) (fun _ hk=>hk.2) (.int .i64 ((rd_T60 t167 x10_1).f0))) (fun _ hk=>hk.2) (.int .i64 ((rd_T60 t167 x10_1).f1))) (fun _ hk=>hk.2) (.int .i64 ((rd_T60 t167 x10_1).f2))) (fun _ hk=>hk.1.1)⟩,⟨by (with_reducible repeat (first|apply Kd.R_alloc|apply Kd.R_drewN|apply Kd.R_drew));exact Kd.R_mono (Kd.R_far (p:=⟨gb171,2,none⟩) (Kd.R_far (p:=⟨gb171,1,none⟩) (Kd.R_far (p:=⟨gb171,0,none⟩) (Kd.R_mono HO_8.out (fun k_ hk=>(⟨hk,hk.2⟩ : _ ∧ k_ ≠ gb171))) (fun _ hk=>hk.2) (.int .i64 ((rd_T60 t167 x10_1).f0))) (fun _ hk=>hk.2) (.int .i64 ((rd_T60 t167 x10_1).f1))) (fun _ hk=>hk.2) (.int .i64 ((rd_T60 t167 x10_1).f2))) (fun _ hk=>hk.1.1)⟩,⟨by repeat (first|(with_reducible first|exact HB.out|apply below_alloc|apply pw_below_drewN|apply below_drew1|refine below_set ?_ GE171.out)|exact HB.out)⟩⟩
         ·rw [if_neg c19] at H
          have c19b0 : (((rd_T60 x3_1 (ji16)).f0) == ((rd_T60 t167 x10_1).f0)) = false:=beq_eq_false_iff_ne.mpr c19
          have c19b1 : (((rd_T60 x3_1 (ji16)).f0) != ((rd_T60 t167 x10_1).f0)) = true:=bne_iff_ne.mpr c19
          by_cases c23 : x3_1.length < 5864062014805
          ·rw [if_pos c23] at H
           have LMc23:=Aside0.mk c23
           clear c23
           obtain ⟨y176,hy176⟩ : ∃ y_ : List (S60),y_ = (x3_1 ++ [(⟨(rd_T60 t167 x10_1).f0,(rd_T60 t167 x10_1).f1,(rd_T60 t167 x10_1).f2⟩ : S60)]):=⟨_,rfl⟩
           replace H : (impl_leastOf.l0 k1 y176 t167 (t167.length : Int) (wrap64 (x10_1 + 1))) = some r:=by first|(rw [hy176];with_reducible exact H)|(have H2_:=(Option.bind_some _ _).symm.trans H;rw [hy176];with_reducible exact H2_)|(have H2_:=(Option.bind_some _ _).symm.trans H;with_reducible exact H2_)|with_reducible exact H|(rw [hy176];exact H)|exact H
           have Ny176:=Aside0.mk hy176
           clear hy176
           have H':=Aside0.mk H
           clear H
           have p170 : 0 ≤ (x10_1 : Int):=of_decide_eq_true (by first|(with_reducible assumption)|assumption)
           have q170 : x10_1 < (t167.length : Int):=of_decide_eq_true (by first|(with_reducible assumption)|assumption)
           obtain ⟨ad170,e170,hx170_0,hx170_1,hx170_2⟩:=at_T60 (Kd.R_reads' HO_8.out).2.2 x10_1 p170 q170
           cases e170
           replace p170:=eq_true p170
           replace q170:=eq_true q170
           go_wp2_with (first|((with_reducible refine gate_dst (N:=5) rfl ?_);(try (refine gate_guard (by rfl) ?_;dsimp only));refine box_event ?hg (N:=5) ?hd (cs:=#[.int .i64 0,.int .i64 0,.int .i64 0]) (t:=60) ?hr ?_;(case hd=>rfl);(case hg=>rfl);(case hr=>first|(go_simp;done)|(go_simp;rfl));intro gb171 hg w24 hbox hb;have n0_:=Aside0.mk (Kd.R_below (Kd.R_elderB (by (with_reducible repeat (first|apply Kd.R_alloc|apply Kd.R_drewN|apply Kd.R_drew));exact HO_3.out) gb171 (Nat.le_of_eq hg.symm)) hb);have n1_:=Aside0.mk (Kd.R_below (Kd.R_elderB (by (with_reducible repeat (first|apply Kd.R_alloc|apply Kd.R_drewN|apply Kd.R_drew));exact HO_8.out) gb171 (Nat.le_of_eq hg.symm)) hb);have n2_:=Aside0.mk (below_step (by repeat (first|(with_reducible first|exact HB.out|apply below_alloc|apply pw_below_drewN|apply below_drew1)|exact HB.out)) hb);have n3_:=Aside0.mk (hbox);have n4_:=Aside0.mk ((by rw [hg];exact (below_size (by repeat (first|(with_reducible first|exact HB.out|apply below_alloc|apply pw_below_drewN|apply below_drew1)|exact HB.out))) : w.heap.size ≤ gb171));have n5_:=n4_;clear HO_3;clear HO_8;clear HB;have HO_3:=n0_;have HO_8:=n1_;have HB:=n2_;have BK171:=n3_;have GW171:=n4_;have GE171:=n5_;clear n0_ n1_ n2_ n3_ n4_ n5_;clear hb hbox hg;have hcz25_0 : w24.cell? ⟨gb171,0,none⟩ = some (.int .i64 0):=(blk_cell BK171.out 0).trans rfl;have hcz25_1 : w24.cell? ⟨gb171,1,none⟩ = some (.int .i64 0):=(blk_cell BK171.out 1).trans rfl;have hcz25_2 : w24.cell? ⟨gb171,2,none⟩ = some (.int .i64 0):=(blk_cell BK171.out 2).trans rfl;have hfz25_0:=blk_frozen BK171.out 0;have hfz25_1:=blk_frozen BK171.out 1;have hfz25_2:=blk_frozen BK171.out 2;obtain ⟨Ao26,co26,eo26⟩:=Kd.R_slice HO_3.out;subst eo26;have p175 : 0 ≤ ((ji16) : Int):=of_decide_eq_true (by first|(with_reducible assumption)|assumption);have q175 : (ji16) < (x3_1.length : Int):=of_decide_eq_true (by first|(with_reducible assumption)|assumption);obtain ⟨ad175,e175,hx175_0,hx175_1,hx175_2⟩:=at_T60 (Kd.R_reads' HO_3.out).2.2 (ji16) p175 q175;cases e175;have hn175_0 : ad175.block ≠ gb171:=Kd.own_blk (Kd.R_away HO_3.out (fun _ hk=>hk.2));have hn175_1 : ad175.block ≠ gb171:=Kd.own_blk (Kd.R_away HO_3.out (fun _ hk=>hk.2));have hn175_2 : ad175.block ≠ gb171:=Kd.own_blk (Kd.R_away HO_3.out (fun _ hk=>hk.2));replace hx175_0:=(cell_far (p:=⟨gb171,0,none⟩) (by first|(rw [add_block];exact hn175_0)|(show (Addr.add _ _).block ≠ _;rw [add_block];exact hn175_0)|exact hn175_0) (.int .i64 ((rd_T60 t167 x10_1).f0))).trans hx175_0;replace hx175_1:=(cell_far (p:=⟨gb171,0,none⟩) (by first|(rw [add_block];exact hn175_0)|(show (Addr.add _ _).block ≠ _;rw [add_block];exact hn175_0)|exact hn175_0) (.int .i64 ((rd_T60 t167 x10_1).f0))).trans hx175_1;replace hx175_2:=(cell_far (p:=⟨gb171,0,none⟩) (by first|(rw [add_block];exact hn175_0)|(show (Addr.add _ _).block ≠ _;rw [add_block];exact hn175_0)|exact hn175_0) (.int .i64 ((rd_T60 t167 x10_1).f0))).trans hx175_2;replace hx175_0:=(cell_far (p:=⟨gb171,1,none⟩) (by first|(rw [add_block];exact hn175_1)|(show (Addr.add _ _).block ≠ _;rw [add_block];exact hn175_1)|exact hn175_1) (.int .i64 ((rd_T60 t167 x10_1).f1))).trans hx175_0;replace hx175_1:=(cell_far (p:=⟨gb171,1,none⟩) (by first|(rw [add_block];exact hn175_1)|(show (Addr.add _ _).block ≠ _;rw [add_block];exact hn175_1)|exact hn175_1) (.int .i64 ((rd_T60 t167 x10_1).f1))).trans hx175_1;replace hx175_2:=(cell_far (p:=⟨gb171,1,none⟩) (by first|(rw [add_block];exact hn175_1)|(show (Addr.add _ _).block ≠ _;rw [add_block];exact hn175_1)|exact hn175_1) (.int .i64 ((rd_T60 t167 x10_1).f1))).trans hx175_2;replace hx175_0:=(cell_far (p:=⟨gb171,2,none⟩) (by first|(rw [add_block];exact hn175_2)|(show (Addr.add _ _).block ≠ _;rw [add_block];exact hn175_2)|exact hn175_2) (.int .i64 ((rd_T60 t167 x10_1).f2))).trans hx175_0;replace hx175_1:=(cell_far (p:=⟨gb171,2,none⟩) (by first|(rw [add_block];exact hn175_2)|(show (Addr.add _ _).block ≠ _;rw [add_block];exact hn175_2)|exact hn175_2) (.int .i64 ((rd_T60 t167 x10_1).f2))).trans hx175_1;replace hx175_2:=(cell_far (p:=⟨gb171,2,none⟩) (by first|(rw [add_block];exact hn175_2)|(show (Addr.add _ _).block ≠ _;rw [add_block];exact hn175_2)|exact hn175_2) (.int .i64 ((rd_T60 t167 x10_1).f2))).trans hx175_2;(try have hy175_0:=fun (n_ : Nat)=>(show (((((w24.drewN n_).setCell ⟨gb171,0,none⟩ (.int .i64 ((rd_T60 t167 x10_1).f0))).setCell ⟨gb171,1,none⟩ (.int .i64 ((rd_T60 t167 x10_1).f1))).setCell ⟨gb171,2,none⟩ (.int .i64 ((rd_T60 t167 x10_1).f2)))).cell? _ = some _ from hx175_0));(try have hy175_1:=fun (n_ : Nat)=>(show (((((w24.drewN n_).setCell ⟨gb171,0,none⟩ (.int .i64 ((rd_T60 t167 x10_1).f0))).setCell ⟨gb171,1,none⟩ (.int .i64 ((rd_T60 t167 x10_1).f1))).setCell ⟨gb171,2,none⟩ (.int .i64 ((rd_T60 t167 x10_1).f2)))).cell? _ = some _ from hx175_1));(try have hy175_2:=fun (n_ : Nat)=>(show (((((w24.drewN n_).setCell ⟨gb171,0,none⟩ (.int .i64 ((rd_T60 t167 x10_1).f0))).setCell ⟨gb171,1,none⟩ (.int .i64 ((rd_T60 t167 x10_1).f1))).setCell ⟨gb171,2,none⟩ (.int .i64 ((rd_T60 t167 x10_1).f2)))).cell? _ = some _ from hx175_2));clear hn175_0;clear hn175_1;clear hn175_2;replace p175:=eq_true p175;replace q175:=eq_true q175)|((with_reducible refine gate_builtin (b:=.append) (xs:=#[.tmp 29,.tmp 31]) rfl ?_);(try (refine gate_guard (by rfl) ?_;dsimp only));at_builtin;refine Kd.R_append k60 (w0:=w) w.heap.size rfl (.tmp 29) (.tmp 31) 36 60 (.agg #[(.int .i64 0),(.int .i64 0),(.int .i64 0)]) 24 rfl Try.underlying36 info60 rfl (by decide) (by omega) (.slice (some ad175) x3_1.length co26) x3_1 (⟨(rd_T60 t167 x10_1).f0,(rd_T60 t167 x10_1).f1,(rd_T60 t167 x10_1).f2⟩ : S60) [.int .i64 ((rd_T60 t167 x10_1).f0),.int .i64 ((rd_T60 t167 x10_1).f1),.int .i64 ((rd_T60 t167 x10_1).f2)] (fun k_=>some k_ ≠ (.slice (some ad170) t167.length co6 : Value).ownBlock ∧ k_ ≠ gb171) (fun _=>False) rfl (by first|(go_simp;done)|(go_simp;rfl)) ?aP (fun _ hk=>hk.elim) ?aF ?aO ?aB ?aS ?aL ?_;(case aP=>exact k60_mkM _ _ _ (⟨(rd_T60 t167 x10_1).f0,(rd_T60 t167 x10_1).f1,(rd_T60 t167 x10_1).f2⟩ : S60));(case aB=>exact (by repeat (first|(with_reducible first|exact HB.out|apply below_alloc|apply pw_below_drewN|apply below_drew1|refine below_set ?_ GE171.out)|exact HB.out)));(case aF=>exact (fun k_ hk=>⟨Kd.fresh' (Kd.R_lt (by (with_reducible repeat (first|apply Kd.R_alloc|apply Kd.R_drewN|apply Kd.R_drew));exact (Kd.R_mono (Kd.R_far (p:=⟨gb171,2,none⟩) (Kd.R_far (p:=⟨gb171,1,none⟩) (Kd.R_far (p:=⟨gb171,0,none⟩) (Kd.R_mono HO_8.out (fun k_ hk=>(⟨hk,hk.2⟩ : _ ∧ k_ ≠ gb171))) (fun _ hk=>hk.2) (.int .i64 ((rd_T60 t167 x10_1).f0))) (fun _ hk=>hk.2) (.int .i64 ((rd_T60 t167 x10_1).f1))) (fun _ hk=>hk.2) (.int .i64 ((rd_T60 t167 x10_1).f2))) (fun _ h_=>h_.1)))) k_ hk,Kd.freshB (g:=gb171) (o:=.cells #[.int .i64 ((rd_T60 t167 x10_1).f0),.int .i64 ((rd_T60 t167 x10_1).f1),.int .i64 ((rd_T60 t167 x10_1).f2)] 60 (0,0)) (by (with_reducible repeat (first|refine blk_drewN ?_ _|refine blk_drew ?_|refine blk_alloc ?_ _));refine blk_put (cs:=#[.int .i64 ((rd_T60 t167 x10_1).f0),.int .i64 ((rd_T60 t167 x10_1).f1),.int .i64 0]) ?_ 2 _ rfl;(with_reducible repeat (first|refine blk_drewN ?_ _|refine blk_drew ?_|refine blk_alloc ?_ _));refine blk_put (cs:=#[.int .i64 ((rd_T60 t167 x10_1).f0),.int .i64 0,.int .i64 0]) ?_ 1 _ rfl;(with_reducible repeat (first|refine blk_drewN ?_ _|refine blk_drew ?_|refine blk_alloc ?_ _));refine blk_put (cs:=#[.int .i64 0,.int .i64 0,.int .i64 0]) ?_ 0 _ rfl;(with_reducible repeat (first|refine blk_drewN ?_ _|refine blk_drew ?_|refine blk_alloc ?_ _));exact BK171.out) k_ hk⟩));(case aO=>exact (by (with_reducible repeat (first|apply Kd.R_alloc|apply Kd.R_drewN|apply Kd.R_drew));exact Kd.R_mono (Kd.R_far (p:=⟨gb171,2,none⟩) (Kd.R_far (p:=⟨gb171,1,none⟩) (Kd.R_far (p:=⟨gb171,0,none⟩) (Kd.R_mono HO_3.out (fun k_ hk=>(⟨hk,hk.2⟩ : _ ∧ k_ ≠ gb171))) (fun _ hk=>hk.2) (.int .i64 ((rd_T60 t167 x10_1).f0))) (fun _ hk=>hk.2) (.int .i64 ((rd_T60 t167 x10_1).f1))) (fun _ hk=>hk.2) (.int .i64 ((rd_T60 t167 x10_1).f2))) (fun _ hk=>⟨hk.1.1,hk.1.2⟩)));(case aS=>exact (below_size (by repeat (first|(with_reducible first|exact HB.out|apply below_alloc|apply pw_below_drewN|apply below_drew1|refine below_set ?_ GE171.out)|exact HB.out))));(case aL=>have:=LMc23.out;omega);intro v177 w27 ho hb hg hat;rw [← Ny176.out] at ho;have n0_:=Aside0.mk (Kd.R_after (ok:=(fun k_=>k_ ≠ gb171)) (by (with_reducible repeat (first|apply Kd.R_alloc|apply Kd.R_drewN|apply Kd.R_drew));exact Kd.R_mono (Kd.R_far (p:=⟨gb171,2,none⟩) (Kd.R_far (p:=⟨gb171,1,none⟩) (Kd.R_far (p:=⟨gb171,0,none⟩) (Kd.R_mono HO_8.out (fun k_ hk=>(⟨hk,hk.2⟩ : _ ∧ k_ ≠ gb171))) (fun _ hk=>hk.2) (.int .i64 ((rd_T60 t167 x10_1).f0))) (fun _ hk=>hk.2) (.int .i64 ((rd_T60 t167 x10_1).f1))) (fun _ hk=>hk.2) (.int .i64 ((rd_T60 t167 x10_1).f2))) (fun _ hk=>⟨hk.1.2,hk.1.1⟩)) hg hat);have n1_:=Aside0.mk (blk_grown (g:=gb171) (o:=.cells #[.int .i64 ((rd_T60 t167 x10_1).f0),.int .i64 ((rd_T60 t167 x10_1).f1),.int .i64 ((rd_T60 t167 x10_1).f2)] 60 (0,0)) (by (with_reducible repeat (first|refine blk_drewN ?_ _|refine blk_drew ?_|refine blk_alloc ?_ _));refine blk_put (cs:=#[.int .i64 ((rd_T60 t167 x10_1).f0),.int .i64 ((rd_T60 t167 x10_1).f1),.int .i64 0]) ?_ 2 _ rfl;(with_reducible repeat (first|refine blk_drewN ?_ _|refine blk_drew ?_|refine blk_alloc ?_ _));refine blk_put (cs:=#[.int .i64 ((rd_T60 t167 x10_1).f0),.int .i64 0,.int .i64 0]) ?_ 1 _ rfl;(with_reducible repeat (first|refine blk_drewN ?_ _|refine blk_drew ?_|refine blk_alloc ?_ _));refine blk_put (cs:=#[.int .i64 0,.int .i64 0,.int .i64 0]) ?_ 0 _ rfl;(with_reducible repeat (first|refine blk_drewN ?_ _|refine blk_drew ?_|refine blk_alloc ?_ _));exact BK171.out) hg (Kd.R_away HO_3.out (fun _ hk=>hk.2)));have n2_:=Aside0.mk (hb);have n3_:=Aside0.mk (ho);clear HO_8;clear BK171;clear HB;clear HO_3;have HO_8:=n0_;have BK171:=n1_;have HB:=n2_;have HO178:=n3_;clear n0_ n1_ n2_ n3_;clear ho hb hg hat))
           repeat (go_quiet (first|((with_reducible refine gate_dst (N:=5) rfl ?_);(try (refine gate_guard (by rfl) ?_;dsimp only));refine box_event ?hg (N:=5) ?hd (cs:=#[.int .i64 0,.int .i64 0,.int .i64 0]) (t:=60) ?hr ?_;(case hd=>rfl);(case hg=>rfl);(case hr=>first|(go_simp;done)|(go_simp;rfl));intro gb171 hg w24 hbox hb;have n0_:=Aside0.mk (Kd.R_below (Kd.R_elderB (by (with_reducible repeat (first|apply Kd.R_alloc|apply Kd.R_drewN|apply Kd.R_drew));exact HO_3.out) gb171 (Nat.le_of_eq hg.symm)) hb);have n1_:=Aside0.mk (Kd.R_below (Kd.R_elderB (by (with_reducible repeat (first|apply Kd.R_alloc|apply Kd.R_drewN|apply Kd.R_drew));exact HO_8.out) gb171 (Nat.le_of_eq hg.symm)) hb);have n2_:=Aside0.mk (below_step (by repeat (first|(with_reducible first|exact HB.out|apply below_alloc|apply pw_below_drewN|apply below_drew1)|exact HB.out)) hb);have n3_:=Aside0.mk (hbox);have n4_:=Aside0.mk ((by rw [hg];exact (below_size (by repeat (first|(with_reducible first|exact HB.out|apply below_alloc|apply pw_below_drewN|apply below_drew1)|exact HB.out))) : w.heap.size ≤ gb171));have n5_:=n4_;clear HO_3;clear HO_8;clear HB;have HO_3:=n0_;have HO_8:=n1_;have HB:=n2_;have BK171:=n3_;have GW171:=n4_;have GE171:=n5_;clear n0_ n1_ n2_ n3_ n4_ n5_;clear hb hbox hg;have hcz25_0 : w24.cell? ⟨gb171,0,none⟩ = some (.int .i64 0):=(blk_cell BK171.out 0).trans rfl;have hcz25_1 : w24.cell? ⟨gb171,1,none⟩ = some (.int .i64 0):=(blk_cell BK171.out 1).trans rfl;have hcz25_2 : w24.cell? ⟨gb171,2,none⟩ = some (.int .i64 0):=(blk_cell BK171.out 2).trans rfl;have hfz25_0:=blk_frozen BK171.out 0;have hfz25_1:=blk_frozen BK171.out 1;have hfz25_2:=blk_frozen BK171.out 2;obtain ⟨Ao26,co26,eo26⟩:=Kd.R_slice HO_3.out;subst eo26;have p175 : 0 ≤ ((ji16) : Int):=of_decide_eq_true (by first|(with_reducible assumption)|assumption);have q175 : (ji16) < (x3_1.length : Int):=of_decide_eq_true (by first|(with_reducible assumption)|assumption);obtain ⟨ad175,e175,hx175_0,hx175_1,hx175_2⟩:=at_T60 (Kd.R_reads' HO_3.out).2.2 (ji16) p175 q175;cases e175;have hn175_0 : ad175.block ≠ gb171:=Kd.own_blk (Kd.R_away HO_3.out (fun _ hk=>hk.2));have hn175_1 : ad175.block ≠ gb171:=Kd.own_blk (Kd.R_away HO_3.out (fun _ hk=>hk.2));have hn175_2 : ad175.block ≠ gb171:=Kd.own_blk (Kd.R_away HO_3.out (fun _ hk=>hk.2));replace hx175_0:=(cell_far (p:=⟨gb171,0,none⟩) (by first|(rw [add_block];exact hn175_0)|(show (Addr.add _ _).block ≠ _;rw [add_block];exact hn175_0)|exact hn175_0) (.int .i64 ((rd_T60 t167 x10_1).f0))).trans hx175_0;replace hx175_1:=(cell_far (p:=⟨gb171,0,none⟩) (by first|(rw [add_block];exact hn175_0)|(show (Addr.add _ _).block ≠ _;rw [add_block];exact hn175_0)|exact hn175_0) (.int .i64 ((rd_T60 t167 x10_1).f0))).trans hx175_1;replace hx175_2:=(cell_far (p:=⟨gb171,0,none⟩) (by first|(rw [add_block];exact hn175_0)|(show (Addr.add _ _).block ≠ _;rw [add_block];exact hn175_0)|exact hn175_0) (.int .i64 ((rd_T60 t167 x10_1).f0))).trans hx175_2;replace hx175_0:=(cell_far (p:=⟨gb171,1,none⟩) (by first|(rw [add_block];exact hn175_1)|(show (Addr.add _ _).block ≠ _;rw [add_block];exact hn175_1)|exact hn175_1) (.int .i64 ((rd_T60 t167 x10_1).f1))).trans hx175_0;replace hx175_1:=(cell_far (p:=⟨gb171,1,none⟩) (by first|(rw [add_block];exact hn175_1)|(show (Addr.add _ _).block ≠ _;rw [add_block];exact hn175_1)|exact hn175_1) (.int .i64 ((rd_T60 t167 x10_1).f1))).trans hx175_1;replace hx175_2:=(cell_far (p:=⟨gb171,1,none⟩) (by first|(rw [add_block];exact hn175_1)|(show (Addr.add _ _).block ≠ _;rw [add_block];exact hn175_1)|exact hn175_1) (.int .i64 ((rd_T60 t167 x10_1).f1))).trans hx175_2;replace hx175_0:=(cell_far (p:=⟨gb171,2,none⟩) (by first|(rw [add_block];exact hn175_2)|(show (Addr.add _ _).block ≠ _;rw [add_block];exact hn175_2)|exact hn175_2) (.int .i64 ((rd_T60 t167 x10_1).f2))).trans hx175_0;replace hx175_1:=(cell_far (p:=⟨gb171,2,none⟩) (by first|(rw [add_block];exact hn175_2)|(show (Addr.add _ _).block ≠ _;rw [add_block];exact hn175_2)|exact hn175_2) (.int .i64 ((rd_T60 t167 x10_1).f2))).trans hx175_1;replace hx175_2:=(cell_far (p:=⟨gb171,2,none⟩) (by first|(rw [add_block];exact hn175_2)|(show (Addr.add _ _).block ≠ _;rw [add_block];exact hn175_2)|exact hn175_2) (.int .i64 ((rd_T60 t167 x10_1).f2))).trans hx175_2;(try have hy175_0:=fun (n_ : Nat)=>(show (((((w24.drewN n_).setCell ⟨gb171,0,none⟩ (.int .i64 ((rd_T60 t167 x10_1).f0))).setCell ⟨gb171,1,none⟩ (.int .i64 ((rd_T60 t167 x10_1).f1))).setCell ⟨gb171,2,none⟩ (.int .i64 ((rd_T60 t167 x10_1).f2)))).cell? _ = some _ from hx175_0));(try have hy175_1:=fun (n_ : Nat)=>(show (((((w24.drewN n_).setCell ⟨gb171,0,none⟩ (.int .i64 ((rd_T60 t167 x10_1).f0))).setCell ⟨gb171,1,none⟩ (.int .i64 ((rd_T60 t167 x10_1).f1))).setCell ⟨gb171,2,none⟩ (.int .i64 ((rd_T60 t167 x10_1).f2)))).cell? _ = some _ from hx175_1));(try have hy175_2:=fun (n_ : Nat)=>(show (((((w24.drewN n_).setCell ⟨gb171,0,none⟩ (.int .i64 ((rd_T60 t167 x10_1).f0))).setCell ⟨gb171,1,none⟩ (.int .i64 ((rd_T60 t167 x10_1).f1))).setCell ⟨gb171,2,none⟩ (.int .i64 ((rd_T60 t167 x10_1).f2)))).cell? _ = some _ from hx175_2));clear hn175_0;clear hn175_1;clear hn175_2;replace p175:=eq_true p175;replace q175:=eq_true q175)|((with_reducible refine gate_builtin (b:=.append) (xs:=#[.tmp 29,.tmp 31]) rfl ?_);(try (refine gate_guard (by rfl) ?_;dsimp only));at_builtin;refine Kd.R_append k60 (w0:=w) w.heap.size rfl (.tmp 29) (.tmp 31) 36 60 (.agg #[(.int .i64 0),(.int .i64 0),(.int .i64 0)]) 24 rfl Try.underlying36 info60 rfl (by decide) (by omega) (.slice (some ad175) x3_1.length co26) x3_1 (⟨(rd_T60 t167 x10_1).f0,(rd_T60 t167 x10_1).f1,(rd_T60 t167 x10_1).f2⟩ : S60) [.int .i64 ((rd_T60 t167 x10_1).f0),.int .i64 ((rd_T60 t167 x10_1).f1),.int .i64 ((rd_T60 t167 x10_1).f2)] (fun k_=>some k_ ≠ (.slice (some ad170) t167.length co6 : Value).ownBlock ∧ k_ ≠ gb171) (fun _=>False) rfl (by first|(go_simp;done)|(go_simp;rfl)) ?aP (fun _ hk=>hk.elim) ?aF ?aO ?aB ?aS ?aL ?_;(case aP=>exact k60_mkM _ _ _ (⟨(rd_T60 t167 x10_1).f0,(rd_T60 t167 x10_1).f1,(rd_T60 t167 x10_1).f2⟩ : S60));(case aB=>exact (by repeat (first|(with_reducible first|exact HB.out|apply below_alloc|apply pw_below_drewN|apply below_drew1|refine below_set ?_ GE171.out)|exact HB.out)));(case aF=>exact (fun k_ hk=>⟨Kd.fresh' (Kd.R_lt (by (with_reducible repeat (first|apply Kd.R_alloc|apply Kd.R_drewN|apply Kd.R_drew));exact (Kd.R_mono (Kd.R_far (p:=⟨gb171,2,none⟩) (Kd.R_far (p:=⟨gb171,1,none⟩) (Kd.R_far (p:=⟨gb171,0,none⟩) (Kd.R_mono HO_8.out (fun k_ hk=>(⟨hk,hk.2⟩ : _ ∧ k_ ≠ gb171))) (fun _ hk=>hk.2) (.int .i64 ((rd_T60 t167 x10_1).f0))) (fun _ hk=>hk.2) (.int .i64 ((rd_T60 t167 x10_1).f1))) (fun _ hk=>hk.2) (.int .i64 ((rd_T60 t167 x10_1).f2))) (fun _ h_=>h_.1)))) k_ hk,Kd.freshB (g:=gb171) (o:=.cells #[.int .i64 ((rd_T60 t167 x10_1).f0),.int .i64 ((rd_T60 t167 x10_1).f1),.int .i64 ((rd_T60 t167 x10_1).f2)] 60 (0,0)) (by (with_reducible repeat (first|refine blk_drewN ?_ _|refine blk_drew ?_|refine blk_alloc ?_ _));refine blk_put (cs:=#[.int .i64 ((rd_T60 t167 x10_1).f0),.int .i64 ((rd_T60 t167 x10_1).f1),.int .i64 0]) ?_ 2 _ rfl;(with_reducible repeat (first|refine blk_drewN ?_ _|refine blk_drew ?_|refine blk_alloc ?_ _));refine blk_put (cs:=#[.int .i64 ((rd_T60 t167 x10_1).f0),.int .i64 0,.int .i64 0]) ?_ 1 _ rfl;(with_reducible repeat (first|refine blk_drewN ?_ _|refine blk_drew ?_|refine blk_alloc ?_ _));refine blk_put (cs:=#[.int .i64 0,.int .i64 0,.int .i64 0]) ?_ 0 _ rfl;(with_reducible repeat (first|refine blk_drewN ?_ _|refine blk_drew ?_|refine blk_alloc ?_ _));exact BK171.out) k_ hk⟩));(case aO=>exact (by (with_reducible repeat (first|apply Kd.R_alloc|apply Kd.R_drewN|apply Kd.R_drew));exact Kd.R_mono (Kd.R_far (p:=⟨gb171,2,none⟩) (Kd.R_far (p:=⟨gb171,1,none⟩) (Kd.R_far (p:=⟨gb171,0,none⟩) (Kd.R_mono HO_3.out (fun k_ hk=>(⟨hk,hk.2⟩ : _ ∧ k_ ≠ gb171))) (fun _ hk=>hk.2) (.int .i64 ((rd_T60 t167 x10_1).f0))) (fun _ hk=>hk.2) (.int .i64 ((rd_T60 t167 x10_1).f1))) (fun _ hk=>hk.2) (.int .i64 ((rd_T60 t167 x10_1).f2))) (fun _ hk=>⟨hk.1.1,hk.1.2⟩)));(case aS=>exact (below_size (by repeat (first|(with_reducible first|exact HB.out|apply below_alloc|apply pw_below_drewN|apply below_drew1|refine below_set ?_ GE171.out)|exact HB.out))));(case aL=>have:=LMc23.out;omega);intro v177 w27 ho hb hg hat;rw [← Ny176.out] at ho;have n0_:=Aside0.mk (Kd.R_after (ok:=(fun k_=>k_ ≠ gb171)) (by (with_reducible repeat (first|apply Kd.R_alloc|apply Kd.R_drewN|apply Kd.R_drew));exact Kd.R_mono (Kd.R_far (p:=⟨gb171,2,none⟩) (Kd.R_far (p:=⟨gb171,1,none⟩) (Kd.R_far (p:=⟨gb171,0,none⟩) (Kd.R_mono HO_8.out (fun k_ hk=>(⟨hk,hk.2⟩ : _ ∧ k_ ≠ gb171))) (fun _ hk=>hk.2) (.int .i64 ((rd_T60 t167 x10_1).f0))) (fun _ hk=>hk.2) (.int .i64 ((rd_T60 t167 x10_1).f1))) (fun _ hk=>hk.2) (.int .i64 ((rd_T60 t167 x10_1).f2))) (fun _ hk=>⟨hk.1.2,hk.1.1⟩)) hg hat);have n1_:=Aside0.mk (blk_grown (g:=gb171) (o:=.cells #[.int .i64 ((rd_T60 t167 x10_1).f0),.int .i64 ((rd_T60 t167 x10_1).f1),.int .i64 ((rd_T60 t167 x10_1).f2)] 60 (0,0)) (by (with_reducible repeat (first|refine blk_drewN ?_ _|refine blk_drew ?_|refine blk_alloc ?_ _));refine blk_put (cs:=#[.int .i64 ((rd_T60 t167 x10_1).f0),.int .i64 ((rd_T60 t167 x10_1).f1),.int .i64 0]) ?_ 2 _ rfl;(with_reducible repeat (first|refine blk_drewN ?_ _|refine blk_drew ?_|refine blk_alloc ?_ _));refine blk_put (cs:=#[.int .i64 ((rd_T60 t167 x10_1).f0),.int .i64 0,.int .i64 0]) ?_ 1 _ rfl;(with_reducible repeat (first|refine blk_drewN ?_ _|refine blk_drew ?_|refine blk_alloc ?_ _));refine blk_put (cs:=#[.int .i64 0,.int .i64 0,.int .i64 0]) ?_ 0 _ rfl;(with_reducible repeat (first|refine blk_drewN ?_ _|refine blk_drew ?_|refine blk_alloc ?_ _));exact BK171.out) hg (Kd.R_away HO_3.out (fun _ hk=>hk.2)));have n2_:=Aside0.mk (hb);have n3_:=Aside0.mk (ho);clear HO_8;clear BK171;clear HB;clear HO_3;have HO_8:=n0_;have BK171:=n1_;have HB:=n2_;have HO178:=n3_;clear n0_ n1_ n2_ n3_;clear ho hb hg hat));try go_wp2_with (first|((with_reducible refine gate_dst (N:=5) rfl ?_);(try (refine gate_guard (by rfl) ?_;dsimp only));refine box_event ?hg (N:=5) ?hd (cs:=#[.int .i64 0,.int .i64 0,.int .i64 0]) (t:=60) ?hr ?_;(case hd=>rfl);(case hg=>rfl);(case hr=>first|(go_simp;done)|(go_simp;rfl));intro gb171 hg w24 hbox hb;have n0_:=Aside0.mk (Kd.R_below (Kd.R_elderB (by (with_reducible repeat (first|apply Kd.R_alloc|apply Kd.R_drewN|apply Kd.R_drew));exact HO_3.out) gb171 (Nat.le_of_eq hg.symm)) hb);have n1_:=Aside0.mk (Kd.R_below (Kd.R_elderB (by (with_reducible repeat (first|apply Kd.R_alloc|apply Kd.R_drewN|apply Kd.R_drew));exact HO_8.out) gb171 (Nat.le_of_eq hg.symm)) hb);have n2_:=Aside0.mk (below_step (by repeat (first|(with_reducible first|exact HB.out|apply below_alloc|apply pw_below_drewN|apply below_drew1)|exact HB.out)) hb);have n3_:=Aside0.mk (hbox);have n4_:=Aside0.mk ((by rw [hg];exact (below_size (by repeat (first|(with_reducible first|exact HB.out|apply below_alloc|apply pw_below_drewN|apply below_drew1)|exact HB.out))) : w.heap.size ≤ gb171));have n5_:=n4_;clear HO_3;clear HO_8;clear HB;have HO_3:=n0_;have HO_8:=n1_;have HB:=n2_;have BK171:=n3_;have GW171:=n4_;have GE171:=n5_;clear n0_ n1_ n2_ n3_ n4_ n5_;clear hb hbox hg;have hcz25_0 : w24.cell? ⟨gb171,0,none⟩ = some (.int .i64 0):=(blk_cell BK171.out 0).trans rfl;have hcz25_1 : w24.cell? ⟨gb171,1,none⟩ = some (.int .i64 0):=(blk_cell BK171.out 1).trans rfl;have hcz25_2 : w24.cell? ⟨gb171,2,none⟩ = some (.int .i64 0):=(blk_cell BK171.out 2).trans rfl;have hfz25_0:=blk_frozen BK171.out 0;have hfz25_1:=blk_frozen BK171.out 1;have hfz25_2:=blk_frozen BK171.out 2;obtain ⟨Ao26,co26,eo26⟩:=Kd.R_slice HO_3.out;subst eo26;have p175 : 0 ≤ ((ji16) : Int):=of_decide_eq_true (by first|(with_reducible assumption)|assumption);have q175 : (ji16) < (x3_1.length : Int):=of_decide_eq_true (by first|(with_reducible assumption)|assumption);obtain ⟨ad175,e175,hx175_0,hx175_1,hx175_2⟩:=at_T60 (Kd.R_reads' HO_3.out).2.2 (ji16) p175 q175;cases e175;have hn175_0 : ad175.block ≠ gb171:=Kd.own_blk (Kd.R_away HO_3.out (fun _ hk=>hk.2));have hn175_1 : ad175.block ≠ gb171:=Kd.own_blk (Kd.R_away HO_3.out (fun _ hk=>hk.2));have hn175_2 : ad175.block ≠ gb171:=Kd.own_blk (Kd.R_away HO_3.out (fun _ hk=>hk.2));replace hx175_0:=(cell_far (p:=⟨gb171,0,none⟩) (by first|(rw [add_block];exact hn175_0)|(show (Addr.add _ _).block ≠ _;rw [add_block];exact hn175_0)|exact hn175_0) (.int .i64 ((rd_T60 t167 x10_1).f0))).trans hx175_0;replace hx175_1:=(cell_far (p:=⟨gb171,0,none⟩) (by first|(rw [add_block];exact hn175_0)|(show (Addr.add _ _).block ≠ _;rw [add_block];exact hn175_0)|exact hn175_0) (.int .i64 ((rd_T60 t167 x10_1).f0))).trans hx175_1;replace hx175_2:=(cell_far (p:=⟨gb171,0,none⟩) (by first|(rw [add_block];exact hn175_0)|(show (Addr.add _ _).block ≠ _;rw [add_block];exact hn175_0)|exact hn175_0) (.int .i64 ((rd_T60 t167 x10_1).f0))).trans hx175_2;replace hx175_0:=(cell_far (p:=⟨gb171,1,none⟩) (by first|(rw [add_block];exact hn175_1)|(show (Addr.add _ _).block ≠ _;rw [add_block];exact hn175_1)|exact hn175_1) (.int .i64 ((rd_T60 t167 x10_1).f1))).trans hx175_0;replace hx175_1:=(cell_far (p:=⟨gb171,1,none⟩) (by first|(rw [add_block];exact hn175_1)|(show (Addr.add _ _).block ≠ _;rw [add_block];exact hn175_1)|exact hn175_1) (.int .i64 ((rd_T60 t167 x10_1).f1))).trans hx175_1;replace hx175_2:=(cell_far (p:=⟨gb171,1,none⟩) (by first|(rw [add_block];exact hn175_1)|(show (Addr.add _ _).block ≠ _;rw [add_block];exact hn175_1)|exact hn175_1) (.int .i64 ((rd_T60 t167 x10_1).f1))).trans hx175_2;replace hx175_0:=(cell_far (p:=⟨gb171,2,none⟩) (by first|(rw [add_block];exact hn175_2)|(show (Addr.add _ _).block ≠ _;rw [add_block];exact hn175_2)|exact hn175_2) (.int .i64 ((rd_T60 t167 x10_1).f2))).trans hx175_0;replace hx175_1:=(cell_far (p:=⟨gb171,2,none⟩) (by first|(rw [add_block];exact hn175_2)|(show (Addr.add _ _).block ≠ _;rw [add_block];exact hn175_2)|exact hn175_2) (.int .i64 ((rd_T60 t167 x10_1).f2))).trans hx175_1;replace hx175_2:=(cell_far (p:=⟨gb171,2,none⟩) (by first|(rw [add_block];exact hn175_2)|(show (Addr.add _ _).block ≠ _;rw [add_block];exact hn175_2)|exact hn175_2) (.int .i64 ((rd_T60 t167 x10_1).f2))).trans hx175_2;(try have hy175_0:=fun (n_ : Nat)=>(show (((((w24.drewN n_).setCell ⟨gb171,0,none⟩ (.int .i64 ((rd_T60 t167 x10_1).f0))).setCell ⟨gb171,1,none⟩ (.int .i64 ((rd_T60 t167 x10_1).f1))).setCell ⟨gb171,2,none⟩ (.int .i64 ((rd_T60 t167 x10_1).f2)))).cell? _ = some _ from hx175_0));(try have hy175_1:=fun (n_ : Nat)=>(show (((((w24.drewN n_).setCell ⟨gb171,0,none⟩ (.int .i64 ((rd_T60 t167 x10_1).f0))).setCell ⟨gb171,1,none⟩ (.int .i64 ((rd_T60 t167 x10_1).f1))).setCell ⟨gb171,2,none⟩ (.int .i64 ((rd_T60 t167 x10_1).f2)))).cell? _ = some _ from hx175_1));(try have hy175_2:=fun (n_ : Nat)=>(show (((((w24.drewN n_).setCell ⟨gb171,0,none⟩ (.int .i64 ((rd_T60 t167 x10_1).f0))).setCell ⟨gb171,1,none⟩ (.int .i64 ((rd_T60 t167 x10_1).f1))).setCell ⟨gb171,2,none⟩ (.int .i64 ((rd_T60 t167 x10_1).f2)))).cell? _ = some _ from hx175_2));clear hn175_0;clear hn175_1;clear hn175_2;replace p175:=eq_true p175;replace q175:=eq_true q175)|((with_reducible refine gate_builtin (b:=.append) (xs:=#[.tmp 29,.tmp 31]) rfl ?_);(try (refine gate_guard (by rfl) ?_;dsimp only));at_builtin;refine Kd.R_append k60 (w0:=w) w.heap.size rfl (.tmp 29) (.tmp 31) 36 60 (.agg #[(.int .i64 0),(.int .i64 0),(.int .i64 0)]) 24 rfl Try.underlying36 info60 rfl (by decide) (by omega) (.slice (some ad175) x3_1.length co26) x3_1 (⟨(rd_T60 t167 x10_1).f0,(rd_T60 t167 x10_1).f1,(rd_T60 t167 x10_1).f2⟩ : S60) [.int .i64 ((rd_T60 t167 x10_1).f0),.int .i64 ((rd_T60 t167 x10_1).f1),.int .i64 ((rd_T60 t167 x10_1).f2)] (fun k_=>some k_ ≠ (.slice (some ad170) t167.length co6 : Value).ownBlock ∧ k_ ≠ gb171) (fun _=>False) rfl (by first|(go_simp;done)|(go_simp;rfl)) ?aP (fun _ hk=>hk.elim) ?aF ?aO ?aB ?aS ?aL ?_;(case aP=>exact k60_mkM _ _ _ (⟨(rd_T60 t167 x10_1).f0,(rd_T60 t167 x10_1).f1,(rd_T60 t167 x10_1).f2⟩ : S60));(case aB=>exact (by repeat (first|(with_reducible first|exact HB.out|apply below_alloc|apply pw_below_drewN|apply below_drew1|refine below_set ?_ GE171.out)|exact HB.out)));(case aF=>exact (fun k_ hk=>⟨Kd.fresh' (Kd.R_lt (by (with_reducible repeat (first|apply Kd.R_alloc|apply Kd.R_drewN|apply Kd.R_drew));exact (Kd.R_mono (Kd.R_far (p:=⟨gb171,2,none⟩) (Kd.R_far (p:=⟨gb171,1,none⟩) (Kd.R_far (p:=⟨gb171,0,none⟩) (Kd.R_mono HO_8.out (fun k_ hk=>(⟨hk,hk.2⟩ : _ ∧ k_ ≠ gb171))) (fun _ hk=>hk.2) (.int .i64 ((rd_T60 t167 x10_1).f0))) (fun _ hk=>hk.2) (.int .i64 ((rd_T60 t167 x10_1).f1))) (fun _ hk=>hk.2) (.int .i64 ((rd_T60 t167 x10_1).f2))) (fun _ h_=>h_.1)))) k_ hk,Kd.freshB (g:=gb171) (o:=.cells #[.int .i64 ((rd_T60 t167 x10_1).f0),.int .i64 ((rd_T60 t167 x10_1).f1),.int .i64 ((rd_T60 t167 x10_1).f2)] 60 (0,0)) (by (with_reducible repeat (first|refine blk_drewN ?_ _|refine blk_drew ?_|refine blk_alloc ?_ _));refine blk_put (cs:=#[.int .i64 ((rd_T60 t167 x10_1).f0),.int .i64 ((rd_T60 t167 x10_1).f1),.int .i64 0]) ?_ 2 _ rfl;(with_reducible repeat (first|refine blk_drewN ?_ _|refine blk_drew ?_|refine blk_alloc ?_ _));refine blk_put (cs:=#[.int .i64 ((rd_T60 t167 x10_1).f0),.int .i64 0,.int .i64 0]) ?_ 1 _ rfl;(with_reducible repeat (first|refine blk_drewN ?_ _|refine blk_drew ?_|refine blk_alloc ?_ _));refine blk_put (cs:=#[.int .i64 0,.int .i64 0,.int .i64 0]) ?_ 0 _ rfl;(with_reducible repeat (first|refine blk_drewN ?_ _|refine blk_drew ?_|refine blk_alloc ?_ _));exact BK171.out) k_ hk⟩));(case aO=>exact (by (with_reducible repeat (first|apply Kd.R_alloc|apply Kd.R_drewN|apply Kd.R_drew));exact Kd.R_mono (Kd.R_far (p:=⟨gb171,2,none⟩) (Kd.R_far (p:=⟨gb171,1,none⟩) (Kd.R_far (p:=⟨gb171,0,none⟩) (Kd.R_mono HO_3.out (fun k_ hk=>(⟨hk,hk.2⟩ : _ ∧ k_ ≠ gb171))) (fun _ hk=>hk.2) (.int .i64 ((rd_T60 t167 x10_1).f0))) (fun _ hk=>hk.2) (.int .i64 ((rd_T60 t167 x10_1).f1))) (fun _ hk=>hk.2) (.int .i64 ((rd_T60 t167 x10_1).f2))) (fun _ hk=>⟨hk.1.1,hk.1.2⟩)));(case aS=>exact (below_size (by repeat (first|(with_reducible first|exact HB.out|apply below_alloc|apply pw_below_drewN|apply below_drew1|refine below_set ?_ GE171.out)|exact HB.out))));(case aL=>have:=LMc23.out;omega);intro v177 w27 ho hb hg hat;rw [← Ny176.out] at ho;have n0_:=Aside0.mk (Kd.R_after (ok:=(fun k_=>k_ ≠ gb171)) (by (with_reducible repeat (first|apply Kd.R_alloc|apply Kd.R_drewN|apply Kd.R_drew));exact Kd.R_mono (Kd.R_far (p:=⟨gb171,2,none⟩) (Kd.R_far (p:=⟨gb171,1,none⟩) (Kd.R_far (p:=⟨gb171,0,none⟩) (Kd.R_mono HO_8.out (fun k_ hk=>(⟨hk,hk.2⟩ : _ ∧ k_ ≠ gb171))) (fun _ hk=>hk.2) (.int .i64 ((rd_T60 t167 x10_1).f0))) (fun _ hk=>hk.2) (.int .i64 ((rd_T60 t167 x10_1).f1))) (fun _ hk=>hk.2) (.int .i64 ((rd_T60 t167 x10_1).f2))) (fun _ hk=>⟨hk.1.2,hk.1.1⟩)) hg hat);have n1_:=Aside0.mk (blk_grown (g:=gb171) (o:=.cells #[.int .i64 ((rd_T60 t167 x10_1).f0),.int .i64 ((rd_T60 t167 x10_1).f1),.int .i64 ((rd_T60 t167 x10_1).f2)] 60 (0,0)) (by (with_reducible repeat (first|refine blk_drewN ?_ _|refine blk_drew ?_|refine blk_alloc ?_ _));refine blk_put (cs:=#[.int .i64 ((rd_T60 t167 x10_1).f0),.int .i64 ((rd_T60 t167 x10_1).f1),.int .i64 0]) ?_ 2 _ rfl;(with_reducible repeat (first|refine blk_drewN ?_ _|refine blk_drew ?_|refine blk_alloc ?_ _));refine blk_put (cs:=#[.int .i64 ((rd_T60 t167 x10_1).f0),.int .i64 0,.int .i64 0]) ?_ 1 _ rfl;(with_reducible repeat (first|refine blk_drewN ?_ _|refine blk_drew ?_|refine blk_alloc ?_ _));refine blk_put (cs:=#[.int .i64 0,.int .i64 0,.int .i64 0]) ?_ 0 _ rfl;(with_reducible repeat (first|refine blk_drewN ?_ _|refine blk_drew ?_|refine blk_alloc ?_ _));exact BK171.out) hg (Kd.R_away HO_3.out (fun _ hk=>hk.2)));have n2_:=Aside0.mk (hb);have n3_:=Aside0.mk (ho);clear HO_8;clear BK171;clear HB;clear HO_3;have HO_8:=n0_;have BK171:=n1_;have HB:=n2_;have HO178:=n3_;clear n0_ n1_ n2_ n3_;clear ho hb hg hat)))
           go_roundg k1
           case measure=>have:=HK1.out;omega
           case rel=>exact ⟨(y176),(wrap64 (x10_1 + 1)),(by first|rfl|(simp;done)|(simp [*];done)),H',⟨by have:=HK1.out;omega⟩,⟨by (with_reducible repeat (first|apply Kd.R_alloc|apply Kd.R_drewN|apply Kd.R_drew));exact Kd.R_mono HO178.out (fun _ hk=>hk.1)⟩,⟨by (with_reducible repeat (first|apply Kd.R_alloc|apply Kd.R_drewN|apply Kd.R_drew));exact Kd.R_mono HO_8.out (fun _ hk=>hk.2)⟩,⟨by repeat (first|(with_reducible first|exact HB.out|apply below_alloc|apply pw_below_drewN|apply below_drew1|refine below_set ?_ GE171.out)|exact HB.out)⟩⟩
          ·rw [if_neg c23] at H
           exact absurd H (by simp)
        ·rw [if_neg c18] at H
         exact absurd H (by simp)
       ·rw [if_neg c17] at H
        exact absurd H (by simp)
     ·rw [if_neg c9] at H
      exact absurd H (by simp)
    ·rw [if_neg c8] at H
     exact absurd H (by simp)
   ·rw [if_neg c7] at H
    have c7b0 : decide (x10_1 < (t167.length : Int)) = false:=decide_eq_false c7
    clear c7
    obtain rfl:=Option.some.inj H
    go_wp2
    repeat (go_quiet (fail);try go_wp2)
    go_ret
    exact ⟨_,by first|rfl|(simp [errW_none,errW_some] <;> rfl)|(simp [*,errW_none,errW_some] <;> rfl),by (with_reducible repeat (first|apply Kd.R_alloc|apply Kd.R_drewN|apply Kd.R_drew));exact Kd.R_mono HO_3.out (fun _ hk=>trivial),by repeat (first|(with_reducible first|exact HB.out|apply below_alloc|apply pw_below_drewN|apply below_drew1)|exact HB.out)⟩
def impl_SetLeast.f (k : Nat) (l0 : List (S60)) : Option ((List (S60))) := (impl_SetOk.f k l0).bind fun t179 => (if t179 = true then ((impl_leastOf.f k l0).bind fun t180 => (some t180)) else (some ([] : List (S60))))
theorem impl_SetLeast.mono : ∀ a0 k,LeO (impl_SetLeast.f k a0) (impl_SetLeast.f (k + 1) a0):=by
 intro a0 k
 unfold impl_SetLeast.f
 repeat' first
   | (with_reducible exact impl_SetOk.mono _ _)
   | (with_reducible exact impl_leastOf.mono _ _)
   | (with_reducible exact LeO.refl _)
   | (with_reducible exact LeO.none _)
   | (with_reducible refine LeO.ite ?_ ?_)
   | (with_reducible refine LeO.bind ?_ (fun _=>?_))
   | exact impl_SetOk.mono _ _
   | exact impl_leastOf.mono _ _
   | exact LeO.none _
   | refine LeO.ite ?_ ?_
   | refine LeO.bind ?_ (fun _=>?_)
set_option maxHeartbeats 8000000 in
set_option maxRecDepth 100000 in
theorem impl_SetLeast.calls (k : Nat) (A0 : Option Addr) (c0 : Nat) (l0 : List (S60)) (r : List (S60)) (w : World) (hr0 : Kd.C k60 w A0 l0.length l0) (hc0 : l0.length ≤ c0) (h : impl_SetLeast.f k l0 = some r) :
  Calls Try.prog 46 #[.slice A0 l0.length c0] w fun e w'=>∃ v0_ : Value,e = .returned (v0_) ∧ Kd.R k60 60 w' w.heap.size (fun _=>True) v0_ r ∧ Below w.heap.size w w':=by
 have HR0:=Aside0.mk hr0
 have HC0:=Aside0.mk hc0
 clear hr0 hc0
 have HB:=Aside0.mk (Below.refl w.heap.size w)
 have H : ((impl_SetOk.f k l0).bind fun t179=>(if t179 = true then ((impl_leastOf.f k l0).bind fun t180=>(some t180)) else (some ([] : List (S60))))) = some r:=h
 clear h
 replace H:=Option.bind_eq_some_iff.mp H
 obtain ⟨t179,A20,H⟩:=H
 replace H : (if t179 = true then ((impl_leastOf.f k l0).bind fun t180=>(some t180)) else (some ([] : List (S60)))) = some r:=H
 have A2:=Aside0.mk A20
 clear A20
 by_cases c3 : t179 = true
 ·subst c3
  have H1 : ((impl_leastOf.f k l0).bind fun t180=>(some t180)) = some r:=by rw [if_pos rfl] at H;exact H
  clear H
  have H:=H1
  clear H1
  replace H:=Option.bind_eq_some_iff.mp H
  obtain ⟨t180,A40,H⟩:=H
  replace H : (some t180) = some r:=H
  have A4:=Aside0.mk A40
  clear A40
  obtain rfl:=Option.some.inj H
  go_enter Try.func46,Try.ntmps46
  go_wp2_with (first|((with_reducible refine gate_callee (f:=61) rfl ?_);refine goesL_ (some 4) rfl rfl Try.func61 (by kernel_rfl) rfl #[.slice A0 l0.length c0] rfl (by (try simp only [List.map_toArray,List.map_cons,List.map_nil]);first|done|rfl|(simp only [List.length_drop,List.length_take];rfl)) ?_;(with_reducible refine (impl_SetOk.calls k _ _ l0 true _ ?side1 ?side2 A2.out).mono ?_);(case side1=>repeat (first|exact HR0.out|(with_reducible refine Kd.C_alloc ?_ _)|(with_reducible refine Kd.C_drewN ?_ _)|(with_reducible refine Kd.C_drew ?_)));(case side2=>exact HC0.out);rintro e w5 ⟨rfl,hb⟩;refine ⟨_,rfl,?_⟩;have n0_:=Aside0.mk (below_step (by repeat (first|(with_reducible first|exact HB.out|apply below_alloc|apply pw_below_drewN|apply below_drew1)|exact HB.out)) hb);clear HB;have HB:=n0_;clear n0_;(try clear hb);(try clear hb2);(try clear hk);(try clear hi))|((with_reducible refine gate_callee (f:=78) rfl ?_);refine goesL_ (some 7) rfl rfl Try.func78 (by kernel_rfl) rfl #[.slice A0 l0.length c0] rfl (by (try simp only [List.map_toArray,List.map_cons,List.map_nil]);first|done|rfl|(simp only [List.length_drop,List.length_take];rfl)) ?_;(with_reducible refine (impl_leastOf.calls k _ _ l0 t180 _ ?side1 ?side2 A4.out).mono ?_);(case side1=>repeat (first|exact (Kd.C_below HR0.out HB.out)|(with_reducible refine Kd.C_alloc ?_ _)|(with_reducible refine Kd.C_drewN ?_ _)|(with_reducible refine Kd.C_drew ?_)));(case side2=>exact HC0.out);rintro e w6 ⟨v181,rfl,ho0,hb⟩;refine ⟨_,rfl,?_⟩;have n0_:=Aside0.mk (Kd.R_lower ho0 (below_size (by repeat (first|(with_reducible first|exact HB.out|apply below_alloc|apply pw_below_drewN|apply below_drew1)|exact HB.out))));have n1_:=Aside0.mk (below_step (by repeat (first|(with_reducible first|exact HB.out|apply below_alloc|apply pw_below_drewN|apply below_drew1)|exact HB.out)) hb);clear HB;have HO182:=n0_;have HB:=n1_;clear n0_ n1_;(try clear hb);(try clear hb2);(try clear hk);(try clear hi);(try clear ho0)))
  go_ret
  exact ⟨_,by first|rfl|(simp [errW_none,errW_some] <;> rfl)|(simp [*,errW_none,errW_some] <;> rfl),by (with_reducible repeat (first|apply Kd.R_alloc|apply Kd.R_drewN|apply Kd.R_drew));exact HO182.out,by repeat (first|(with_reducible first|exact HB.out|apply below_alloc|apply pw_below_drewN|apply below_drew1)|exact HB.out)⟩
 ·replace c3:=Bool.eq_false_iff.mpr c3
  subst c3
  have H1 : (some ([] : List (S60))) = some r:=by rw [if_neg (show ¬ (false = true) by decide)] at H;exact H
  clear H
  have H:=H1
  clear H1
  obtain rfl:=Option.some.inj H
  go_enter Try.func46,Try.ntmps46
  go_wp2_with (first|((with_reducible refine gate_callee (f:=61) rfl ?_);refine goesL_ (some 4) rfl rfl Try.func61 (by kernel_rfl) rfl #[.slice A0 l0.length c0] rfl (by (try simp only [List.map_toArray,List.map_cons,List.map_nil]);first|done|rfl|(simp only [List.length_drop,List.length_take];rfl)) ?_;(with_reducible refine (impl_SetOk.calls k _ _ l0 false _ ?side1 ?side2 A2.out).mono ?_);(case side1=>repeat (first|exact HR0.out|(with_reducible refine Kd.C_alloc ?_ _)|(with_reducible refine Kd.C_drewN ?_ _)|(with_reducible refine Kd.C_drew ?_)));(case side2=>exact HC0.out);rintro e w7 ⟨rfl,hb⟩;refine ⟨_,rfl,?_⟩;have n0_:=Aside0.mk (below_step (by repeat (first|(with_reducible first|exact HB.out|apply below_alloc|apply pw_below_drewN|apply below_drew1)|exact HB.out)) hb);clear HB;have HB:=n0_;clear n0_;(try clear hb);(try clear hb2);(try clear hk);(try clear hi)))
  go_ret
  exact ⟨_,by first|rfl|(simp [errW_none,errW_some] <;> rfl)|(simp [*,errW_none,errW_some] <;> rfl),by first|exact Kd.R_nil _ _ _ _ _|exact Kd.N_nil _ _ _ _ _|exact Kd.V_nil _ _ _ _ _|exact Kd.Q_nil _ _ _ _ _|exact Kd.S_nil _ _ _ _ _,by repeat (first|(with_reducible first|exact HB.out|apply below_alloc|apply pw_below_drewN|apply below_drew1)|exact HB.out)⟩
def laws_lwItems.l0 : Nat → List (S60) → List (S60) → Int → Option (Bool)
 | 0, _, _, _ => none
 | k + 1, x0, x1, x5 => if x5 < (x0.length : Int) then (if 0 ≤ x5 then (if x5 < (x1.length : Int) then (if (!(((rd_T60 x0 x5).f0) == ((rd_T60 x1 x5).f0)) || (!(((rd_T60 x0 x5).f1) == ((rd_T60 x1 x5).f1)) || (!(((rd_T60 x0 x5).f2) == ((rd_T60 x1 x5).f2))))) = true then (some false) else (laws_lwItems.l0 k x0 x1 (wrap64 (x5 + 1)))) else (none)) else (none)) else (some true)
def laws_lwItems.f (k : Nat) (l0 : List (S60)) (l1 : List (S60)) : Option (Bool) := if (l0.length : Int) = (l1.length : Int) then (laws_lwItems.l0 k l0 l1 0) else (some false)
theorem laws_lwItems.mono_l : ∀ k,(∀ y0 y1 y2,LeO (laws_lwItems.l0 k y0 y1 y2) (laws_lwItems.l0 (k + 1) y0 y1 y2))
 | 0=>fun _ _ _ r h=>by simp [laws_lwItems.l0] at h
 | k + 1=>by
  have ih0:=laws_lwItems.mono_l k
  ·intro y0 y1 y2
   unfold laws_lwItems.l0
   repeat' first
   | (with_reducible exact ih0 _ _ _)
   | (with_reducible exact LeO.refl _)
   | (with_reducible exact LeO.none _)
   | (with_reducible refine LeO.ite ?_ ?_)
   | (with_reducible refine LeO.bind ?_ (fun _=>?_))
   | exact ih0 _ _ _
   | exact LeO.none _
   | refine LeO.ite ?_ ?_
   | refine LeO.bind ?_ (fun _=>?_)
theorem laws_lwItems.mono : ∀ a0 a1 k,LeO (laws_lwItems.f k a0 a1) (laws_lwItems.f (k + 1) a0 a1):=by
 intro a0 a1 k
 have ih0:=laws_lwItems.mono_l k
 unfold laws_lwItems.f
 repeat' first
   | (with_reducible exact ih0 _ _ _)
   | (with_reducible exact LeO.refl _)
   | (with_reducible exact LeO.none _)
   | (with_reducible refine LeO.ite ?_ ?_)
   | (with_reducible refine LeO.bind ?_ (fun _=>?_))
   | exact ih0 _ _ _
   | exact LeO.none _
   | refine LeO.ite ?_ ?_
   | refine LeO.bind ?_ (fun _=>?_)
set_option maxHeartbeats 8000000 in
set_option maxRecDepth 100000 in
theorem laws_lwItems.calls (k : Nat) (A0 : Option Addr) (c0 : Nat) (l0 : List (S60)) (A1 : Option Addr) (c1 : Nat) (l1 : List (S60)) (r : Bool) (w : World) (hr0 : Kd.C k60 w A0 l0.length l0) (hc0 : l0.length ≤ c0) (hr1 : Kd.C k60 w A1 l1.length l1) (hc1 : l1.length ≤ c1) (h : laws_lwItems.f k l0 l1 = some r) :
  Calls Try.prog 50 #[.slice A0 l0.length c0,.slice A1 l1.length c1] w fun e w'=>e = .returned (.bool r) ∧ Drawn0 w w':=by
 have hu60:=Try.underlying60
 have HR0:=Aside0.mk hr0
 have HC0:=Aside0.mk hc0
 clear hr0 hc0
 have HR1:=Aside0.mk hr1
 have HC1:=Aside0.mk hc1
 clear hr1 hc1
 have H : (if (l0.length : Int) = (l1.length : Int) then (laws_lwItems.l0 k l0 l1 0) else (some false)) = some r:=h
 clear h
 by_cases c3 : (l0.length : Int) = (l1.length : Int)
 ·rw [if_pos c3] at H
  have c3b0 : ((l0.length : Int) == (l1.length : Int)) = true:=beq_iff_eq.mpr c3
  have c3b1 : ((l0.length : Int) != (l1.length : Int)) = false:=bne_eq_false_iff_eq.mpr c3
  have c3b2 : (l0.length == l1.length) = true:=by first|simpa using c3|(simp at c3 ⊢;omega)
  clear c3
  have H':=Aside0.mk H
  clear H
  go_enter Try.func50,Try.ntmps50
  go_wp2
  repeat (go_quiet (fail);try go_wp2)
  go_loopg [5] k (fun kq v5 w'=>∃ (x5_1 : Int),v5 = .int .i64 x5_1 ∧ Aside0 (laws_lwItems.l0 kq l0 l1 x5_1 = some r) ∧ Aside0 (kq ≤ k) ∧ Drawn0 w w')
  case atStart=>exact ⟨(0),(by first|rfl|(simp;done)|(simp [*];done)),H',⟨Nat.le_refl _⟩,by repeat (first|exact Drawn0.refl _|apply Drawn0.step)⟩
  case round =>
   clear H'
   try clear c1
   try clear p2
   try clear c3
   try clear c3b0
   try clear c3b1
   try clear c3b2
   obtain ⟨x5_1,rfl,HA,HK1,⟨m1,rfl⟩⟩:=hrel
   cases gk with
   | zero=>exact absurd HA.out (by simp [laws_lwItems.l0])
   | succ k1 =>
    have H:=HA.out
    clear HA
    simp only [laws_lwItems.l0] at H
    by_cases c4 : x5_1 < (l0.length : Int)
    ·rw [if_pos c4] at H
     have c4b0 : decide (x5_1 < (l0.length : Int)) = true:=decide_eq_true c4
     clear c4
     by_cases c5 : 0 ≤ x5_1
     ·rw [if_pos c5] at H
      have c5b0 : decide (0 ≤ x5_1) = true:=decide_eq_true c5
      clear c5
      by_cases c6 : x5_1 < (l1.length : Int)
      ·rw [if_pos c6] at H
       have c6b0 : decide (x5_1 < (l1.length : Int)) = true:=decide_eq_true c6
       clear c6
       by_cases c7 : (!(((rd_T60 l0 x5_1).f0) == ((rd_T60 l1 x5_1).f0)) || (!(((rd_T60 l0 x5_1).f1) == ((rd_T60 l1 x5_1).f1)) || (!(((rd_T60 l0 x5_1).f2) == ((rd_T60 l1 x5_1).f2))))) = true
       ·rw [if_pos c7] at H
        have c7b0 : (!(((rd_T60 l0 x5_1).f0) == ((rd_T60 l1 x5_1).f0)) || (!(((rd_T60 l0 x5_1).f1) == ((rd_T60 l1 x5_1).f1)) || (!(((rd_T60 l0 x5_1).f2) == ((rd_T60 l1 x5_1).f2))))) = true:=c7
        clear c7
        obtain rfl:=Option.some.inj H
        have p183 : 0 ≤ (x5_1 : Int):=of_decide_eq_true (by first|(with_reducible assumption)|assumption)
        have q183 : x5_1 < (l0.length : Int):=of_decide_eq_true (by first|(with_reducible assumption)|assumption)
        obtain ⟨ad183,e183,hx183_0,hx183_1,hx183_2⟩:=at_T60 HR0.out x5_1 p183 q183
        cases e183
        replace p183:=eq_true p183
        replace q183:=eq_true q183
        have p184 : 0 ≤ (x5_1 : Int):=of_decide_eq_true (by first|(with_reducible assumption)|assumption)
        have q184 : x5_1 < (l1.length : Int):=of_decide_eq_true (by first|(with_reducible assumption)|assumption)
        obtain ⟨ad184,e184,hx184_0,hx184_1,hx184_2⟩:=at_T60 HR1.out x5_1 p184 q184
        cases e184
        replace p184:=eq_true p184
        replace q184:=eq_true q184
        go_wp2
        repeat (go_quiet (fail);try go_wp2)
        go_ret
        exact ⟨by first|rfl|(simp;done)|(simp [*];done),by repeat (first|exact Drawn0.refl _|apply Drawn0.step)⟩
       ·rw [if_neg c7] at H
        have c7b0 : (!(((rd_T60 l0 x5_1).f0) == ((rd_T60 l1 x5_1).f0)) || (!(((rd_T60 l0 x5_1).f1) == ((rd_T60 l1 x5_1).f1)) || (!(((rd_T60 l0 x5_1).f2) == ((rd_T60 l1 x5_1).f2))))) = false:=by simpa using c7
        clear c7
        have H':=Aside0.mk H
        clear H
        have p183 : 0 ≤ (x5_1 : Int):=of_decide_eq_true (by first|(with_reducible assumption)|assumption)
        have q183 : x5_1 < (l0.length : Int):=of_decide_eq_true (by first|(with_reducible assumption)|assumption)
        obtain ⟨ad183,e183,hx183_0,hx183_1,hx183_2⟩:=at_T60 HR0.out x5_1 p183 q183
        cases e183
        replace p183:=eq_true p183
        replace q183:=eq_true q183
        have p184 : 0 ≤ (x5_1 : Int):=of_decide_eq_true (by first|(with_reducible assumption)|assumption)
        have q184 : x5_1 < (l1.length : Int):=of_decide_eq_true (by first|(with_reducible assumption)|assumption)
        obtain ⟨ad184,e184,hx184_0,hx184_1,hx184_2⟩:=at_T60 HR1.out x5_1 p184 q184
        cases e184
        replace p184:=eq_true p184
        replace q184:=eq_true q184
        go_wp2
        repeat (go_quiet (fail);try go_wp2)
        go_roundg k1
        case measure=>have:=HK1.out;omega
        case rel=>exact ⟨(wrap64 (x5_1 + 1)),(by first|rfl|(simp;done)|(simp [*];done)),H',⟨by have:=HK1.out;omega⟩,by repeat (first|exact Drawn0.refl _|apply Drawn0.step)⟩
      ·rw [if_neg c6] at H
       exact absurd H (by simp)
     ·rw [if_neg c5] at H
      exact absurd H (by simp)
    ·rw [if_neg c4] at H
     have c4b0 : decide (x5_1 < (l0.length : Int)) = false:=decide_eq_false c4
     clear c4
     obtain rfl:=Option.some.inj H
     go_wp2
     repeat (go_quiet (fail);try go_wp2)
     go_ret
     exact ⟨by first|rfl|(simp;done)|(simp [*];done),by repeat (first|exact Drawn0.refl _|apply Drawn0.step)⟩
 ·rw [if_neg c3] at H
  have c3b0 : ((l0.length : Int) == (l1.length : Int)) = false:=beq_eq_false_iff_ne.mpr c3
  have c3b1 : ((l0.length : Int) != (l1.length : Int)) = true:=bne_iff_ne.mpr c3
  have c3b2 : (l0.length == l1.length) = false:=by first|simpa using c3|(simp at c3 ⊢;omega)
  obtain rfl:=Option.some.inj H
  go_enter Try.func50,Try.ntmps50
  go_wp2
  repeat (go_quiet (fail);try go_wp2)
  go_ret
  exact ⟨by first|rfl|(simp;done)|(simp [*];done),by repeat (first|exact Drawn0.refl _|apply Drawn0.step)⟩
def laws_lwHas.l0 : Nat → List (S60) → Int → Int → Int → Int → Option (Bool)
 | 0, _, _, _, _, _ => none
 | k + 1, x0, x5, x186000, x186001, x186002 => if x5 < (x0.length : Int) then (if 0 ≤ x5 then (if (((rd_T60 x0 x5).f0) == x186000 && (((rd_T60 x0 x5).f1) == x186001 && (((rd_T60 x0 x5).f2) == x186002))) = true then (some true) else (laws_lwHas.l0 k x0 (wrap64 (x5 + 1)) x186000 x186001 x186002)) else (none)) else (some false)
def laws_lwHas.f (k : Nat) (l0 : List (S60)) (a1_0 : Int) (a1_1 : Int) (a1_2 : Int) : Option (Bool) := laws_lwHas.l0 k l0 0 a1_0 a1_1 a1_2
theorem laws_lwHas.mono_l : ∀ k,(∀ y0 y1 y2 y3 y4,LeO (laws_lwHas.l0 k y0 y1 y2 y3 y4) (laws_lwHas.l0 (k + 1) y0 y1 y2 y3 y4))
 | 0=>fun _ _ _ _ _ r h=>by simp [laws_lwHas.l0] at h
 | k + 1=>by
  have ih0:=laws_lwHas.mono_l k
  ·intro y0 y1 y2 y3 y4
   unfold laws_lwHas.l0
   repeat' first
   | (with_reducible exact ih0 _ _ _ _ _)
   | (with_reducible exact LeO.refl _)
   | (with_reducible exact LeO.none _)
   | (with_reducible refine LeO.ite ?_ ?_)
   | (with_reducible refine LeO.bind ?_ (fun _=>?_))
   | exact ih0 _ _ _ _ _
   | exact LeO.none _
   | refine LeO.ite ?_ ?_
   | refine LeO.bind ?_ (fun _=>?_)
theorem laws_lwHas.mono : ∀ a0 a1 a2 a3 k,LeO (laws_lwHas.f k a0 a1 a2 a3) (laws_lwHas.f (k + 1) a0 a1 a2 a3):=by
 intro a0 a1 a2 a3 k
 have ih0:=laws_lwHas.mono_l k
 unfold laws_lwHas.f
 repeat' first
   | (with_reducible exact ih0 _ _ _ _ _)
   | (with_reducible exact LeO.refl _)
   | (with_reducible exact LeO.none _)
   | (with_reducible refine LeO.ite ?_ ?_)
   | (with_reducible refine LeO.bind ?_ (fun _=>?_))
   | exact ih0 _ _ _ _ _
   | exact LeO.none _
   | refine LeO.ite ?_ ?_
   | refine LeO.bind ?_ (fun _=>?_)
set_option maxHeartbeats 8000000 in
set_option maxRecDepth 100000 in
theorem laws_lwHas.calls (k : Nat) (A0 : Option Addr) (c0 : Nat) (l0 : List (S60)) (a1_0 : Int) (a1_1 : Int) (a1_2 : Int) (r : Bool) (w : World) (hr0 : Kd.C k60 w A0 l0.length l0) (hc0 : l0.length ≤ c0) (h : laws_lwHas.f k l0 a1_0 a1_1 a1_2 = some r) :
  Calls Try.prog 53 #[.slice A0 l0.length c0,.agg #[.int .i64 a1_0,.int .i64 a1_1,.int .i64 a1_2]] w fun e w'=>e = .returned (.bool r) ∧ Below w.heap.size w w':=by
 have hu60:=Try.underlying60
 have HR0:=Aside0.mk hr0
 have HC0:=Aside0.mk hc0
 clear hr0 hc0
 have HB:=Aside0.mk (Below.refl w.heap.size w)
 have H : (laws_lwHas.l0 k l0 0 a1_0 a1_1 a1_2) = some r:=h
 clear h
 have H':=Aside0.mk H
 clear H
 go_enter Try.func53,Try.ntmps53
 go_wp2_with (first|((with_reducible refine gate_dst (N:=3) rfl ?_);refine box_event ?hg (N:=3) ?hd (cs:=#[.int .i64 a1_0,.int .i64 a1_1,.int .i64 a1_2]) (t:=60) ?hr ?_;(case hd=>rfl);(case hg=>rfl);(case hr=>first|(go_simp;done)|(go_simp;rfl));intro gb185 hg w3 hbox hb;have n0_:=Aside0.mk (below_step (by repeat (first|(with_reducible first|exact HB.out|apply below_alloc|apply pw_below_drewN|apply below_drew1)|exact HB.out)) hb);have n1_:=Aside0.mk (hbox);have n2_:=Aside0.mk ((by rw [hg];exact (below_size (by repeat (first|(with_reducible first|exact HB.out|apply below_alloc|apply pw_below_drewN|apply below_drew1)|exact HB.out))) : w.heap.size ≤ gb185));have n3_:=n2_;clear HB;have HB:=n0_;have BK185:=n1_;have GW185:=n2_;have GE185:=n3_;clear n0_ n1_ n2_ n3_;clear hb hbox hg))
 repeat (go_quiet (first|((with_reducible refine gate_dst (N:=3) rfl ?_);refine box_event ?hg (N:=3) ?hd (cs:=#[.int .i64 a1_0,.int .i64 a1_1,.int .i64 a1_2]) (t:=60) ?hr ?_;(case hd=>rfl);(case hg=>rfl);(case hr=>first|(go_simp;done)|(go_simp;rfl));intro gb185 hg w3 hbox hb;have n0_:=Aside0.mk (below_step (by repeat (first|(with_reducible first|exact HB.out|apply below_alloc|apply pw_below_drewN|apply below_drew1)|exact HB.out)) hb);have n1_:=Aside0.mk (hbox);have n2_:=Aside0.mk ((by rw [hg];exact (below_size (by repeat (first|(with_reducible first|exact HB.out|apply below_alloc|apply pw_below_drewN|apply below_drew1)|exact HB.out))) : w.heap.size ≤ gb185));have n3_:=n2_;clear HB;have HB:=n0_;have BK185:=n1_;have GW185:=n2_;have GE185:=n3_;clear n0_ n1_ n2_ n3_;clear hb hbox hg));try go_wp2_with (first|((with_reducible refine gate_dst (N:=3) rfl ?_);refine box_event ?hg (N:=3) ?hd (cs:=#[.int .i64 a1_0,.int .i64 a1_1,.int .i64 a1_2]) (t:=60) ?hr ?_;(case hd=>rfl);(case hg=>rfl);(case hr=>first|(go_simp;done)|(go_simp;rfl));intro gb185 hg w3 hbox hb;have n0_:=Aside0.mk (below_step (by repeat (first|(with_reducible first|exact HB.out|apply below_alloc|apply pw_below_drewN|apply below_drew1)|exact HB.out)) hb);have n1_:=Aside0.mk (hbox);have n2_:=Aside0.mk ((by rw [hg];exact (below_size (by repeat (first|(with_reducible first|exact HB.out|apply below_alloc|apply pw_below_drewN|apply below_drew1)|exact HB.out))) : w.heap.size ≤ gb185));have n3_:=n2_;clear HB;have HB:=n0_;have BK185:=n1_;have GW185:=n2_;have GE185:=n3_;clear n0_ n1_ n2_ n3_;clear hb hbox hg)))
 go_loopg [5] k (fun kq v5 w'=>∃ (x5_1 : Int),v5 = .int .i64 x5_1 ∧ Aside0 (laws_lwHas.l0 kq l0 x5_1 a1_0 a1_1 a1_2 = some r) ∧ Aside0 (kq ≤ k) ∧ Aside0 (w'.heap[gb185]? = some (.cells #[.int .i64 a1_0,.int .i64 a1_1,.int .i64 a1_2] 60 (0,0))) ∧ Aside0 (Below w.heap.size w w'))
 case atStart=>exact ⟨(0),(by first|rfl|(simp;done)|(simp [*];done)),H',⟨Nat.le_refl _⟩,⟨by (with_reducible repeat (first|refine blk_drewN ?_ _|refine blk_drew ?_|refine blk_alloc ?_ _));exact BK185.out⟩,⟨by repeat (first|(with_reducible first|exact HB.out|apply below_alloc|apply pw_below_drewN|apply below_drew1|refine below_set ?_ GE185.out)|exact HB.out)⟩⟩
 case round =>
  clear H'
  try clear p2
  obtain ⟨x5_1,rfl,HA,HK1,BK185,HB⟩:=hrel
  cases gk with
  | zero=>exact absurd HA.out (by simp [laws_lwHas.l0])
  | succ k1 =>
   have H:=HA.out
   clear HA
   simp only [laws_lwHas.l0] at H
   by_cases c4 : x5_1 < (l0.length : Int)
   ·rw [if_pos c4] at H
    have c4b0 : decide (x5_1 < (l0.length : Int)) = true:=decide_eq_true c4
    clear c4
    by_cases c5 : 0 ≤ x5_1
    ·rw [if_pos c5] at H
     have c5b0 : decide (0 ≤ x5_1) = true:=decide_eq_true c5
     clear c5
     by_cases c6 : (((rd_T60 l0 x5_1).f0) == a1_0 && (((rd_T60 l0 x5_1).f1) == a1_1 && (((rd_T60 l0 x5_1).f2) == a1_2))) = true
     ·rw [if_pos c6] at H
      have c6b0 : (((rd_T60 l0 x5_1).f0) == a1_0 && (((rd_T60 l0 x5_1).f1) == a1_1 && (((rd_T60 l0 x5_1).f2) == a1_2))) = true:=c6
      (try (have c6b1 : decide (((rd_T60 l0 x5_1).f0) = a1_0 && (((rd_T60 l0 x5_1).f1) == a1_1 && (((rd_T60 l0 x5_1).f2) == a1_2))) = true:=by simpa using c6))
      (try (have c6b2 : (((rd_T60 l0 x5_1).f0) == a1_0 && (((rd_T60 l0 x5_1).f1) == a1_1 && (((rd_T60 l0 x5_1).f2) == a1_2))) = true:=by simpa using c6))
      clear c6
      obtain rfl:=Option.some.inj H
      have p186 : 0 ≤ (x5_1 : Int):=of_decide_eq_true (by first|(with_reducible assumption)|assumption)
      have q186 : x5_1 < (l0.length : Int):=of_decide_eq_true (by first|(with_reducible assumption)|assumption)
      obtain ⟨ad186,e186,hx186_0,hx186_1,hx186_2⟩:=at_T60 HR0.out x5_1 p186 q186
      cases e186
      replace hx186_0:=(HB.out.cell (bl_ w _ hx186_0)).trans hx186_0
      replace hx186_1:=(HB.out.cell (bl_ w _ hx186_1)).trans hx186_1
      replace hx186_2:=(HB.out.cell (bl_ w _ hx186_2)).trans hx186_2
      replace p186:=eq_true p186
      replace q186:=eq_true q186
      have hcz7_0 : wr.cell? ⟨gb185,0,none⟩ = some (.int .i64 a1_0):=(blk_cell BK185.out 0).trans rfl
      have hcz7_1 : wr.cell? ⟨gb185,1,none⟩ = some (.int .i64 a1_1):=(blk_cell BK185.out 1).trans rfl
      have hcz7_2 : wr.cell? ⟨gb185,2,none⟩ = some (.int .i64 a1_2):=(blk_cell BK185.out 2).trans rfl
      have hfz7_0:=blk_frozen BK185.out 0
      have hfz7_1:=blk_frozen BK185.out 1
      have hfz7_2:=blk_frozen BK185.out 2
      go_wp2
      repeat (go_quiet (fail);try go_wp2)
      go_ret
      exact ⟨by first|rfl|(simp [errW_none,errW_some] <;> rfl)|(simp [*,errW_none,errW_some] <;> rfl),by repeat (first|(with_reducible first|exact HB.out|apply below_alloc|apply pw_below_drewN|apply below_drew1|refine below_set ?_ GE185.out)|exact HB.out)⟩
     ·rw [if_neg c6] at H
      have c6b0 : (((rd_T60 l0 x5_1).f0) == a1_0 && (((rd_T60 l0 x5_1).f1) == a1_1 && (((rd_T60 l0 x5_1).f2) == a1_2))) = false:=by simpa using c6
      (try (have c6b1 : decide (((rd_T60 l0 x5_1).f0) = a1_0 && (((rd_T60 l0 x5_1).f1) == a1_1 && (((rd_T60 l0 x5_1).f2) == a1_2))) = false:=by simpa using c6))
      (try (have c6b2 : (((rd_T60 l0 x5_1).f0) == a1_0 && (((rd_T60 l0 x5_1).f1) == a1_1 && (((rd_T60 l0 x5_1).f2) == a1_2))) = false:=by simpa using c6))
      (try (have c6b3 : ¬ (((rd_T60 l0 x5_1).f0) = a1_0 && (((rd_T60 l0 x5_1).f1) == a1_1 && (((rd_T60 l0 x5_1).f2) == a1_2))):=by simpa using c6))
      clear c6
      have H':=Aside0.mk H
      clear H
      have p186 : 0 ≤ (x5_1 : Int):=of_decide_eq_true (by first|(with_reducible assumption)|assumption)
      have q186 : x5_1 < (l0.length : Int):=of_decide_eq_true (by first|(with_reducible assumption)|assumption)
      obtain ⟨ad186,e186,hx186_0,hx186_1,hx186_2⟩:=at_T60 HR0.out x5_1 p186 q186
      cases e186
      replace hx186_0:=(HB.out.cell (bl_ w _ hx186_0)).trans hx186_0
      replace hx186_1:=(HB.out.cell (bl_ w _ hx186_1)).trans hx186_1
      replace hx186_2:=(HB.out.cell (bl_ w _ hx186_2)).trans hx186_2
      replace p186:=eq_true p186
      replace q186:=eq_true q186
      have hcz8_0 : wr.cell? ⟨gb185,0,none⟩ = some (.int .i64 a1_0):=(blk_cell BK185.out 0).trans rfl
      have hcz8_1 : wr.cell? ⟨gb185,1,none⟩ = some (.int .i64 a1_1):=(blk_cell BK185.out 1).trans rfl
      have hcz8_2 : wr.cell? ⟨gb185,2,none⟩ = some (.int .i64 a1_2):=(blk_cell BK185.out 2).trans rfl
      have hfz8_0:=blk_frozen BK185.out 0
      have hfz8_1:=blk_frozen BK185.out 1
      have hfz8_2:=blk_frozen BK185.out 2
      go_wp2
      repeat (go_quiet (fail);try go_wp2)
      go_roundg k1
      case measure=>have:=HK1.out;omega
      case rel=>exact ⟨(wrap64 (x5_1 + 1)),(by first|rfl|(simp;done)|(simp [*];done)),H',⟨by have:=HK1.out;omega⟩,⟨by (with_reducible repeat (first|refine blk_drewN ?_ _|refine blk_drew ?_|refine blk_alloc ?_ _));exact BK185.out⟩,⟨by repeat (first|(with_reducible first|exact HB.out|apply below_alloc|apply pw_below_drewN|apply below_drew1|refine below_set ?_ GE185.out)|exact HB.out)⟩⟩
    ·rw [if_neg c5] at H
     exact absurd H (by simp)
   ·rw [if_neg c4] at H
    have c4b0 : decide (x5_1 < (l0.length : Int)) = false:=decide_eq_false c4
    clear c4
    obtain rfl:=Option.some.inj H
    go_wp2
    repeat (go_quiet (fail);try go_wp2)
    go_ret
    exact ⟨by first|rfl|(simp [errW_none,errW_some] <;> rfl)|(simp [*,errW_none,errW_some] <;> rfl),by repeat (first|(with_reducible first|exact HB.out|apply below_alloc|apply pw_below_drewN|apply below_drew1|refine below_set ?_ GE185.out)|exact HB.out)⟩
def IsS86 (w0 W : World) (g : Nat) (f0 : List Int) (f1 : Int) : Prop := ∃ A0 c0, W.heap[g]? = some (.cells #[.slice A0 f0.length c0, .int .i64 f1] 86 (0, 0)) ∧ w0.heap.size ≤ g ∧ Kd.C (Kd.int .u8) w0 A0 f0.length f0
theorem IsS86.grown {w0 W : World} {g : Nat} {f0 : List Int} {f1 : Int} {W1 : World} {row : Option Nat} (h : IsS86 w0 W g f0 f1) (hw : W.grownBy W1 row) (hne : some g ≠ row) : IsS86 w0 W1 g f0 f1:=by
 obtain ⟨A0,c0,hb,hg,hr0⟩:=h
 exact ⟨A0,c0,blk_grown hb hw hne,hg,hr0⟩
theorem IsS86.own_neN {w0 W : World} {g : Nat} {f0 : List Int} {f1 : Int} {α : Type} {d : Kd α} {e : Nat} {base : Nat} {ok : Nat → Prop} {v : Value} {xs : List α} (h : IsS86 w0 W g f0 f1) (ho : Kd.N d e W base ok v xs) (ht : e ≠ 86) : some g ≠ v.ownBlock:=by
 obtain ⟨A0,c0,hb,hg,hr0⟩:=h
 exact Kd.N_ne ho hb ht
theorem IsS86.fresh {w0 W : World} {g : Nat} {f0 : List Int} {f1 : Int} (h : IsS86 w0 W g f0 f1) : ∀ k,W.heap.size ≤ k → k ≠ g:=by
 obtain ⟨A0,c0,hb,hg,hr0⟩:=h
 exact Kd.freshB hb
theorem IsS86.kept {w0 W : World} {g : Nat} {f0 : List Int} {f1 : Int} {W1 : World} {S : Nat → Prop} (h : IsS86 w0 W g f0 f1) (hk : Kept W W1 S) (hne : ¬ S g) : IsS86 w0 W1 g f0 f1:=by
 obtain ⟨A0,c0,hb,hg,hr0⟩:=h
 exact ⟨A0,c0,blk_kept hb hk hne,hg,hr0⟩
theorem IsS86.below {w0 W : World} {g : Nat} {f0 : List Int} {f1 : Int} {W1 : World} (h : IsS86 w0 W g f0 f1) (hw : Below W.heap.size W W1) : IsS86 w0 W1 g f0 f1:=h.grown (grown_of_below hw none) (by simp)
theorem IsS86.alloc {w0 W : World} {g : Nat} {f0 : List Int} {f1 : Int} (h : IsS86 w0 W g f0 f1) (o : Obj) : IsS86 w0 (W.alloc o) g f0 f1:=h.below (below_alloc (Below.refl _ _) o)
theorem IsS86.drewN {w0 W : World} {g : Nat} {f0 : List Int} {f1 : Int} (h : IsS86 w0 W g f0 f1) (m : Nat) : IsS86 w0 (W.drewN m) g f0 f1:=h
theorem IsS86.drew {w0 W : World} {g : Nat} {f0 : List Int} {f1 : Int} (h : IsS86 w0 W g f0 f1) : IsS86 w0 W.drew g f0 f1:=h
theorem IsS86.at_ {w0 W : World} {g : Nat} {f0 : List Int} {f1 : Int} {w' : World} {m : Nat} (hq : W.drewN m = w') (h : IsS86 w0 W g f0 f1) : IsS86 w0 w' g f0 f1:=by subst hq;exact IsS86.drewN h m
theorem IsS86.apart {w0 W : World} {g : Nat} {f0 : List Int} {f1 : Int} {α : Type} {d : Kd α} {e : Nat} {base : Nat} {ok : Nat → Prop} {v : Value} {xs : List α} (h : IsS86 w0 W g f0 f1) (ho : d.R e W base ok v xs) (ht : ∀ q,q ∈ e :: d.E → q ≠ 86) : d.R e W base (fun k=>ok k ∧ k ≠ g) v xs:=by
 obtain ⟨A0,c0,hb,hg,hr0⟩:=h
 exact Kd.R_types ho hb ht
theorem IsS86.own_ne {w0 W : World} {g : Nat} {f0 : List Int} {f1 : Int} {α : Type} {d : Kd α} {e : Nat} {base : Nat} {ok : Nat → Prop} {v : Value} {xs : List α} (h : IsS86 w0 W g f0 f1) (ho : d.R e W base ok v xs) (ht : e ≠ 86) : some g ≠ v.ownBlock:=by
 obtain ⟨A0,c0,hb,hg,hr0⟩:=h
 exact Kd.R_ne ho hb ht
theorem IsS86.apartQ {w0 W : World} {g : Nat} {f0 : List Int} {f1 : Int} {α : Type} {d : Kd α} {e : Nat} {base : Nat} {ok : Nat → Prop} {v : Value} {xs : List α} (h : IsS86 w0 W g f0 f1) (ho : d.Q e W base ok v xs) (ht : ∀ q,q ∈ e :: d.E → q ≠ 86) : d.Q e W base (fun k=>ok k ∧ k ≠ g) v xs:=by
 obtain ⟨A0,c0,hb,hg,hr0⟩:=h
 exact Kd.Q_types ho hb ht
theorem IsS86.own_neQ {w0 W : World} {g : Nat} {f0 : List Int} {f1 : Int} {α : Type} {d : Kd α} {e : Nat} {base : Nat} {ok : Nat → Prop} {v : Value} {xs : List α} (h : IsS86 w0 W g f0 f1) (ho : d.Q e W base ok v xs) (ht : e ≠ 86) : some g ≠ v.ownBlock:=by
 obtain ⟨A0,c0,hb,hg,hr0⟩:=h
 exact Kd.Q_ne ho hb ht
theorem IsS86.apartS {w0 W : World} {g : Nat} {f0 : List Int} {f1 : Int} {α : Type} {d : Kd α} {e : Nat} {base : Nat} {ok : Nat → Prop} {v : Value} {xs : List α} (h : IsS86 w0 W g f0 f1) (ho : d.S e W base ok v xs) (ht : ∀ q,q ∈ e :: d.E → q ≠ 86) : d.S e W base (fun k=>ok k ∧ k ≠ g) v xs:=by
 obtain ⟨A0,c0,hb,hg,hr0⟩:=h
 exact Kd.S_types ho hb ht
theorem IsS86.own_neS {w0 W : World} {g : Nat} {f0 : List Int} {f1 : Int} {α : Type} {d : Kd α} {e : Nat} {base : Nat} {ok : Nat → Prop} {v : Value} {xs : List α} (h : IsS86 w0 W g f0 f1) (ho : d.S e W base ok v xs) (ht : e ≠ 86) : some g ≠ v.ownBlock:=by
 obtain ⟨A0,c0,hb,hg,hr0⟩:=h
 exact Kd.S_ne ho hb ht
theorem IsS86.lt {w0 W : World} {g : Nat} {f0 : List Int} {f1 : Int} (h : IsS86 w0 W g f0 f1) : g < W.heap.size:=by
 obtain ⟨A0,c0,hb,hg,hr0⟩:=h
 exact blk_lt hb
theorem IsS86.ge {w0 W : World} {g : Nat} {f0 : List Int} {f1 : Int} (h : IsS86 w0 W g f0 f1) : w0.heap.size ≤ g:=by
 obtain ⟨A0,c0,hb,hg,hr0⟩:=h
 exact hg
theorem IsS86.ne_blk {w0 W : World} {g : Nat} {f0 : List Int} {f1 : Int} {a : Nat} {cs : Array Value} {t : TypeId} {fr : Nat × Nat} (h : IsS86 w0 W g f0 f1) (hb2 : W.heap[a]? = some (.cells cs t fr)) (ht : t ≠ 86) : g ≠ a:=by
 obtain ⟨A0,c0,hb,hg,hr0⟩:=h
 rintro rfl
 rw [hb] at hb2
 injection hb2 with hb2
 injection hb2 with _ ht2
 exact ht ht2.symm
theorem IsS86.far {w0 W : World} {g : Nat} {f0 : List Int} {f1 : Int} {p : Addr} (h : IsS86 w0 W g f0 f1) (hne : g ≠ p.block) (u : Value) : IsS86 w0 (W.setCell p u) g f0 f1:=by
 obtain ⟨A0,c0,hb,hg,hr0⟩:=h
 exact ⟨A0,c0,blk_far hb hne u,hg,hr0⟩
theorem cellS86_0 {W : World} {g : Nat} {A0 : Option Addr} {c0 : Nat} {f0 : List Int} {f1 : Int} (h : W.heap[g]? = some (.cells #[.slice A0 f0.length c0,.int .i64 f1] 86 (0,0))) : W.cell? ⟨g,0,none⟩ = some (.slice A0 f0.length c0):=(blk_cell h 0).trans rfl
theorem cellS86_1 {W : World} {g : Nat} {A0 : Option Addr} {c0 : Nat} {f0 : List Int} {f1 : Int} (h : W.heap[g]? = some (.cells #[.slice A0 f0.length c0,.int .i64 f1] 86 (0,0))) : W.cell? ⟨g,1,none⟩ = some (.int .i64 f1):=(blk_cell h 1).trans rfl
theorem IsS86.set_1 {w0 W : World} {g : Nat} {f0 : List Int} {f1 : Int} (h : IsS86 w0 W g f0 f1) (x : Int) : IsS86 w0 (W.setCell ⟨g,1,none⟩ (.int .i64 x)) g f0 x:=by
 obtain ⟨A0,c0,hb,hg,hr0⟩:=h
 exact ⟨A0,c0,by simpa using blk_set hb 1 (.int .i64 x),hg,hr0⟩
theorem IsS86.new (w0 W : World) (A0 : Option Addr) (c0 : Nat) (f0 : List Int) (f1 : Int) (hB : Below w0.heap.size w0 W) (hr0 : Kd.C (Kd.int .u8) w0 A0 f0.length f0) : IsS86 w0 (W.alloc (.cells #[.slice A0 f0.length c0,.int .i64 f1] 86)) W.heap.size f0 f1:=⟨A0,c0,by simpa using heap_alloc_new W _,hB.size,hr0⟩
def spec_l6Open.f (l0 : List Int) : Option (List Int × Int) := if (l0.length : Int) > 2000 then (if 2000 ≤ (l0.length : Int) then (some (l0.take 2000, 0)) else (none)) else (some (l0, 0))
set_option maxHeartbeats 8000000 in
set_option maxRecDepth 100000 in
theorem spec_l6Open.calls (A0 : Option Addr) (c0 : Nat) (l0 : List Int) (r1 : List Int) (r2 : Int) (w0 w : World) (hB : Below w0.heap.size w0 w) (hr0 : Kd.C (Kd.int .u8) w0 A0 l0.length l0) (hc0 : l0.length ≤ c0) (h : spec_l6Open.f l0 = some (r1,r2)) :
  Calls Try.prog 72 #[.slice A0 l0.length c0] w fun e w'=>∃ g_ : Nat,e = .returned (.pointer (some ⟨g_,0,none⟩)) ∧ IsS86 w0 w' g_ r1 r2 ∧ Below w0.heap.size w0 w' ∧ Below w.heap.size w w':=by
 have hu86:=Try.underlying86
 have HR0:=Aside0.mk hr0
 have HC0:=Aside0.mk hc0
 clear hr0 hc0
 have HBW:=Aside0.mk (Below.refl w.heap.size w)
 have HW0:=Aside0.mk hB.size
 have HB:=Aside0.mk hB
 clear hB
 have H : (if (l0.length : Int) > 2000 then (if 2000 ≤ (l0.length : Int) then (some (l0.take 2000,0)) else (none)) else (some (l0,0))) = some (r1,r2):=h
 clear h
 by_cases c2 : (l0.length : Int) > 2000
 ·rw [if_pos c2] at H
  have c2b0 : decide (2000 < (l0.length : Int)) = true:=decide_eq_true c2
  have c2b1 : decide (2000 < l0.length) = true:=decide_eq_true (by omega)
  clear c2
  by_cases c3 : 2000 ≤ (l0.length : Int)
  ·rw [if_pos c3] at H
   have c3b0:=eq_true c3
   have c3b1 : decide (2000 ≤ (l0.length : Int)) = true:=decide_eq_true c3
   clear c3
   simp only [Option.some.injEq,Prod.mk.injEq] at H
   obtain ⟨rfl,rfl⟩:=H
   obtain ⟨i04,hi04,_,hsz4,_⟩:=info_parts info5
   obtain ⟨hcut4,hA4,hC4⟩:=print_take_of (P:=Try.prog) (Value.int .u8) 0 49 5 .i64 Try.underlying49 hi04 hsz4 A0 c0 l0 2000 (by omega) (of_decide_eq_true (by first|(with_reducible assumption)|assumption)) HC0.out
   have HR187:=Aside0.mk (Kd.C_of_reads (h1:=fun _=>rfl) (hA4 _ (Kd.reads_of_C HR0.out)))
   have HC187:=Aside0.mk hC4
   clear hA4 hC4 hi04 hsz4
   go_enter Try.func72,Try.ntmps72
   go_wp2_with (first|((with_reducible refine gate_dst (N:=10) rfl ?_);refine box_event ?hg (N:=10) ?hd (cs:=#[.slice A0 (l0.take 2000).length c0,.int .i64 0]) (t:=86) ?hr ?_;(case hd=>rfl);(case hg=>rfl);(case hr=>first|(go_simp;done)|(go_simp;rfl));intro gb188 hg w5 hbox hb;have n0_:=Aside0.mk (below_step HBW.out hb);have n1_:=Aside0.mk (below_step (by repeat (first|(with_reducible first|exact HB.out|apply below_alloc|apply pw_below_drewN|apply below_drew1)|exact HB.out)) hb);have n2_:=Aside0.mk (hbox);have n3_:=Aside0.mk ((by rw [hg];exact (below_size (by repeat (first|(with_reducible first|exact HBW.out|apply below_alloc|apply pw_below_drewN|apply below_drew1)|exact HBW.out))) : w.heap.size ≤ gb188));have n4_:=Aside0.mk ((Nat.le_trans HW0.out (by rw [hg];exact (below_size (by repeat (first|(with_reducible first|exact HBW.out|apply below_alloc|apply pw_below_drewN|apply below_drew1)|exact HBW.out))) : w.heap.size ≤ gb188) : w0.heap.size ≤ gb188));clear HBW;clear HB;have HBW:=n0_;have HB:=n1_;have BK188:=n2_;have GW188:=n3_;have GE188:=n4_;clear n0_ n1_ n2_ n3_ n4_;clear hb hbox hg))
   go_ret
   exact ⟨_,rfl,(show IsS86 w0 _ gb188 (l0.take 2000) 0 from ⟨_,_,by (with_reducible repeat (first|refine blk_drewN ?_ _|refine blk_drew ?_|refine blk_alloc ?_ _));exact BK188.out,GE188.out,HR187.out⟩),by repeat (first|(with_reducible first|exact HB.out|apply below_alloc|apply pw_below_drewN|apply below_drew1|refine below_set ?_ GE188.out)|exact HB.out),by repeat (first|(with_reducible first|exact HBW.out|apply below_alloc|apply pw_below_drewN|apply below_drew1|refine below_set ?_ GW188.out)|exact HBW.out)⟩
  ·rw [if_neg c3] at H
   exact absurd H (by simp)
 ·rw [if_neg c2] at H
  have c2b0 : decide (2000 < (l0.length : Int)) = false:=decide_eq_false c2
  have c2b1 : decide (2000 < l0.length) = false:=decide_eq_false (by omega)
  clear c2
  simp only [Option.some.injEq,Prod.mk.injEq] at H
  obtain ⟨rfl,rfl⟩:=H
  go_enter Try.func72,Try.ntmps72
  go_wp2_with (first|((with_reducible refine gate_dst (N:=10) rfl ?_);refine box_event ?hg (N:=10) ?hd (cs:=#[.slice A0 l0.length c0,.int .i64 0]) (t:=86) ?hr ?_;(case hd=>rfl);(case hg=>rfl);(case hr=>first|(go_simp;done)|(go_simp;rfl));intro gb189 hg w6 hbox hb;have n0_:=Aside0.mk (below_step HBW.out hb);have n1_:=Aside0.mk (below_step (by repeat (first|(with_reducible first|exact HB.out|apply below_alloc|apply pw_below_drewN|apply below_drew1)|exact HB.out)) hb);have n2_:=Aside0.mk (hbox);have n3_:=Aside0.mk ((by rw [hg];exact (below_size (by repeat (first|(with_reducible first|exact HBW.out|apply below_alloc|apply pw_below_drewN|apply below_drew1)|exact HBW.out))) : w.heap.size ≤ gb189));have n4_:=Aside0.mk ((Nat.le_trans HW0.out (by rw [hg];exact (below_size (by repeat (first|(with_reducible first|exact HBW.out|apply below_alloc|apply pw_below_drewN|apply below_drew1)|exact HBW.out))) : w.heap.size ≤ gb189) : w0.heap.size ≤ gb189));clear HBW;clear HB;have HBW:=n0_;have HB:=n1_;have BK189:=n2_;have GW189:=n3_;have GE189:=n4_;clear n0_ n1_ n2_ n3_ n4_;clear hb hbox hg))
  go_ret
  exact ⟨_,rfl,(show IsS86 w0 _ gb189 l0 0 from ⟨_,_,by (with_reducible repeat (first|refine blk_drewN ?_ _|refine blk_drew ?_|refine blk_alloc ?_ _));exact BK189.out,GE189.out,HR0.out⟩),by repeat (first|(with_reducible first|exact HB.out|apply below_alloc|apply pw_below_drewN|apply below_drew1|refine below_set ?_ GE189.out)|exact HB.out),by repeat (first|(with_reducible first|exact HBW.out|apply below_alloc|apply pw_below_drewN|apply below_drew1|refine below_set ?_ GW189.out)|exact HBW.out)⟩
def spec_l6Rd_pick.j0 : Nat → Int → Bool → List Int → Int → Option (Int × Int)
 | 0, _, _, _, _ => none
 | k + 1, x1, x24, x1000, x1001 => if x24 = true then (some (0, x1001)) else (if (wrap64 (x1001 - 1)) < (x1000.length : Int) then (if 0 ≤ (wrap64 (x1001 - 1)) then (if x1 = 0 then (none) else (some (Int.tmod (wrap64 (rd x1000 (wrap64 (x1001 - 1)))) x1, x1001))) else (none)) else (if (x1000.length : Int) = 0 then (none) else (if 0 ≤ (Int.tmod (wrap64 (x1001 - 1)) (x1000.length : Int)) then (if (Int.tmod (wrap64 (x1001 - 1)) (x1000.length : Int)) < (x1000.length : Int) then (if 0 ≤ (Int.tmod (wrap64 ((wrap64 ((wrap64 (x1001 - 1)) * 7)) + 3)) (x1000.length : Int)) then (if (Int.tmod (wrap64 ((wrap64 ((wrap64 (x1001 - 1)) * 7)) + 3)) (x1000.length : Int)) < (x1000.length : Int) then (if x1 = 0 then (none) else (some (Int.tmod (Go.bits .xor .i64 (wrap64 ((wrap64 ((wrap64 ((wrap64 ((wrap64 (rd x1000 (Int.tmod (wrap64 (x1001 - 1)) (x1000.length : Int)))) * 131)) + (wrap64 ((wrap64 (rd x1000 (Int.tmod (wrap64 ((wrap64 ((wrap64 (x1001 - 1)) * 7)) + 3)) (x1000.length : Int)))) * 1117)))) + (wrap64 ((wrap64 (x1001 - 1)) * 29)))) + (wrap64 ((wrap64 (Int.tdiv (wrap64 (x1001 - 1)) (x1000.length : Int))) * 53)))) (wrap64 (Int.tdiv (wrap64 ((wrap64 ((wrap64 ((wrap64 ((wrap64 (rd x1000 (Int.tmod (wrap64 (x1001 - 1)) (x1000.length : Int)))) * 131)) + (wrap64 ((wrap64 (rd x1000 (Int.tmod (wrap64 ((wrap64 ((wrap64 (x1001 - 1)) * 7)) + 3)) (x1000.length : Int)))) * 1117)))) + (wrap64 ((wrap64 (x1001 - 1)) * 29)))) + (wrap64 ((wrap64 (Int.tdiv (wrap64 (x1001 - 1)) (x1000.length : Int))) * 53)))) 64))) x1, x1001))) else (none)) else (none)) else (none)) else (none))))
def spec_l6Rd_pick.f (k : Nat) (s0_0 : List Int) (s0_1 : Int) (a1 : Int) : Option (Int × Int) := if a1 < 1 then (spec_l6Rd_pick.j0 k a1 true s0_0 (wrap64 (s0_1 + 1))) else (spec_l6Rd_pick.j0 k a1 ((s0_0.length : Int) == 0) s0_0 (wrap64 (s0_1 + 1)))
theorem spec_l6Rd_pick.mono_l : ∀ k,(∀ y0 y1 y2 y3,LeO (spec_l6Rd_pick.j0 k y0 y1 y2 y3) (spec_l6Rd_pick.j0 (k + 1) y0 y1 y2 y3))
 | 0=>fun _ _ _ _ r h=>by simp [spec_l6Rd_pick.j0] at h
 | k + 1=>by
  have ih0:=spec_l6Rd_pick.mono_l k
  ·intro y0 y1 y2 y3
   unfold spec_l6Rd_pick.j0
   repeat' first
   | (with_reducible exact ih0 _ _ _ _)
   | (with_reducible exact LeO.refl _)
   | (with_reducible exact LeO.none _)
   | (with_reducible refine LeO.ite ?_ ?_)
   | (with_reducible refine LeO.bind ?_ (fun _=>?_))
   | exact ih0 _ _ _ _
   | exact LeO.none _
   | refine LeO.ite ?_ ?_
   | refine LeO.bind ?_ (fun _=>?_)
theorem spec_l6Rd_pick.mono : ∀ a0 a1 a2 k,LeO (spec_l6Rd_pick.f k a0 a1 a2) (spec_l6Rd_pick.f (k + 1) a0 a1 a2):=by
 intro a0 a1 a2 k
 have ih0:=spec_l6Rd_pick.mono_l k
 unfold spec_l6Rd_pick.f
 repeat' first
   | (with_reducible exact ih0 _ _ _ _)
   | (with_reducible exact LeO.refl _)
   | (with_reducible exact LeO.none _)
   | (with_reducible refine LeO.ite ?_ ?_)
   | (with_reducible refine LeO.bind ?_ (fun _=>?_))
   | exact ih0 _ _ _ _
   | exact LeO.none _
   | refine LeO.ite ?_ ?_
   | refine LeO.bind ?_ (fun _=>?_)
set_option maxHeartbeats 8000000 in
set_option maxRecDepth 100000 in
theorem spec_l6Rd_pick.calls (k : Nat) (g : Nat) (s0_0 : List Int) (s0_1 : Int) (a1 : Int) (r1 : Int) (r2 : Int) (w0 w : World) (hI : IsS86 w0 w g s0_0 s0_1) (hB : Below w0.heap.size w0 w) (h : spec_l6Rd_pick.f k s0_0 s0_1 a1 = some (r1,r2)) :
  Calls Try.prog 89 #[.pointer (some ⟨g,0,none⟩),.int .i64 a1] w fun e w'=>e = .returned (.int .i64 r1) ∧ IsS86 w0 w' g s0_0 r2 ∧ Below w0.heap.size w0 w' ∧ KeepBut w w' g none:=by
 have HI0:=Aside0.mk hI
 have HK:=Aside0.mk (KeepBut.refl w g none)
 have HL:=Aside0.mk hB.size
 clear hI
 have HW0:=Aside0.mk hB.size
 have HB:=Aside0.mk hB
 clear hB
 have H : (if a1 < 1 then (spec_l6Rd_pick.j0 k a1 true s0_0 (wrap64 (s0_1 + 1))) else (spec_l6Rd_pick.j0 k a1 ((s0_0.length : Int) == 0) s0_0 (wrap64 (s0_1 + 1)))) = some (r1,r2):=h
 clear h
 have HC3:=Aside0.mk H
 clear H
 obtain ⟨ASz4_0,cSz4_0,HGz4,hgz4,HSz4_0⟩:=HI0.out
 have hcz4_0:=cellS86_0 HGz4
 have hcz4_1:=cellS86_1 HGz4
 have hfz4_1:=blk_frozen HGz4 1
 clear HGz4 hgz4
 go_enter Try.func89,Try.ntmps89
 go_upto_region 2 with (fail)
 repeat (go_quiet (fail);go_upto_region 2 with (fail))
 go_cut [24] (fun v24 wc=>∃ (kq : Nat) (x24_2 : Bool),v24 = .bool x24_2 ∧ Aside0 (spec_l6Rd_pick.j0 kq a1 x24_2 s0_0 (wrap64 (s0_1 + 1)) = some (r1,r2)) ∧ Aside0 (kq ≤ k) ∧ Aside0 (IsS86 w0 wc g s0_0 (wrap64 (s0_1 + 1))) ∧ Aside0 (KeepBut w wc g none) ∧ Aside0 (Below w0.heap.size w0 wc))
 case first =>
  have H:=HC3.out
  clear HC3
  by_cases c5 : a1 < 1
  ·rw [if_pos c5] at H
   have c5b0 : decide (a1 < 1) = true:=decide_eq_true c5
   clear c5
   (first|rw [c5b0]|(simp only [i64_w,i32_w];rw [c5b0])|skip)
   have H':=Aside0.mk H
   clear H
   go_wp2
   repeat (go_quiet (fail);try go_wp2)
   go_meet
   case rel=>exact ⟨_,(true),(by first|rfl|(simp;done)|(simp [*];done)),H',⟨by first|omega|exact Nat.le_refl _⟩,⟨by repeat (first|(with_reducible first|exact HI0.out|apply IsS86.alloc|apply IsS86.drewN|apply IsS86.drew|apply IsS86.set_1)|exact HI0.out)⟩,⟨by repeat (first|(with_reducible first|exact HK.out|apply KeepBut.set_|apply keep_drewN|apply keep_drew|apply keep_alloc)|exact HK.out)⟩,⟨by repeat (first|(with_reducible first|exact HB.out|apply below_alloc|apply pw_below_drewN|apply below_drew1|refine below_set ?_ (IsS86.ge HI0.out))|exact HB.out)⟩⟩
  ·rw [if_neg c5] at H
   have c5b0 : decide (a1 < 1) = false:=decide_eq_false c5
   clear c5
   (first|rw [c5b0]|(simp only [i64_w,i32_w];rw [c5b0])|skip)
   have H':=Aside0.mk H
   clear H
   obtain ⟨ASz6_0,cSz6_0,HGz6,hgz6,HSz6_0⟩:=HI0.out
   have hcz6_0:=cellS86_0 HGz6
   have hcz6_1:=cellS86_1 HGz6
   have hfz6_1:=blk_frozen HGz6 1
   clear HGz6 hgz6
   go_wp2
   repeat (go_quiet (fail);try go_wp2)
   go_meet
   case rel=>exact ⟨_,(((s0_0.length : Int) == 0)),(by first|rfl|(simp;done)|(simp [*];done)),H',⟨by first|omega|exact Nat.le_refl _⟩,⟨by repeat (first|(with_reducible first|exact HI0.out|apply IsS86.alloc|apply IsS86.drewN|apply IsS86.drew|apply IsS86.set_1)|exact HI0.out)⟩,⟨by repeat (first|(with_reducible first|exact HK.out|apply KeepBut.set_|apply keep_drewN|apply keep_drew|apply keep_alloc)|exact HK.out)⟩,⟨by repeat (first|(with_reducible first|exact HB.out|apply below_alloc|apply pw_below_drewN|apply below_drew1|refine below_set ?_ (IsS86.ge HI0.out))|exact HB.out)⟩⟩
 case rest =>
  clear HC3
  try clear p2
  try clear c5
  try clear c5b0
  try clear p6
  try clear hcz4_0
  try clear hcz4_1
  try clear hcz6_0
  try clear hcz6_1
  try clear hfz4_1
  try clear hfz6_1
  obtain ⟨kq,x24_2,rfl,HA,HJ2,HI0,HK,HB⟩:=hcut
  cases kq with
  | zero=>exact absurd HA.out (by simp [spec_l6Rd_pick.j0])
  | succ kj2 =>
   have H:=HA.out
   clear HA
   simp only [spec_l6Rd_pick.j0] at H
   by_cases c7 : x24_2 = true
   ·subst c7
    have H1 : (some (0,(wrap64 (s0_1 + 1)))) = some (r1,r2):=by rw [if_pos rfl] at H;exact H
    clear H
    have H:=H1
    clear H1
    simp only [Option.some.injEq,Prod.mk.injEq] at H
    obtain ⟨rfl,rfl⟩:=H
    go_wp2
    repeat (go_quiet (fail);try go_wp2)
    go_ret
    exact ⟨by first|rfl|(simp [errW_none,errW_some] <;> rfl)|(simp [*,errW_none,errW_some] <;> rfl),by repeat (first|(with_reducible first|exact HI0.out|apply IsS86.alloc|apply IsS86.drewN|apply IsS86.drew|apply IsS86.set_1)|exact HI0.out),by repeat (first|(with_reducible first|exact HB.out|apply below_alloc|apply pw_below_drewN|apply below_drew1|refine below_set ?_ (IsS86.ge HI0.out))|exact HB.out),by repeat (first|(with_reducible first|exact HK.out|apply KeepBut.set_|apply keep_drewN|apply keep_drew|apply keep_alloc)|exact HK.out)⟩
   ·replace c7:=Bool.eq_false_iff.mpr c7
    subst c7
    have H1 : (if (wrap64 ((wrap64 (s0_1 + 1)) - 1)) < (s0_0.length : Int) then (if 0 ≤ (wrap64 ((wrap64 (s0_1 + 1)) - 1)) then (if a1 = 0 then (none) else (some (Int.tmod (wrap64 (rd s0_0 (wrap64 ((wrap64 (s0_1 + 1)) - 1)))) a1,(wrap64 (s0_1 + 1))))) else (none)) else (if (s0_0.length : Int) = 0 then (none) else (if 0 ≤ (Int.tmod (wrap64 ((wrap64 (s0_1 + 1)) - 1)) (s0_0.length : Int)) then (if (Int.tmod (wrap64 ((wrap64 (s0_1 + 1)) - 1)) (s0_0.length : Int)) < (s0_0.length : Int) then (if 0 ≤ (Int.tmod (wrap64 ((wrap64 ((wrap64 ((wrap64 (s0_1 + 1)) - 1)) * 7)) + 3)) (s0_0.length : Int)) then (if (Int.tmod (wrap64 ((wrap64 ((wrap64 ((wrap64 (s0_1 + 1)) - 1)) * 7)) + 3)) (s0_0.length : Int)) < (s0_0.length : Int) then (if a1 = 0 then (none) else (some (Int.tmod (Go.bits .xor .i64 (wrap64 ((wrap64 ((wrap64 ((wrap64 ((wrap64 (rd s0_0 (Int.tmod (wrap64 ((wrap64 (s0_1 + 1)) - 1)) (s0_0.length : Int)))) * 131)) + (wrap64 ((wrap64 (rd s0_0 (Int.tmod (wrap64 ((wrap64 ((wrap64 ((wrap64 (s0_1 + 1)) - 1)) * 7)) + 3)) (s0_0.length : Int)))) * 1117)))) + (wrap64 ((wrap64 ((wrap64 (s0_1 + 1)) - 1)) * 29)))) + (wrap64 ((wrap64 (Int.tdiv (wrap64 ((wrap64 (s0_1 + 1)) - 1)) (s0_0.length : Int))) * 53)))) (wrap64 (Int.tdiv (wrap64 ((wrap64 ((wrap64 ((wrap64 ((wrap64 (rd s0_0 (Int.tmod (wrap64 ((wrap64 (s0_1 + 1)) - 1)) (s0_0.length : Int)))) * 131)) + (wrap64 ((wrap64 (rd s0_0 (Int.tmod (wrap64 ((wrap64 ((wrap64 ((wrap64 (s0_1 + 1)) - 1)) * 7)) + 3)) (s0_0.length : Int)))) * 1117)))) + (wrap64 ((wrap64 ((wrap64 (s0_1 + 1)) - 1)) * 29)))) + (wrap64 ((wrap64 (Int.tdiv (wrap64 ((wrap64 (s0_1 + 1)) - 1)) (s0_0.length : Int))) * 53)))) 64))) a1,(wrap64 (s0_1 + 1))))) else (none)) else (none)) else (none)) else (none)))) = some (r1,r2):=by rw [if_neg (show ¬ (false = true) by decide)] at H;exact H
    clear H
    have H:=H1
    clear H1
    by_cases c8 : (wrap64 ((wrap64 (s0_1 + 1)) - 1)) < (s0_0.length : Int)
    ·rw [if_pos c8] at H
     have c8b0 : decide ((wrap64 ((wrap64 (s0_1 + 1)) - 1)) < (s0_0.length : Int)) = true:=decide_eq_true c8
     clear c8
     obtain ⟨ji9,hji9⟩ : ∃ j_ : Int,(wrap64 ((wrap64 (s0_1 + 1)) - 1)) = j_:=⟨_,rfl⟩
     replace H : (if 0 ≤ (ji9) then (if a1 = 0 then (none) else (some (Int.tmod (wrap64 (rd s0_0 (ji9))) a1,(wrap64 (s0_1 + 1))))) else (none)) = some (r1,r2):=by first|(rw [hji9] at H;exact H)|(simp only [hji9] at H ⊢;exact H)
     (try rw [hji9] at c8b0)
     have hji9w : (IntKind.i64.wrap ((wrap64 (s0_1 + 1)) - 1)) = ji9:=(i64_w _).trans hji9
     by_cases c10 : 0 ≤ (ji9)
     ·rw [if_pos c10] at H
      have c10b0 : decide (0 ≤ (ji9)) = true:=decide_eq_true c10
      clear c10
      by_cases c11 : a1 = 0
      ·rw [if_pos c11] at H
       exact absurd H (by simp)
      ·rw [if_neg c11] at H
       have c11b0 : (a1 == 0) = false:=beq_eq_false_iff_ne.mpr c11
       have c11b1 : (a1 != 0) = true:=bne_iff_ne.mpr c11
       simp only [Option.some.injEq,Prod.mk.injEq] at H
       obtain ⟨rfl,rfl⟩:=H
       obtain ⟨ASz12_0,cSz12_0,HGz12,hgz12,HSz12_0⟩:=HI0.out
       have hcz12_0:=cellS86_0 HGz12
       have hcz12_1:=cellS86_1 HGz12
       have hfz12_1:=blk_frozen HGz12 1
       clear HGz12 hgz12
       have p190 : 0 ≤ ((ji9) : Int):=of_decide_eq_true (by first|(with_reducible assumption)|assumption)
       have q190 : (ji9) < (s0_0.length : Int):=of_decide_eq_true (by first|(with_reducible assumption)|assumption)
       obtain ⟨ad190,e190,hx190_0⟩:=Kd.at_int HSz12_0 (ji9) p190 q190
       cases e190
       replace hx190_0:=pw_cell_below HB.out hx190_0
       replace p190:=eq_true p190
       replace q190:=eq_true q190
       go_wp2
       repeat (go_quiet (fail);try go_wp2)
       go_ret
       exact ⟨by first|rfl|(simp [errW_none,errW_some] <;> rfl)|(simp only [← hji9];first|rfl|(simp [errW_none,errW_some] <;> rfl))|(simp [*,errW_none,errW_some] <;> rfl),by repeat (first|(with_reducible first|exact HI0.out|apply IsS86.alloc|apply IsS86.drewN|apply IsS86.drew|apply IsS86.set_1)|exact HI0.out),by repeat (first|(with_reducible first|exact HB.out|apply below_alloc|apply pw_below_drewN|apply below_drew1|refine below_set ?_ (IsS86.ge HI0.out))|exact HB.out),by repeat (first|(with_reducible first|exact HK.out|apply KeepBut.set_|apply keep_drewN|apply keep_drew|apply keep_alloc)|exact HK.out)⟩
     ·rw [if_neg c10] at H
      exact absurd H (by simp)
    ·rw [if_neg c8] at H
     have c8b0 : decide ((wrap64 ((wrap64 (s0_1 + 1)) - 1)) < (s0_0.length : Int)) = false:=decide_eq_false c8
     clear c8
     by_cases c13 : (s0_0.length : Int) = 0
     ·rw [if_pos c13] at H
      exact absurd H (by simp)
     ·rw [if_neg c13] at H
      have c13b0 : ((s0_0.length : Int) == 0) = false:=beq_eq_false_iff_ne.mpr c13
      have c13b1 : ((s0_0.length : Int) != 0) = true:=bne_iff_ne.mpr c13
      have c13b2 : ¬ (s0_0 = []):=fun h_=>c13 (by rw [h_];rfl)
      obtain ⟨ji14,hji14⟩ : ∃ j_ : Int,(Int.tmod (wrap64 ((wrap64 (s0_1 + 1)) - 1)) (s0_0.length : Int)) = j_:=⟨_,rfl⟩
      replace H : (if 0 ≤ (ji14) then (if (ji14) < (s0_0.length : Int) then (if 0 ≤ (Int.tmod (wrap64 ((wrap64 ((wrap64 ((wrap64 (s0_1 + 1)) - 1)) * 7)) + 3)) (s0_0.length : Int)) then (if (Int.tmod (wrap64 ((wrap64 ((wrap64 ((wrap64 (s0_1 + 1)) - 1)) * 7)) + 3)) (s0_0.length : Int)) < (s0_0.length : Int) then (if a1 = 0 then (none) else (some (Int.tmod (Go.bits .xor .i64 (wrap64 ((wrap64 ((wrap64 ((wrap64 ((wrap64 (rd s0_0 (ji14))) * 131)) + (wrap64 ((wrap64 (rd s0_0 (Int.tmod (wrap64 ((wrap64 ((wrap64 ((wrap64 (s0_1 + 1)) - 1)) * 7)) + 3)) (s0_0.length : Int)))) * 1117)))) + (wrap64 ((wrap64 ((wrap64 (s0_1 + 1)) - 1)) * 29)))) + (wrap64 ((wrap64 (Int.tdiv (wrap64 ((wrap64 (s0_1 + 1)) - 1)) (s0_0.length : Int))) * 53)))) (wrap64 (Int.tdiv (wrap64 ((wrap64 ((wrap64 ((wrap64 ((wrap64 (rd s0_0 (ji14))) * 131)) + (wrap64 ((wrap64 (rd s0_0 (Int.tmod (wrap64 ((wrap64 ((wrap64 ((wrap64 (s0_1 + 1)) - 1)) * 7)) + 3)) (s0_0.length : Int)))) * 1117)))) + (wrap64 ((wrap64 ((wrap64 (s0_1 + 1)) - 1)) * 29)))) + (wrap64 ((wrap64 (Int.tdiv (wrap64 ((wrap64 (s0_1 + 1)) - 1)) (s0_0.length : Int))) * 53)))) 64))) a1,(wrap64 (s0_1 + 1))))) else (none)) else (none)) else (none)) else (none)) = some (r1,r2):=by first|(rw [hji14] at H;exact H)|(simp only [hji14] at H ⊢;exact H)
      by_cases c15 : 0 ≤ (ji14)
      ·rw [if_pos c15] at H
       have c15b0 : decide (0 ≤ (ji14)) = true:=decide_eq_true c15
       clear c15
       by_cases c16 : (ji14) < (s0_0.length : Int)
       ·rw [if_pos c16] at H
        have c16b0 : decide ((ji14) < (s0_0.length : Int)) = true:=decide_eq_true c16
        clear c16
        obtain ⟨ji17,hji17⟩ : ∃ j_ : Int,(Int.tmod (wrap64 ((wrap64 ((wrap64 ((wrap64 (s0_1 + 1)) - 1)) * 7)) + 3)) (s0_0.length : Int)) = j_:=⟨_,rfl⟩
        replace H : (if 0 ≤ (ji17) then (if (ji17) < (s0_0.length : Int) then (if a1 = 0 then (none) else (some (Int.tmod (Go.bits .xor .i64 (wrap64 ((wrap64 ((wrap64 ((wrap64 ((wrap64 (rd s0_0 (ji14))) * 131)) + (wrap64 ((wrap64 (rd s0_0 (ji17))) * 1117)))) + (wrap64 ((wrap64 ((wrap64 (s0_1 + 1)) - 1)) * 29)))) + (wrap64 ((wrap64 (Int.tdiv (wrap64 ((wrap64 (s0_1 + 1)) - 1)) (s0_0.length : Int))) * 53)))) (wrap64 (Int.tdiv (wrap64 ((wrap64 ((wrap64 ((wrap64 ((wrap64 (rd s0_0 (ji14))) * 131)) + (wrap64 ((wrap64 (rd s0_0 (ji17))) * 1117)))) + (wrap64 ((wrap64 ((wrap64 (s0_1 + 1)) - 1)) * 29)))) + (wrap64 ((wrap64 (Int.tdiv (wrap64 ((wrap64 (s0_1 + 1)) - 1)) (s0_0.length : Int))) * 53)))) 64))) a1,(wrap64 (s0_1 + 1))))) else (none)) else (none)) = some (r1,r2):=by first|(rw [hji17] at H;exact H)|(simp only [hji17] at H ⊢;exact H)
        by_cases c18 : 0 ≤ (ji17)
        ·rw [if_pos c18] at H
         have c18b0 : decide (0 ≤ (ji17)) = true:=decide_eq_true c18
         clear c18
         by_cases c19 : (ji17) < (s0_0.length : Int)
         ·rw [if_pos c19] at H
          have c19b0 : decide ((ji17) < (s0_0.length : Int)) = true:=decide_eq_true c19
          clear c19
          by_cases c20 : a1 = 0
          ·rw [if_pos c20] at H
           exact absurd H (by simp)
          ·rw [if_neg c20] at H
           have c20b0 : (a1 == 0) = false:=beq_eq_false_iff_ne.mpr c20
           have c20b1 : (a1 != 0) = true:=bne_iff_ne.mpr c20
           simp only [Option.some.injEq,Prod.mk.injEq] at H
           obtain ⟨rfl,rfl⟩:=H
           obtain ⟨ASz21_0,cSz21_0,HGz21,hgz21,HSz21_0⟩:=HI0.out
           have hcz21_0:=cellS86_0 HGz21
           have hcz21_1:=cellS86_1 HGz21
           have hfz21_1:=blk_frozen HGz21 1
           clear HGz21 hgz21
           have p191 : 0 ≤ ((ji14) : Int):=of_decide_eq_true (by first|(with_reducible assumption)|assumption)
           have q191 : (ji14) < (s0_0.length : Int):=of_decide_eq_true (by first|(with_reducible assumption)|assumption)
           obtain ⟨ad191,e191,hx191_0⟩:=Kd.at_int HSz21_0 (ji14) p191 q191
           cases e191
           replace hx191_0:=pw_cell_below HB.out hx191_0
           replace p191:=eq_true p191
           replace q191:=eq_true q191
           have p192 : 0 ≤ ((ji17) : Int):=of_decide_eq_true (by first|(with_reducible assumption)|assumption)
           have q192 : (ji17) < (s0_0.length : Int):=of_decide_eq_true (by first|(with_reducible assumption)|assumption)
           obtain ⟨ad192,e192,hx192_0⟩:=Kd.at_int HSz21_0 (ji17) p192 q192
           obtain rfl : ad191 = ad192:=(by injection e192)
           replace hx192_0:=pw_cell_below HB.out hx192_0
           replace p192:=eq_true p192
           replace q192:=eq_true q192
           go_wp2
           repeat (go_quiet (fail);try go_wp2)
           go_ret
           exact ⟨by first|rfl|(simp [errW_none,errW_some] <;> rfl)|(simp only [← hji14,← hji17];first|rfl|(simp [errW_none,errW_some] <;> rfl))|(simp [*,errW_none,errW_some] <;> rfl),by repeat (first|(with_reducible first|exact HI0.out|apply IsS86.alloc|apply IsS86.drewN|apply IsS86.drew|apply IsS86.set_1)|exact HI0.out),by repeat (first|(with_reducible first|exact HB.out|apply below_alloc|apply pw_below_drewN|apply below_drew1|refine below_set ?_ (IsS86.ge HI0.out))|exact HB.out),by repeat (first|(with_reducible first|exact HK.out|apply KeepBut.set_|apply keep_drewN|apply keep_drew|apply keep_alloc)|exact HK.out)⟩
         ·rw [if_neg c19] at H
          exact absurd H (by simp)
        ·rw [if_neg c18] at H
         exact absurd H (by simp)
       ·rw [if_neg c16] at H
        exact absurd H (by simp)
      ·rw [if_neg c15] at H
       exact absurd H (by simp)
def spec_TimeOk.f (a0_0 : Int) (a0_1 : Int) : Option (Bool) := (spec_l6In.f a0_0 0 7).bind fun t194 => (if t194 = true then ((spec_l6In.f a0_1 0 7).bind fun t195 => (some t195)) else (some false))
set_option maxHeartbeats 8000000 in
set_option maxRecDepth 100000 in
theorem spec_TimeOk.calls (a0_0 : Int) (a0_1 : Int) (r : Bool) (w : World) (h : spec_TimeOk.f a0_0 a0_1 = some r) :
  Calls Try.prog 48 #[.agg #[.int .i64 a0_0,.int .i64 a0_1]] w fun e w'=>e = .returned (.bool r) ∧ Below w.heap.size w w':=by
 have hu26:=Try.underlying26
 have HB:=Aside0.mk (Below.refl w.heap.size w)
 have H : ((spec_l6In.f a0_0 0 7).bind fun t194=>(if t194 = true then ((spec_l6In.f a0_1 0 7).bind fun t195=>(some t195)) else (some false))) = some r:=h
 clear h
 replace H:=Option.bind_eq_some_iff.mp H
 obtain ⟨t194,A20,H⟩:=H
 replace H : (if t194 = true then ((spec_l6In.f a0_1 0 7).bind fun t195=>(some t195)) else (some false)) = some r:=H
 have A2:=Aside0.mk A20
 clear A20
 by_cases c3 : t194 = true
 ·subst c3
  have H1 : ((spec_l6In.f a0_1 0 7).bind fun t195=>(some t195)) = some r:=by rw [if_pos rfl] at H;exact H
  clear H
  have H:=H1
  clear H1
  replace H:=Option.bind_eq_some_iff.mp H
  obtain ⟨t195,A40,H⟩:=H
  replace H : (some t195) = some r:=H
  have A4:=Aside0.mk A40
  clear A40
  obtain rfl:=Option.some.inj H
  go_enter Try.func48,Try.ntmps48
  go_wp2_with (first|((with_reducible refine gate_dst (N:=1) rfl ?_);refine box_event ?hg (N:=1) ?hd (cs:=#[.int .i64 a0_0,.int .i64 a0_1]) (t:=26) ?hr ?_;(case hd=>rfl);(case hg=>rfl);(case hr=>first|(go_simp;done)|(go_simp;rfl));intro gb193 hg w5 hbox hb;have n0_:=Aside0.mk (below_step (by repeat (first|(with_reducible first|exact HB.out|apply below_alloc|apply pw_below_drewN|apply below_drew1)|exact HB.out)) hb);have n1_:=Aside0.mk (hbox);have n2_:=Aside0.mk ((by rw [hg];exact (below_size (by repeat (first|(with_reducible first|exact HB.out|apply below_alloc|apply pw_below_drewN|apply below_drew1)|exact HB.out))) : w.heap.size ≤ gb193));have n3_:=n2_;clear HB;have HB:=n0_;have BK193:=n1_;have GW193:=n2_;have GE193:=n3_;clear n0_ n1_ n2_ n3_;clear hb hbox hg;have hcz6_0 : w5.cell? ⟨gb193,0,none⟩ = some (.int .i64 a0_0):=(blk_cell BK193.out 0).trans rfl;have hcz6_1 : w5.cell? ⟨gb193,1,none⟩ = some (.int .i64 a0_1):=(blk_cell BK193.out 1).trans rfl;have hfz6_0:=blk_frozen BK193.out 0;have hfz6_1:=blk_frozen BK193.out 1)|((with_reducible refine gate_callee (f:=79) rfl ?_);refine goesL_ (some 5) rfl rfl Try.func79 (by kernel_rfl) rfl #[.int .i64 a0_0,.int .i64 0,.int .i64 7] rfl (by (try simp only [List.map_toArray,List.map_cons,List.map_nil]);first|done|rfl|(simp only [List.length_drop,List.length_take];rfl)) ?_;(with_reducible refine (spec_l6In.calls a0_0 0 7 true _ A2.out).mono ?_);rintro e w' ⟨rfl,⟨nd,rfl⟩⟩;refine ⟨_,rfl,?_⟩)|(go_at_call 79;(with_reducible refine (spec_l6In.calls a0_1 0 7 t195 _ A4.out).mono ?_);rintro e w' ⟨rfl,⟨nd,rfl⟩⟩))
  go_ret
  exact ⟨by first|rfl|(simp [errW_none,errW_some] <;> rfl)|(simp [*,errW_none,errW_some] <;> rfl),by repeat (first|(with_reducible first|exact HB.out|apply below_alloc|apply pw_below_drewN|apply below_drew1|refine below_set ?_ GE193.out)|exact HB.out)⟩
 ·replace c3:=Bool.eq_false_iff.mpr c3
  subst c3
  have H1 : (some false) = some r:=by rw [if_neg (show ¬ (false = true) by decide)] at H;exact H
  clear H
  have H:=H1
  clear H1
  obtain rfl:=Option.some.inj H
  go_enter Try.func48,Try.ntmps48
  go_wp2_with (first|((with_reducible refine gate_dst (N:=1) rfl ?_);refine box_event ?hg (N:=1) ?hd (cs:=#[.int .i64 a0_0,.int .i64 a0_1]) (t:=26) ?hr ?_;(case hd=>rfl);(case hg=>rfl);(case hr=>first|(go_simp;done)|(go_simp;rfl));intro gb193 hg w7 hbox hb;have n0_:=Aside0.mk (below_step (by repeat (first|(with_reducible first|exact HB.out|apply below_alloc|apply pw_below_drewN|apply below_drew1)|exact HB.out)) hb);have n1_:=Aside0.mk (hbox);have n2_:=Aside0.mk ((by rw [hg];exact (below_size (by repeat (first|(with_reducible first|exact HB.out|apply below_alloc|apply pw_below_drewN|apply below_drew1)|exact HB.out))) : w.heap.size ≤ gb193));have n3_:=n2_;clear HB;have HB:=n0_;have BK193:=n1_;have GW193:=n2_;have GE193:=n3_;clear n0_ n1_ n2_ n3_;clear hb hbox hg;have hcz8_0 : w7.cell? ⟨gb193,0,none⟩ = some (.int .i64 a0_0):=(blk_cell BK193.out 0).trans rfl;have hcz8_1 : w7.cell? ⟨gb193,1,none⟩ = some (.int .i64 a0_1):=(blk_cell BK193.out 1).trans rfl;have hfz8_0:=blk_frozen BK193.out 0;have hfz8_1:=blk_frozen BK193.out 1)|((with_reducible refine gate_callee (f:=79) rfl ?_);refine goesL_ (some 5) rfl rfl Try.func79 (by kernel_rfl) rfl #[.int .i64 a0_0,.int .i64 0,.int .i64 7] rfl (by (try simp only [List.map_toArray,List.map_cons,List.map_nil]);first|done|rfl|(simp only [List.length_drop,List.length_take];rfl)) ?_;(with_reducible refine (spec_l6In.calls a0_0 0 7 false _ A2.out).mono ?_);rintro e w' ⟨rfl,⟨nd,rfl⟩⟩;refine ⟨_,rfl,?_⟩))
  go_ret
  exact ⟨by first|rfl|(simp [errW_none,errW_some] <;> rfl)|(simp [*,errW_none,errW_some] <;> rfl),by repeat (first|(with_reducible first|exact HB.out|apply below_alloc|apply pw_below_drewN|apply below_drew1|refine below_set ?_ GE193.out)|exact HB.out)⟩
def spec_l2Row.f (a0_0 : Int) (a0_1 : Int) (a0_2 : Int) (a0_3 : Int) (a0_4 : Int) : Option (Bool) := (spec_l6In.f a0_0 0 3).bind fun t197 => (if t197 = true then ((spec_l6In.f a0_1 0 99).bind fun t198 => (if t198 = true then ((spec_TimeOk.f a0_2 a0_3).bind fun t199 => (if t199 = true then ((spec_l6In.f a0_4 (-99999) 99999).bind fun t200 => (some t200)) else (some false))) else (some false))) else (some false))
end Go.Proofs.Ytiegpijhkhopgaa.PFnSetLeast
