/- Functions that the law comes to: each as a plain Lean function, with the contract of the Go function. -/
import Derived.Test.YtiegpijhkhopgaaVFnSetLeastw
import Derived.Test.YtiegpijhkhopgaaVFnSetLeastp0
import Derived.Test.YtiegpijhkhopgaaVFnSetLeastp2
import Derived.Test.YtiegpijhkhopgaaVFnSetLeastp3
namespace Go.Proofs.Ytiegpijhkhopgaa.PFnSetLeast
open Go.RowKit Go.Proofs.YtiegpijhkhopgaaW.PrintWords Go.Proofs.YtiegpijhkhopgaaW.PrintLast Go.Proofs.YtiegpijhkhopgaaW.PrintMore
attribute [local go_sem] max2_int min2_int max_two min_two max_three min_three max_four min_four
set_option linter.unusedVariables false
set_option linter.unusedSimpArgs false
attribute [local go_sem high] eqA60
set_option maxHeartbeats 8000000 in
set_option maxRecDepth 100000 in
theorem spec_l2Items.calls (k : Nat) (A0 : Option Addr) (c0 : Nat) (l0 : List (S60)) (r : List (S60)) (w : World) (hr0 : Kd.C k60 w A0 l0.length l0) (hc0 : l0.length ≤ c0) (h : spec_l2Items.f k l0 = some r) :
  Calls Try.prog 96 #[.slice A0 l0.length c0] w fun e w'=>∃ v0_ : Value,e = .returned (v0_) ∧ Kd.R k60 60 w' w.heap.size (fun _=>True) v0_ r ∧ Below w.heap.size w w':=by
 have hu67:=Try.underlying67
 have hu60:=Try.underlying60
 have HR0:=Aside0.mk hr0
 have HC0:=Aside0.mk hc0
 clear hr0 hc0
 have HB:=Aside0.mk (Below.refl w.heap.size w)
 have H : (spec_l2Items.l0 k l0 (([] : List (S67))) 0) = some r:=h
 clear h
 obtain ⟨y262,hy262⟩ : ∃ y_ : List (S67),y_ = (([] : List (S67))):=⟨_,rfl⟩
 replace H : (spec_l2Items.l0 k l0 y262 0) = some r:=by first|(rw [hy262];with_reducible exact H)|(have H2_:=(Option.bind_some _ _).symm.trans H;rw [hy262];with_reducible exact H2_)|(have H2_:=(Option.bind_some _ _).symm.trans H;with_reducible exact H2_)|with_reducible exact H|(rw [hy262];exact H)|exact H
 have Ny262:=Aside0.mk hy262
 clear hy262
 have H':=Aside0.mk H
 clear H
 go_enter Try.func96,Try.ntmps96
 go_wp2_with (first|((with_reducible refine gate_dst (N:=8) rfl ?_);refine Kd.R_lit k67 _ 67 ?hg (N:=8) ?hd (xs:=([] : List (S67))) (inner:=[]) (ok:=fun _=>True) (okp:=fun _=>True) ?hr ?hp (fun _ hk=>hk) trivial (Below.refl _ _) (Nat.le_refl _) (by simp) ?_;(case hd=>rfl);(case hg=>rfl);(case hr=>first|(go_simp;done)|(go_simp;rfl));(case hp=>exact (Reps.none _ _));intro v263 w2 ho3 hb hg_ hnew_;clear hg_ hnew_;(first|rw [← Ny262.out] at ho3|(simp only [Int.reduceToNat] at ho3;rw [← Ny262.out] at ho3));have n0_:=Aside0.mk (Kd.R_lower ho3 (below_size (by repeat (first|(with_reducible first|exact HB.out|apply below_alloc|apply pw_below_drewN|apply below_drew1)|exact HB.out))));have n1_:=Aside0.mk (below_step (by repeat (first|(with_reducible first|exact HB.out|apply below_alloc|apply pw_below_drewN|apply below_drew1)|exact HB.out)) hb);clear HB;have HO264:=n0_;have HB:=n1_;clear n0_ n1_;clear hb ho3))
 go_loopg [3,4] k (fun kq v3 v4 w'=>∃ (x3_1 : List (S67)) (x4_1 : Int),v4 = .int .i64 x4_1 ∧ Aside0 (spec_l2Items.l0 kq l0 x3_1 x4_1 = some r) ∧ Aside0 (kq ≤ k) ∧ Aside0 (Kd.R k67 67 w' w.heap.size (fun _=>True) v3 x3_1) ∧ Aside0 (Below w.heap.size w w'))
 case atStart=>exact ⟨(y262),(0),(by first|rfl|(simp;done)|(simp [*];done)),H',⟨Nat.le_refl _⟩,⟨by (with_reducible repeat (first|apply Kd.R_alloc|apply Kd.R_drewN|apply Kd.R_drew));exact HO264.out⟩,⟨by repeat (first|(with_reducible first|exact HB.out|apply below_alloc|apply pw_below_drewN|apply below_drew1)|exact HB.out)⟩⟩
 case round =>
  clear H'
  try clear p2
  obtain ⟨x3_1,x4_1,rfl,HA,HK1,HO_3,HB⟩:=hrel
  cases gk with
  | zero=>exact absurd HA.out (by simp [spec_l2Items.l0])
  | succ k1 =>
   have H:=HA.out
   clear HA
   simp only [spec_l2Items.l0] at H
   by_cases c4 : x4_1 < (l0.length : Int)
   ·rw [if_pos c4] at H
    have c4b0 : decide (x4_1 < (l0.length : Int)) = true:=decide_eq_true c4
    clear c4
    by_cases c5 : 0 ≤ x4_1
    ·rw [if_pos c5] at H
     have c5b0 : decide (0 ≤ x4_1) = true:=decide_eq_true c5
     clear c5
     by_cases c6 : x3_1.length < 3518437208883
     ·rw [if_pos c6] at H
      have LMc6:=Aside0.mk c6
      clear c6
      obtain ⟨y268,hy268⟩ : ∃ y_ : List (S67),y_ = (x3_1 ++ [(⟨(rd_T60 l0 x4_1).f0,(rd_T60 l0 x4_1).f1,(⟨0,0⟩ : S26),(rd_T60 l0 x4_1).f2⟩ : S67)]):=⟨_,rfl⟩
      replace H : (spec_l2Items.l0 k1 l0 y268 (wrap64 (x4_1 + 1))) = some r:=by first|(rw [hy268];with_reducible exact H)|(have H2_:=(Option.bind_some _ _).symm.trans H;rw [hy268];with_reducible exact H2_)|(have H2_:=(Option.bind_some _ _).symm.trans H;with_reducible exact H2_)|with_reducible exact H|(rw [hy268];exact H)|exact H
      have Ny268:=Aside0.mk hy268
      clear hy268
      have H':=Aside0.mk H
      clear H
      try go_wp2
      have n0_:=Aside0.mk (Kd.R_drew HO_3.out)
      have n1_:=Aside0.mk (below_drew1 HB.out)
      clear HO_3
      clear HB
      have HO_3:=n0_
      have HB:=n1_
      clear n0_ n1_
      have p265 : 0 ≤ (x4_1 : Int):=of_decide_eq_true (by first|(with_reducible assumption)|assumption)
      have q265 : x4_1 < (l0.length : Int):=of_decide_eq_true (by first|(with_reducible assumption)|assumption)
      obtain ⟨ad265,e265,hx265_0,hx265_1,hx265_2⟩:=at_T60 HR0.out x4_1 p265 q265
      have hw265_2:=hx265_2
      have hw265_1:=hx265_1
      have hw265_0:=hx265_0
      cases e265
      replace hx265_0:=(HB.out.cell (bl_ w _ hx265_0)).trans hx265_0
      replace hx265_1:=(HB.out.cell (bl_ w _ hx265_1)).trans hx265_1
      replace hx265_2:=(HB.out.cell (bl_ w _ hx265_2)).trans hx265_2
      replace p265:=eq_true p265
      replace q265:=eq_true q265
      have p266 : 0 ≤ (x4_1 : Int):=of_decide_eq_true (by first|(with_reducible assumption)|assumption)
      have q266 : x4_1 < (l0.length : Int):=of_decide_eq_true (by first|(with_reducible assumption)|assumption)
      obtain ⟨ad266,e266,hx266_0,hx266_1,hx266_2⟩:=at_T60 HR0.out x4_1 p266 q266
      have hw266_2:=hx266_2
      have hw266_1:=hx266_1
      have hw266_0:=hx266_0
      obtain rfl : ad265 = ad266:=(by injection e266)
      replace hx266_0:=(HB.out.cell (bl_ w _ hx266_0)).trans hx266_0
      replace hx266_1:=(HB.out.cell (bl_ w _ hx266_1)).trans hx266_1
      replace hx266_2:=(HB.out.cell (bl_ w _ hx266_2)).trans hx266_2
      replace p266:=eq_true p266
      replace q266:=eq_true q266
      have p267 : 0 ≤ (x4_1 : Int):=of_decide_eq_true (by first|(with_reducible assumption)|assumption)
      have q267 : x4_1 < (l0.length : Int):=of_decide_eq_true (by first|(with_reducible assumption)|assumption)
      obtain ⟨ad267,e267,hx267_0,hx267_1,hx267_2⟩:=at_T60 HR0.out x4_1 p267 q267
      have hw267_2:=hx267_2
      have hw267_1:=hx267_1
      have hw267_0:=hx267_0
      obtain rfl : ad265 = ad267:=(by injection e267)
      replace hx267_0:=(HB.out.cell (bl_ w _ hx267_0)).trans hx267_0
      replace hx267_1:=(HB.out.cell (bl_ w _ hx267_1)).trans hx267_1
      replace hx267_2:=(HB.out.cell (bl_ w _ hx267_2)).trans hx267_2
      replace p267:=eq_true p267
      replace q267:=eq_true q267
      refine start_ (n:=20) (S:=fun w'=>w'.cell? (ad265.add ((x4_1).toNat * 3)) = some (.int .i64 ((rd_T60 l0 x4_1).f0)) ∧ w'.cell? ⟨(ad265.add ((x4_1).toNat * 3)).block,(ad265.add ((x4_1).toNat * 3)).off + 1,none⟩ = some (.int .i64 ((rd_T60 l0 x4_1).f1)) ∧ w'.cell? ⟨(ad265.add ((x4_1).toNat * 3)).block,(ad265.add ((x4_1).toNat * 3)).off + 2,none⟩ = some (.int .i64 ((rd_T60 l0 x4_1).f2)) ∧ w'.cell? (ad265.add ((x4_1).toNat * 3)) = some (.int .i64 ((rd_T60 l0 x4_1).f0)) ∧ w'.cell? ⟨(ad265.add ((x4_1).toNat * 3)).block,(ad265.add ((x4_1).toNat * 3)).off + 1,none⟩ = some (.int .i64 ((rd_T60 l0 x4_1).f1)) ∧ w'.cell? ⟨(ad265.add ((x4_1).toNat * 3)).block,(ad265.add ((x4_1).toNat * 3)).off + 2,none⟩ = some (.int .i64 ((rd_T60 l0 x4_1).f2)) ∧ w'.cell? (ad265.add ((x4_1).toNat * 3)) = some (.int .i64 ((rd_T60 l0 x4_1).f0)) ∧ w'.cell? ⟨(ad265.add ((x4_1).toNat * 3)).block,(ad265.add ((x4_1).toNat * 3)).off + 1,none⟩ = some (.int .i64 ((rd_T60 l0 x4_1).f1)) ∧ w'.cell? ⟨(ad265.add ((x4_1).toNat * 3)).block,(ad265.add ((x4_1).toNat * 3)).off + 2,none⟩ = some (.int .i64 ((rd_T60 l0 x4_1).f2))) (ds:=[]) b20_0 (by kernel_rfl) rfl rfl ⟨(cb_ HB hw265_0:),(cb_ HB hw265_1:),(cb_ HB hw265_2:),(cb_ HB hw266_0:),(cb_ HB hw266_1:),(cb_ HB hw266_2:),(cb_ HB hw267_0:),(cb_ HB hw267_1:),(cb_ HB hw267_2:)⟩ (fun hHeld=>?_);refine with_tabW spec_l2Items.tab5 spec_l2Items.bits5 (fun HT_ HW_=>?_)
      generalize wr.drew = w7 at HO_3 HB hx265_0 hx265_1 hx265_2 hx266_0 hx266_1 hx266_2 hx267_0 hx267_1 hx267_2 hHeld ⊢
      refine pure_ (i:=0) (N:=some 15) (v:=?_) (a':=?_) b20_1 rfl rfl (any_of HT_.out (by kernel_rfl)) (fun _ _ _ h=>h) (Or.inl ⟨by rfl,?_⟩) ?_ ?_
      rotate_left
      ·intro w'
       go_simp
       with_reducible rfl
      rotate_left
      ·simp only [Act.put,sA_,sZ_,sS_,i64_w,i32_w]
       rfl
      refine pure_ (i:=1) (N:=some 16) (v:=?_) (a':=?_) b20_2 rfl rfl (any_of HT_.out (by kernel_rfl)) (fun _ _ _ h=>h) (Or.inl ⟨by rfl,?_⟩) ?_ ?_
      rotate_left
      ·intro w'
       go_simp
       with_reducible rfl
      rotate_left
      ·simp only [Act.put,sA_,sZ_,sS_,i64_w,i32_w]
       rfl
      refine pure_ (i:=2) (N:=some 17) (v:=?_) (a':=?_) b20_3 rfl rfl (any_of HT_.out (by kernel_rfl)) (fun _ _ _ h=>h) (Or.inl ⟨by rfl,?_⟩) ?_ ?_
      rotate_left
      ·intro w'
       go_simp
       with_reducible rfl
      rotate_left
      ·simp only [Act.put,sA_,sZ_,sS_,i64_w,i32_w]
       rfl
      refine pure_ (i:=3) (N:=some 18) (v:=?_) (a':=?_) b20_4 rfl rfl (any_of HT_.out (by kernel_rfl)) (fun _ _ _ h=>h) (Or.inl ⟨by rfl,?_⟩) ?_ ?_
      rotate_left
      ·intro w'
       go_simp
       with_reducible rfl
      rotate_left
      ·simp only [Act.put,sA_,sZ_,sS_,i64_w,i32_w]
       rfl
      refine pure_ (i:=4) (N:=some 19) (v:=?_) (a':=?_) b20_5 rfl rfl (any_of HT_.out (by kernel_rfl)) (fun _ _ _ h=>h) (Or.inl ⟨by rfl,?_⟩) ?_ ?_
      rotate_left
      ·intro w'
       go_simp
       with_reducible rfl
      rotate_left
      ·simp only [Act.put,sA_,sZ_,sS_,i64_w,i32_w]
       rfl
      refine pure_ (i:=6) (N:=some 21) (v:=?_) (a':=?_) c102 rfl rfl (any_of HT_.out (by kernel_rfl)) (fun _ _ _ h=>h) (Or.inl ⟨by rfl,?_⟩) ?_ ?_
      rotate_left
      ·intro w'
       go_simp
       with_reducible rfl
      rotate_left
      ·simp only [Act.put,sA_,sZ_,sS_,i64_w,i32_w]
       rfl
      refine pure_ (i:=7) (N:=some 22) (v:=?_) (a':=?_) c103 rfl rfl (any_of HT_.out (by kernel_rfl)) (fun _ _ _ h=>h) (Or.inl ⟨by rfl,?_⟩) ?_ ?_
      rotate_left
      ·intro w'
       go_simp
       with_reducible rfl
      rotate_left
      ·simp only [Act.put,sA_,sZ_,sS_,i64_w,i32_w]
       rfl
      refine pure_ (i:=8) (N:=some 23) (v:=?_) (a':=?_) c104 rfl rfl (any_of HT_.out (by kernel_rfl)) (fun _ _ _ h=>h) (Or.inl ⟨by rfl,?_⟩) ?_ ?_
      rotate_left
      ·intro w'
       go_simp
       with_reducible rfl
      rotate_left
      ·simp only [Act.put,sA_,sZ_,sS_,i64_w,i32_w]
       rfl
      refine pure_ (i:=9) (N:=some 24) (v:=?_) (a':=?_) c105 rfl rfl (any_of HT_.out (by kernel_rfl)) (fun _ _ _ h=>h) (Or.inl ⟨by rfl,?_⟩) ?_ ?_
      rotate_left
      ·intro w'
       go_simp
       with_reducible rfl
      rotate_left
      ·simp only [Act.put,sA_,sZ_,sS_,i64_w,i32_w]
       rfl
      refine pure_ (i:=11) (N:=some 26) (v:=?_) (a':=?_) c106 rfl rfl (any_of HT_.out (by kernel_rfl)) (fun _ _ _ h=>h) (Or.inl ⟨by rfl,?_⟩) ?_ ?_
      rotate_left
      ·intro w'
       go_simp
       with_reducible rfl
      rotate_left
      ·simp only [Act.put,sA_,sZ_,sS_,i64_w,i32_w]
       rfl
      refine pure_ (i:=12) (N:=some 27) (v:=?_) (a':=?_) c107 rfl rfl (any_of HT_.out (by kernel_rfl)) (fun _ _ _ h=>h) (Or.inl ⟨by rfl,?_⟩) ?_ ?_
      rotate_left
      ·intro w'
       go_simp
       with_reducible rfl
      rotate_left
      ·simp only [Act.put,sA_,sZ_,sS_,i64_w,i32_w]
       rfl
      refine pure_ (i:=13) (N:=some 28) (v:=?_) (a':=?_) c108 rfl rfl (any_of HT_.out (by kernel_rfl)) (fun _ _ _ h=>h) (Or.inl ⟨by rfl,?_⟩) ?_ ?_
      rotate_left
      ·intro w'
       go_simp
       with_reducible rfl
      rotate_left
      ·simp only [Act.put,sA_,sZ_,sS_,i64_w,i32_w]
       rfl
      refine pure_ (i:=14) (N:=some 29) (v:=?_) (a':=?_) c109 rfl rfl (any_of HT_.out (by kernel_rfl)) (fun _ _ _ h=>h) (Or.inl ⟨by rfl,?_⟩) ?_ ?_
      rotate_left
      ·intro w'
       go_simp
       with_reducible rfl
      rotate_left
      ·simp only [Act.put,sA_,sZ_,sS_,i64_w,i32_w]
       rfl
      refine take_ (i:=5) (N:=some 20) (v:=?_) (a':=?_) c110 rfl rfl (take_ofW HT_.out HW_.out (by kernel_rfl)) (fun _ _ _ h=>h) (Or.inl ⟨by rfl,?_⟩) hHeld ?_ ?_
      rotate_left
      ·rintro w' ⟨s0,s1,s2,s3,s4,s5,s6,s7,s8⟩
       go_simp
       with_reducible rfl
      rotate_left
      ·simp only [Act.put,sA_,sZ_,sS_,i64_w,i32_w]
       rfl
      refine take_ (i:=10) (N:=some 25) (v:=?_) (a':=?_) b20_15 rfl rfl (take_ofW HT_.out HW_.out (by kernel_rfl)) (fun _ _ _ h=>h) (Or.inl ⟨by rfl,?_⟩) hHeld ?_ ?_
      rotate_left
      ·rintro w' ⟨s0,s1,s2,s3,s4,s5,s6,s7,s8⟩
       go_simp
       with_reducible rfl
      rotate_left
      ·simp only [Act.put,sA_,sZ_,sS_,i64_w,i32_w]
       rfl
      refine take_ (i:=15) (N:=some 30) (v:=?_) (a':=?_) b20_16 rfl rfl (take_ofW HT_.out HW_.out (by kernel_rfl)) (fun _ _ _ h=>h) (Or.inl ⟨by rfl,?_⟩) hHeld ?_ ?_
      rotate_left
      ·rintro w' ⟨s0,s1,s2,s3,s4,s5,s6,s7,s8⟩
       go_simp
       with_reducible rfl
      rotate_left
      ·simp only [Act.put,sA_,sZ_,sS_,i64_w,i32_w]
       rfl
      refine pure_ (i:=16) (N:=some 31) (v:=?_) (a':=?_) b20_17 rfl rfl (any_of HT_.out (by kernel_rfl)) (fun _ _ _ h=>h) (Or.inl ⟨by rfl,?_⟩) ?_ ?_
      rotate_left
      ·intro w'
       go_simp
       with_reducible rfl
      rotate_left
      ·simp only [Act.put,sA_,sZ_,sS_,i64_w,i32_w]
       rfl
      refine one_ (i:=17) (N:=some 32) b20_18 rfl rfl (one_of HT_.out (by kernel_rfl)) (by decide) (fun K hK=>?_)
      refine value_ (w1:=?_) (v:=?_) (by rfl) rfl ?_ ?_
      rotate_left 2
      ·go_simp
       constructor
       ·rfl
       ·rfl
      refine hK.out _ _ ⟨(World.cell?_alloc_lt _ _ _ (bl_ _ _ ((cb_ HB hw265_0:)))).trans ((cb_ HB hw265_0:)),(World.cell?_alloc_lt _ _ _ (bl_ _ _ ((cb_ HB hw265_1:)))).trans ((cb_ HB hw265_1:)),(World.cell?_alloc_lt _ _ _ (bl_ _ _ ((cb_ HB hw265_2:)))).trans ((cb_ HB hw265_2:)),(World.cell?_alloc_lt _ _ _ (bl_ _ _ ((cb_ HB hw266_0:)))).trans ((cb_ HB hw266_0:)),(World.cell?_alloc_lt _ _ _ (bl_ _ _ ((cb_ HB hw266_1:)))).trans ((cb_ HB hw266_1:)),(World.cell?_alloc_lt _ _ _ (bl_ _ _ ((cb_ HB hw266_2:)))).trans ((cb_ HB hw266_2:)),(World.cell?_alloc_lt _ _ _ (bl_ _ _ ((cb_ HB hw267_0:)))).trans ((cb_ HB hw267_0:)),(World.cell?_alloc_lt _ _ _ (bl_ _ _ ((cb_ HB hw267_1:)))).trans ((cb_ HB hw267_1:)),(World.cell?_alloc_lt _ _ _ (bl_ _ _ ((cb_ HB hw267_2:)))).trans ((cb_ HB hw267_2:))⟩ (fun hHeld=>?_)
      clear hK K
      refine norm_ (a':=?_) ?_ ?_
      rotate_left
      ·show Act.put _ (some 32) _ = _
       simp only [Act.put,sA_,sZ_,sS_,i64_w,i32_w]
       rfl
      refine one_ (i:=18) (N:=some 33) b20_19 rfl rfl (one_of HT_.out (by kernel_rfl)) (by decide) (fun K hK=>?_)
      refine Kd.R_append_step k67 (w0:=w) w.heap.size (by rfl) (.tmp 15) (.tmp 32) 45 67 (.agg #[(.int .i64 0),(.int .i64 0),(.int .i64 0),(.int .i64 0),(.int .i64 0)]) 40 rfl Try.underlying45 info67 rfl (by decide) (by omega) u3 x3_1 (⟨(rd_T60 l0 x4_1).f0,(rd_T60 l0 x4_1).f1,(⟨0,0⟩ : S26),(rd_T60 l0 x4_1).f2⟩ : S67) [.int .i64 ((rd_T60 l0 x4_1).f0),.int .i64 ((rd_T60 l0 x4_1).f1),.int .i64 0,.int .i64 0,.int .i64 ((rd_T60 l0 x4_1).f2)] (fun _=>True) (fun _=>False) rfl rfl ?aP (fun _ hk=>hk.elim) ?aF ?aO ?aB ?aS ?aL ?_
      (case aP=>exact k67_mkM _ _ _ (⟨(rd_T60 l0 x4_1).f0,(rd_T60 l0 x4_1).f1,(⟨0,0⟩ : S26),(rd_T60 l0 x4_1).f2⟩ : S67))
      (case aB=>exact (by repeat (first|(with_reducible first|exact HB.out|apply below_alloc|apply pw_below_drewN|apply below_drew1)|exact HB.out)))
      (case aF=>exact (fun _ _=>trivial))
      (case aO=>exact (by (with_reducible repeat (first|apply Kd.R_alloc|apply Kd.R_drewN|apply Kd.R_drew));exact HO_3.out))
      (case aS=>exact (below_size (by repeat (first|(with_reducible first|exact HB.out|apply below_alloc|apply pw_below_drewN|apply below_drew1)|exact HB.out))))
      (case aL=>have:=LMc6.out;omega)
      intro v269 w8 ho hb hg hat
      rw [← Ny268.out] at ho
      have n0_:=Aside0.mk (hb)
      have n1_:=Aside0.mk (ho)
      clear HB
      clear HO_3
      have HB:=n0_
      have HO270:=n1_
      clear n0_ n1_
      clear ho hb hg hat
      refine hK.out _ _ ⟨(cb_ HB hw265_0:),(cb_ HB hw265_1:),(cb_ HB hw265_2:),(cb_ HB hw266_0:),(cb_ HB hw266_1:),(cb_ HB hw266_2:),(cb_ HB hw267_0:),(cb_ HB hw267_1:),(cb_ HB hw267_2:)⟩ (fun hHeld=>?_)
      clear hK K
      refine norm_ (a':=?_) ?_ ?_
      rotate_left
      ·show Act.put _ (some 33) _ = _
       simp only [Act.put,sA_,sZ_,sS_,i64_w,i32_w]
       rfl
      refine pure_ (i:=19) (N:=some 3) (v:=?_) (a':=?_) b20_20 rfl rfl (any_of HT_.out (by kernel_rfl)) (fun _ _ _ h=>h) (Or.inl ⟨by rfl,?_⟩) ?_ ?_
      rotate_left
      ·intro w'
       go_simp
       with_reducible rfl
      rotate_left
      ·simp only [Act.put,sA_,sZ_,sS_,i64_w,i32_w]
       rfl
      refine done_ (done_of HT_.out (by kernel_rfl)) ?_
      try go_wp2
      go_roundg k1
      case measure=>have:=HK1.out;omega
      case rel=>exact ⟨(y268),(wrap64 (x4_1 + 1)),(by first|rfl|(simp;done)|(simp [*];done)),H',⟨by have:=HK1.out;omega⟩,⟨by (with_reducible repeat (first|apply Kd.R_alloc|apply Kd.R_drewN|apply Kd.R_drew));exact HO270.out⟩,⟨by repeat (first|(with_reducible first|exact HB.out|apply below_alloc|apply pw_below_drewN|apply below_drew1)|exact HB.out)⟩⟩
     ·rw [if_neg c6] at H
      exact absurd H (by simp)
    ·rw [if_neg c5] at H
     exact absurd H (by simp)
   ·rw [if_neg c4] at H
    have c4b0 : decide (x4_1 < (l0.length : Int)) = false:=decide_eq_false c4
    clear c4
    replace H:=Option.bind_eq_some_iff.mp H
    obtain ⟨t271,A90,H⟩:=H
    replace H : (spec_l2Items.l1 k1 t271 (([] : List (S60))) 0) = some r:=H
    have A9:=Aside0.mk A90
    clear A90
    obtain ⟨y274,hy274⟩ : ∃ y_ : List (S60),y_ = (([] : List (S60))):=⟨_,rfl⟩
    replace H : (spec_l2Items.l1 k1 t271 y274 0) = some r:=by first|(rw [hy274];with_reducible exact H)|(have H2_:=(Option.bind_some _ _).symm.trans H;rw [hy274];with_reducible exact H2_)|(have H2_:=(Option.bind_some _ _).symm.trans H;with_reducible exact H2_)|with_reducible exact H|(rw [hy274];exact H)|exact H
    have Ny274:=Aside0.mk hy274
    clear hy274
    have H':=Aside0.mk H
    clear H
    obtain ⟨Ao10,co10,eo10⟩:=Kd.R_slice HO_3.out
    subst eo10
    go_wp2_with (first|((with_reducible refine gate_callee (f:=99) rfl ?_);refine goesL_ (some 35) rfl rfl Try.func99 (by kernel_rfl) rfl #[.slice Ao10 x3_1.length co10] rfl (by (try simp only [List.map_toArray,List.map_cons,List.map_nil]);first|done|rfl|(simp only [List.length_drop,List.length_take];rfl)) ?_;(with_reducible refine (spec_l2Sum.calls k1 _ _ x3_1 t271 _ ?side1 ?side2 A9.out).mono ?_);(case side1=>repeat (first|exact (Kd.R_reads' HO_3.out).2.2|(with_reducible refine Kd.C_alloc ?_ _)|(with_reducible refine Kd.C_drewN ?_ _)|(with_reducible refine Kd.C_drew ?_)));(case side2=>exact (Kd.R_reads' HO_3.out).2.1);rintro e w11 ⟨v272,rfl,ho0,hb⟩;refine ⟨_,rfl,?_⟩;have n0_:=Aside0.mk (Kd.R_elder' (by (with_reducible repeat (first|apply Kd.R_alloc|apply Kd.R_drewN|apply Kd.R_drew));exact HO_3.out) (Kd.R_base ho0) hb);have n1_:=Aside0.mk (Kd.R_lower (Kd.R_new' ho0 (Kd.R_lt (by (with_reducible repeat (first|apply Kd.R_alloc|apply Kd.R_drewN|apply Kd.R_drew));exact HO_3.out))) (below_size (by repeat (first|(with_reducible first|exact HB.out|apply below_alloc|apply pw_below_drewN|apply below_drew1)|exact HB.out))));have n2_:=Aside0.mk (below_step (by repeat (first|(with_reducible first|exact HB.out|apply below_alloc|apply pw_below_drewN|apply below_drew1)|exact HB.out)) hb);clear HO_3;clear HB;have HO_3:=n0_;have HO273:=n1_;have HB:=n2_;clear n0_ n1_ n2_;(try clear hb);(try clear hb2);(try clear hk);(try clear hi);(try clear ho0))|((with_reducible refine gate_dst (N:=36) rfl ?_);refine Kd.R_lit k60 _ 60 ?hg (N:=36) ?hd (xs:=([] : List (S60))) (inner:=[]) (ok:=fun _=>True) (okp:=fun _=>True) ?hr ?hp (fun _ hk=>hk) trivial (Below.refl _ _) (Nat.le_refl _) (by simp) ?_;(case hd=>rfl);(case hg=>rfl);(case hr=>first|(go_simp;done)|(go_simp;rfl));(case hp=>exact (Reps.none _ _));intro v275 w12 ho13 hb hg_ hnew_;clear hg_ hnew_;(first|rw [← Ny274.out] at ho13|(simp only [Int.reduceToNat] at ho13;rw [← Ny274.out] at ho13));have n0_:=Aside0.mk (Kd.R_below (by (with_reducible repeat (first|apply Kd.R_alloc|apply Kd.R_drewN|apply Kd.R_drew));exact HO_3.out) hb);have n1_:=Aside0.mk (Kd.R_below (by (with_reducible repeat (first|apply Kd.R_alloc|apply Kd.R_drewN|apply Kd.R_drew));exact HO273.out) hb);have n2_:=Aside0.mk (Kd.R_lower ho13 (below_size (by repeat (first|(with_reducible first|exact HB.out|apply below_alloc|apply pw_below_drewN|apply below_drew1)|exact HB.out))));have n3_:=Aside0.mk (below_step (by repeat (first|(with_reducible first|exact HB.out|apply below_alloc|apply pw_below_drewN|apply below_drew1)|exact HB.out)) hb);clear HO_3;clear HO273;clear HB;have HO_3:=n0_;have HO273:=n1_;have HO276:=n2_;have HB:=n3_;clear n0_ n1_ n2_ n3_;clear hb ho13))
    go_loopg [6,7] k1 (fun kq v6 v7 w'=>∃ (x6_2 : List (S60)) (x7_2 : Int),v7 = .int .i64 x7_2 ∧ Aside0 (spec_l2Items.l1 kq t271 x6_2 x7_2 = some r) ∧ Aside0 (kq ≤ k1) ∧ Aside0 (Kd.R k67 67 w' w.heap.size (fun _=>True) v272 t271) ∧ Aside0 (Kd.R k60 60 w' w.heap.size (fun _=>True) v6 x6_2) ∧ Aside0 (Below w.heap.size w w'))
    case atStart=>exact ⟨(y274),(0),(by first|rfl|(simp;done)|(simp [*];done)),H',⟨Nat.le_refl _⟩,⟨by (with_reducible repeat (first|apply Kd.R_alloc|apply Kd.R_drewN|apply Kd.R_drew));exact Kd.R_mono HO273.out (fun _ hk=>trivial)⟩,⟨by (with_reducible repeat (first|apply Kd.R_alloc|apply Kd.R_drewN|apply Kd.R_drew));exact HO276.out⟩,⟨by repeat (first|(with_reducible first|exact HB.out|apply below_alloc|apply pw_below_drewN|apply below_drew1)|exact HB.out)⟩⟩
    case round =>
     clear H'
     try clear p2
     try clear q2
     try clear hx2
     try clear c4
     try clear c4b0
     try clear c5
     try clear c5b0
     try clear c6
     try clear p6
     try clear c9
     try clear hx265_0
     try clear hx265_1
     try clear hx265_2
     try clear hx266_0
     try clear hx266_1
     try clear hx266_2
     try clear hx267_0
     try clear hx267_1
     try clear hx267_2
     try clear p2
     try clear p265
     try clear p266
     try clear p267
     try clear q265
     try clear q266
     try clear q267
     obtain ⟨x6_2,x7_2,rfl,HA,HK2,HO_5,HO_6,HB⟩:=hrel
     cases gk with
     | zero=>exact absurd HA.out (by simp [spec_l2Items.l1])
     | succ k2 =>
      have H:=HA.out
      clear HA
      simp only [spec_l2Items.l1] at H
      by_cases c14 : x7_2 < (t271.length : Int)
      ·rw [if_pos c14] at H
       have c14b0 : decide (x7_2 < (t271.length : Int)) = true:=decide_eq_true c14
       clear c14
       by_cases c15 : 0 ≤ x7_2
       ·rw [if_pos c15] at H
        have c15b0 : decide (0 ≤ x7_2) = true:=decide_eq_true c15
        clear c15
        by_cases c16 : x6_2.length < 5864062014805
        ·rw [if_pos c16] at H
         have LMc16:=Aside0.mk c16
         clear c16
         obtain ⟨y280,hy280⟩ : ∃ y_ : List (S60),y_ = (x6_2 ++ [(⟨(rd_T67 t271 x7_2).f0,(rd_T67 t271 x7_2).f1,(rd_T67 t271 x7_2).f3⟩ : S60)]):=⟨_,rfl⟩
         replace H : (spec_l2Items.l1 k2 t271 y280 (wrap64 (x7_2 + 1))) = some r:=by first|(rw [hy280];with_reducible exact H)|(have H2_:=(Option.bind_some _ _).symm.trans H;rw [hy280];with_reducible exact H2_)|(have H2_:=(Option.bind_some _ _).symm.trans H;with_reducible exact H2_)|with_reducible exact H|(rw [hy280];exact H)|exact H
         have Ny280:=Aside0.mk hy280
         clear hy280
         have H':=Aside0.mk H
         clear H
         obtain ⟨Ao17,co17,eo17⟩:=Kd.R_slice HO_5.out
         subst eo17
         try go_wp2
         have n0_:=Aside0.mk (Kd.R_drew HO_5.out)
         have n1_:=Aside0.mk (Kd.R_drew HO_6.out)
         have n2_:=Aside0.mk (below_drew1 HB.out)
         clear HO_5
         clear HO_6
         clear HB
         have HO_5:=n0_
         have HO_6:=n1_
         have HB:=n2_
         clear n0_ n1_ n2_
         have p277 : 0 ≤ (x7_2 : Int):=of_decide_eq_true (by first|(with_reducible assumption)|assumption)
         have q277 : x7_2 < (t271.length : Int):=of_decide_eq_true (by first|(with_reducible assumption)|assumption)
         obtain ⟨ad277,e277,hx277_0,hx277_1,hx277_2,hx277_3,hx277_4⟩:=at_T67 (Kd.R_reads' HO_5.out).2.2 x7_2 p277 q277
         cases e277
         replace p277:=eq_true p277
         replace q277:=eq_true q277
         have p278 : 0 ≤ (x7_2 : Int):=of_decide_eq_true (by first|(with_reducible assumption)|assumption)
         have q278 : x7_2 < (t271.length : Int):=of_decide_eq_true (by first|(with_reducible assumption)|assumption)
         obtain ⟨ad278,e278,hx278_0,hx278_1,hx278_2,hx278_3,hx278_4⟩:=at_T67 (Kd.R_reads' HO_5.out).2.2 x7_2 p278 q278
         obtain rfl : ad277 = ad278:=(by injection e278)
         replace p278:=eq_true p278
         replace q278:=eq_true q278
         have p279 : 0 ≤ (x7_2 : Int):=of_decide_eq_true (by first|(with_reducible assumption)|assumption)
         have q279 : x7_2 < (t271.length : Int):=of_decide_eq_true (by first|(with_reducible assumption)|assumption)
         obtain ⟨ad279,e279,hx279_0,hx279_1,hx279_2,hx279_3,hx279_4⟩:=at_T67 (Kd.R_reads' HO_5.out).2.2 x7_2 p279 q279
         obtain rfl : ad277 = ad279:=(by injection e279)
         replace p279:=eq_true p279
         replace q279:=eq_true q279
         refine start_ (n:=20) (S:=fun w'=>w'.cell? (ad277.add ((x7_2).toNat * 5)) = some (.int .i64 ((rd_T67 t271 x7_2).f0)) ∧ w'.cell? ⟨(ad277.add ((x7_2).toNat * 5)).block,(ad277.add ((x7_2).toNat * 5)).off + 1,none⟩ = some (.int .i64 ((rd_T67 t271 x7_2).f1)) ∧ w'.cell? ⟨(ad277.add ((x7_2).toNat * 5)).block,(ad277.add ((x7_2).toNat * 5)).off + 2,none⟩ = some (.int .i64 ((rd_T67 t271 x7_2).f2.f0)) ∧ w'.cell? ⟨(ad277.add ((x7_2).toNat * 5)).block,(ad277.add ((x7_2).toNat * 5)).off + 3,none⟩ = some (.int .i64 ((rd_T67 t271 x7_2).f2.f1)) ∧ w'.cell? ⟨(ad277.add ((x7_2).toNat * 5)).block,(ad277.add ((x7_2).toNat * 5)).off + 4,none⟩ = some (.int .i64 ((rd_T67 t271 x7_2).f3)) ∧ w'.cell? (ad277.add ((x7_2).toNat * 5)) = some (.int .i64 ((rd_T67 t271 x7_2).f0)) ∧ w'.cell? ⟨(ad277.add ((x7_2).toNat * 5)).block,(ad277.add ((x7_2).toNat * 5)).off + 1,none⟩ = some (.int .i64 ((rd_T67 t271 x7_2).f1)) ∧ w'.cell? ⟨(ad277.add ((x7_2).toNat * 5)).block,(ad277.add ((x7_2).toNat * 5)).off + 2,none⟩ = some (.int .i64 ((rd_T67 t271 x7_2).f2.f0)) ∧ w'.cell? ⟨(ad277.add ((x7_2).toNat * 5)).block,(ad277.add ((x7_2).toNat * 5)).off + 3,none⟩ = some (.int .i64 ((rd_T67 t271 x7_2).f2.f1)) ∧ w'.cell? ⟨(ad277.add ((x7_2).toNat * 5)).block,(ad277.add ((x7_2).toNat * 5)).off + 4,none⟩ = some (.int .i64 ((rd_T67 t271 x7_2).f3)) ∧ w'.cell? (ad277.add ((x7_2).toNat * 5)) = some (.int .i64 ((rd_T67 t271 x7_2).f0)) ∧ w'.cell? ⟨(ad277.add ((x7_2).toNat * 5)).block,(ad277.add ((x7_2).toNat * 5)).off + 1,none⟩ = some (.int .i64 ((rd_T67 t271 x7_2).f1)) ∧ w'.cell? ⟨(ad277.add ((x7_2).toNat * 5)).block,(ad277.add ((x7_2).toNat * 5)).off + 2,none⟩ = some (.int .i64 ((rd_T67 t271 x7_2).f2.f0)) ∧ w'.cell? ⟨(ad277.add ((x7_2).toNat * 5)).block,(ad277.add ((x7_2).toNat * 5)).off + 3,none⟩ = some (.int .i64 ((rd_T67 t271 x7_2).f2.f1)) ∧ w'.cell? ⟨(ad277.add ((x7_2).toNat * 5)).block,(ad277.add ((x7_2).toNat * 5)).off + 4,none⟩ = some (.int .i64 ((rd_T67 t271 x7_2).f3))) (ds:=[17,18]) b20_0 (by kernel_rfl) rfl rfl ⟨hx277_0,hx277_1,hx277_2,hx277_3,hx277_4,hx278_0,hx278_1,hx278_2,hx278_3,hx278_4,hx279_0,hx279_1,hx279_2,hx279_3,hx279_4⟩ (fun hHeld=>?_);refine with_tabW spec_l2Items.tab11 spec_l2Items.bits11 (fun HT_ HW_=>?_)
         generalize wr.drew = w18 at HO_5 HO_6 HB hx277_0 hx277_1 hx277_2 hx277_3 hx277_4 hx278_0 hx278_1 hx278_2 hx278_3 hx278_4 hx279_0 hx279_1 hx279_2 hx279_3 hx279_4 hHeld ⊢
         refine pure_ (i:=0) (N:=some 43) (v:=?_) (a':=?_) b20_1 rfl rfl (any_of HT_.out (by kernel_rfl)) (fun _ _ _ h=>h) (Or.inl ⟨by rfl,?_⟩) ?_ ?_
         rotate_left
         ·intro w'
          go_simp
          with_reducible rfl
         rotate_left
         ·simp only [Act.put,sA_,sZ_,sS_,i64_w,i32_w]
          rfl
         refine pure_ (i:=1) (N:=some 44) (v:=?_) (a':=?_) b20_2 rfl rfl (any_of HT_.out (by kernel_rfl)) (fun _ _ _ h=>h) (Or.inl ⟨by rfl,?_⟩) ?_ ?_
         rotate_left
         ·intro w'
          go_simp
          with_reducible rfl
         rotate_left
         ·simp only [Act.put,sA_,sZ_,sS_,i64_w,i32_w]
          rfl
         refine pure_ (i:=2) (N:=some 45) (v:=?_) (a':=?_) b20_3 rfl rfl (any_of HT_.out (by kernel_rfl)) (fun _ _ _ h=>h) (Or.inl ⟨by rfl,?_⟩) ?_ ?_
         rotate_left
         ·intro w'
          go_simp
          with_reducible rfl
         rotate_left
         ·simp only [Act.put,sA_,sZ_,sS_,i64_w,i32_w]
          rfl
         refine pure_ (i:=3) (N:=some 46) (v:=?_) (a':=?_) b20_4 rfl rfl (any_of HT_.out (by kernel_rfl)) (fun _ _ _ h=>h) (Or.inl ⟨by rfl,?_⟩) ?_ ?_
         rotate_left
         ·intro w'
          go_simp
          with_reducible rfl
         rotate_left
         ·simp only [Act.put,sA_,sZ_,sS_,i64_w,i32_w]
          rfl
         refine pure_ (i:=4) (N:=some 47) (v:=?_) (a':=?_) b20_5 rfl rfl (any_of HT_.out (by kernel_rfl)) (fun _ _ _ h=>h) (Or.inl ⟨by rfl,?_⟩) ?_ ?_
         rotate_left
         ·intro w'
          go_simp
          with_reducible rfl
         rotate_left
         ·simp only [Act.put,sA_,sZ_,sS_,i64_w,i32_w]
          rfl
         refine pure_ (i:=6) (N:=some 49) (v:=?_) (a':=?_) c102 rfl rfl (any_of HT_.out (by kernel_rfl)) (fun _ _ _ h=>h) (Or.inl ⟨by rfl,?_⟩) ?_ ?_
         rotate_left
         ·intro w'
          go_simp
          with_reducible rfl
         rotate_left
         ·simp only [Act.put,sA_,sZ_,sS_,i64_w,i32_w]
          rfl
         refine pure_ (i:=7) (N:=some 50) (v:=?_) (a':=?_) c103 rfl rfl (any_of HT_.out (by kernel_rfl)) (fun _ _ _ h=>h) (Or.inl ⟨by rfl,?_⟩) ?_ ?_
         rotate_left
         ·intro w'
          go_simp
          with_reducible rfl
         rotate_left
         ·simp only [Act.put,sA_,sZ_,sS_,i64_w,i32_w]
          rfl
         refine pure_ (i:=8) (N:=some 51) (v:=?_) (a':=?_) c104 rfl rfl (any_of HT_.out (by kernel_rfl)) (fun _ _ _ h=>h) (Or.inl ⟨by rfl,?_⟩) ?_ ?_
         rotate_left
         ·intro w'
          go_simp
          with_reducible rfl
         rotate_left
         ·simp only [Act.put,sA_,sZ_,sS_,i64_w,i32_w]
          rfl
         refine pure_ (i:=9) (N:=some 52) (v:=?_) (a':=?_) c105 rfl rfl (any_of HT_.out (by kernel_rfl)) (fun _ _ _ h=>h) (Or.inl ⟨by rfl,?_⟩) ?_ ?_
         rotate_left
         ·intro w'
          go_simp
          with_reducible rfl
         rotate_left
         ·simp only [Act.put,sA_,sZ_,sS_,i64_w,i32_w]
          rfl
         refine pure_ (i:=11) (N:=some 54) (v:=?_) (a':=?_) c106 rfl rfl (any_of HT_.out (by kernel_rfl)) (fun _ _ _ h=>h) (Or.inl ⟨by rfl,?_⟩) ?_ ?_
         rotate_left
         ·intro w'
          go_simp
          with_reducible rfl
         rotate_left
         ·simp only [Act.put,sA_,sZ_,sS_,i64_w,i32_w]
          rfl
         refine pure_ (i:=12) (N:=some 55) (v:=?_) (a':=?_) c107 rfl rfl (any_of HT_.out (by kernel_rfl)) (fun _ _ _ h=>h) (Or.inl ⟨by rfl,?_⟩) ?_ ?_
         rotate_left
         ·intro w'
          go_simp
          with_reducible rfl
         rotate_left
         ·simp only [Act.put,sA_,sZ_,sS_,i64_w,i32_w]
          rfl
         refine pure_ (i:=13) (N:=some 56) (v:=?_) (a':=?_) c108 rfl rfl (any_of HT_.out (by kernel_rfl)) (fun _ _ _ h=>h) (Or.inl ⟨by rfl,?_⟩) ?_ ?_
         rotate_left
         ·intro w'
          go_simp
          with_reducible rfl
         rotate_left
         ·simp only [Act.put,sA_,sZ_,sS_,i64_w,i32_w]
          rfl
         refine pure_ (i:=14) (N:=some 57) (v:=?_) (a':=?_) c109 rfl rfl (any_of HT_.out (by kernel_rfl)) (fun _ _ _ h=>h) (Or.inl ⟨by rfl,?_⟩) ?_ ?_
         rotate_left
         ·intro w'
          go_simp
          with_reducible rfl
         rotate_left
         ·simp only [Act.put,sA_,sZ_,sS_,i64_w,i32_w]
          rfl
         refine take_ (i:=5) (N:=some 48) (v:=?_) (a':=?_) c110 rfl rfl (take_ofW HT_.out HW_.out (by kernel_rfl)) (fun _ _ _ h=>h) (Or.inl ⟨by rfl,?_⟩) hHeld ?_ ?_
         rotate_left
         ·rintro w' ⟨s0,s1,s2,s3,s4,s5,s6,s7,s8,s9,s10,s11,s12,s13,s14⟩
          go_simp
          with_reducible rfl
         rotate_left
         ·simp only [Act.put,sA_,sZ_,sS_,i64_w,i32_w]
          rfl
         refine take_ (i:=10) (N:=some 53) (v:=?_) (a':=?_) b20_15 rfl rfl (take_ofW HT_.out HW_.out (by kernel_rfl)) (fun _ _ _ h=>h) (Or.inl ⟨by rfl,?_⟩) hHeld ?_ ?_
         rotate_left
         ·rintro w' ⟨s0,s1,s2,s3,s4,s5,s6,s7,s8,s9,s10,s11,s12,s13,s14⟩
          go_simp
          with_reducible rfl
         rotate_left
         ·simp only [Act.put,sA_,sZ_,sS_,i64_w,i32_w]
          rfl
         refine take_ (i:=15) (N:=some 58) (v:=?_) (a':=?_) b20_16 rfl rfl (take_ofW HT_.out HW_.out (by kernel_rfl)) (fun _ _ _ h=>h) (Or.inl ⟨by rfl,?_⟩) hHeld ?_ ?_
         rotate_left
         ·rintro w' ⟨s0,s1,s2,s3,s4,s5,s6,s7,s8,s9,s10,s11,s12,s13,s14⟩
          go_simp
          with_reducible rfl
         rotate_left
         ·simp only [Act.put,sA_,sZ_,sS_,i64_w,i32_w]
          rfl
         refine pure_ (i:=16) (N:=some 59) (v:=?_) (a':=?_) b20_17 rfl rfl (any_of HT_.out (by kernel_rfl)) (fun _ _ _ h=>h) (Or.inl ⟨by rfl,?_⟩) ?_ ?_
         rotate_left
         ·intro w'
          go_simp
          with_reducible rfl
         rotate_left
         ·simp only [Act.put,sA_,sZ_,sS_,i64_w,i32_w]
          rfl
         refine last_ (i:=17) (N:=some 60) b20_18 rfl rfl (one_of HT_.out (by kernel_rfl)) (by decide) (fun K hK=>?_)
         refine value_ (w1:=?_) (v:=?_) (by rfl) rfl ?_ ?_
         rotate_left 2
         ·go_simp
          constructor
          ·rfl
          ·rfl
         refine hK.out _ _ ?_
         clear hK K
         refine norm_ (a':=?_) ?_ ?_
         rotate_left
         ·show Act.put _ (some 60) _ = _
          simp only [Act.put,sA_,sZ_,sS_,i64_w,i32_w]
          rfl
         refine last_ (i:=18) (N:=some 61) b20_19 rfl rfl (one_of HT_.out (by kernel_rfl)) (by decide) (fun K hK=>?_)
         refine Kd.R_append_step k60 (w0:=w) w.heap.size (by rfl) (.tmp 43) (.tmp 60) 36 60 (.agg #[(.int .i64 0),(.int .i64 0),(.int .i64 0)]) 24 rfl Try.underlying36 info60 rfl (by decide) (by omega) u6 x6_2 (⟨(rd_T67 t271 x7_2).f0,(rd_T67 t271 x7_2).f1,(rd_T67 t271 x7_2).f3⟩ : S60) [.int .i64 ((rd_T67 t271 x7_2).f0),.int .i64 ((rd_T67 t271 x7_2).f1),.int .i64 ((rd_T67 t271 x7_2).f3)] (fun _=>True) (fun _=>False) rfl rfl ?aP (fun _ hk=>hk.elim) ?aF ?aO ?aB ?aS ?aL ?_
         (case aP=>exact k60_mkM _ _ _ (⟨(rd_T67 t271 x7_2).f0,(rd_T67 t271 x7_2).f1,(rd_T67 t271 x7_2).f3⟩ : S60))
         (case aB=>exact (by repeat (first|(with_reducible first|exact HB.out|apply below_alloc|apply pw_below_drewN|apply below_drew1)|exact HB.out)))
         (case aF=>exact (fun _ _=>trivial))
         (case aO=>exact (by (with_reducible repeat (first|apply Kd.R_alloc|apply Kd.R_drewN|apply Kd.R_drew));exact HO_6.out))
         (case aS=>exact (below_size (by repeat (first|(with_reducible first|exact HB.out|apply below_alloc|apply pw_below_drewN|apply below_drew1)|exact HB.out))))
         (case aL=>have:=LMc16.out;omega)
         intro v281 w19 ho hb hg hat
         rw [← Ny280.out] at ho
         have n0_:=Aside0.mk (Kd.R_over' (by (with_reducible repeat (first|apply Kd.R_alloc|apply Kd.R_drewN|apply Kd.R_drew));exact HO_5.out) (Kd.R_typed (by (with_reducible repeat (first|apply Kd.R_alloc|apply Kd.R_drewN|apply Kd.R_drew));exact HO_6.out)) (by decide) hg)
         have n1_:=Aside0.mk (hb)
         have n2_:=Aside0.mk (ho)
         clear HO_5
         clear HB
         clear HO_6
         have HO_5:=n0_
         have HB:=n1_
         have HO282:=n2_
         clear n0_ n1_ n2_
         clear ho hb hg hat
         refine hK.out _ _ ?_
         clear hK K
         refine norm_ (a':=?_) ?_ ?_
         rotate_left
         ·show Act.put _ (some 61) _ = _
          simp only [Act.put,sA_,sZ_,sS_,i64_w,i32_w]
          rfl
         refine pure_ (i:=19) (N:=some 6) (v:=?_) (a':=?_) b20_20 rfl rfl (any_of HT_.out (by kernel_rfl)) (fun _ _ _ h=>h) (Or.inl ⟨by rfl,?_⟩) ?_ ?_
         rotate_left
         ·intro w'
          go_simp
          with_reducible rfl
         rotate_left
         ·simp only [Act.put,sA_,sZ_,sS_,i64_w,i32_w]
          rfl
         refine done_ (done_of HT_.out (by kernel_rfl)) ?_
         try go_wp2
         go_roundg k2
         case measure=>have:=HK1.out;have:=HK2.out;omega
         case rel=>exact ⟨(y280),(wrap64 (x7_2 + 1)),(by first|rfl|(simp;done)|(simp [*];done)),H',⟨by have:=HK1.out;have:=HK2.out;omega⟩,⟨by (with_reducible repeat (first|apply Kd.R_alloc|apply Kd.R_drewN|apply Kd.R_drew));exact HO_5.out⟩,⟨by (with_reducible repeat (first|apply Kd.R_alloc|apply Kd.R_drewN|apply Kd.R_drew));exact HO282.out⟩,⟨by repeat (first|(with_reducible first|exact HB.out|apply below_alloc|apply pw_below_drewN|apply below_drew1)|exact HB.out)⟩⟩
        ·rw [if_neg c16] at H
         exact absurd H (by simp)
       ·rw [if_neg c15] at H
        exact absurd H (by simp)
      ·rw [if_neg c14] at H
       have c14b0 : decide (x7_2 < (t271.length : Int)) = false:=decide_eq_false c14
       clear c14
       obtain rfl:=Option.some.inj H
       obtain ⟨Ao20,co20,eo20⟩:=Kd.R_slice HO_5.out
       subst eo20
       go_wp2
       go_ret
       exact ⟨_,by first|rfl|(simp [errW_none,errW_some] <;> rfl)|(simp [*,errW_none,errW_some] <;> rfl),by (with_reducible repeat (first|apply Kd.R_alloc|apply Kd.R_drewN|apply Kd.R_drew));exact HO_6.out,by repeat (first|(with_reducible first|exact HB.out|apply below_alloc|apply pw_below_drewN|apply below_drew1)|exact HB.out)⟩
mutual
def spec_BatchAt.j0 : Nat → List (S67) → List (S60) → Bool → Int → Int → Option ((List (S60)))
 | 0, _, _, _, _, _ => none
 | k + 1, x0, x5, x15, x284000, x284001 => if x15 = true then (some x5) else (spec_BatchAt.l0 k x0 x5 0 x284000 x284001)
def spec_BatchAt.l0 : Nat → List (S67) → List (S60) → Int → Int → Int → Option ((List (S60)))
 | 0, _, _, _, _, _ => none
 | k + 1, x0, x5, x6, x284000, x284001 => if x6 < (x0.length : Int) then (if 0 ≤ x6 then ((spec_TimeLess.f ((rd_T67 x0 x6).f2.f0) ((rd_T67 x0 x6).f2.f1) x284000 x284001).bind fun t290 => (if t290 = true then (if x5.length < 5864062014805 then (spec_BatchAt.l0 k x0 (x5 ++ [(⟨(rd_T67 x0 x6).f0, (rd_T67 x0 x6).f1, (rd_T67 x0 x6).f3⟩ : S60)]) (wrap64 (x6 + 1)) x284000 x284001) else (none)) else (spec_BatchAt.l0 k x0 x5 (wrap64 (x6 + 1)) x284000 x284001))) else (none)) else ((spec_l2Items.f k x5).bind fun t297 => (some t297))
end
def spec_BatchAt.f (k : Nat) (l0 : List (S67)) (a1_0 : Int) (a1_1 : Int) : Option ((List (S60))) := (some (([] : List (S60)) : List (S60))).bind fun y284 => ((spec_RowsOk.f k l0).bind fun t287 => (if t287 = true then ((spec_TimeOk.f a1_0 a1_1).bind fun t288 => (spec_BatchAt.j0 k l0 y284 (!t288) a1_0 a1_1)) else (spec_BatchAt.j0 k l0 y284 true a1_0 a1_1)))
theorem spec_BatchAt.mono_l : ∀ k,(∀ y0 y1 y2 y3 y4,LeO (spec_BatchAt.j0 k y0 y1 y2 y3 y4) (spec_BatchAt.j0 (k + 1) y0 y1 y2 y3 y4)) ∧ (∀ y0 y1 y2 y3 y4,LeO (spec_BatchAt.l0 k y0 y1 y2 y3 y4) (spec_BatchAt.l0 (k + 1) y0 y1 y2 y3 y4))
 | 0=>⟨fun _ _ _ _ _ r h=>by simp [spec_BatchAt.j0] at h,fun _ _ _ _ _ r h=>by simp [spec_BatchAt.l0] at h⟩
 | k + 1=>by
  obtain ⟨ih0,ih1⟩:=spec_BatchAt.mono_l k
  refine ⟨?_,?_⟩
  ·intro y0 y1 y2 y3 y4
   unfold spec_BatchAt.j0
   repeat' first
   | (with_reducible exact ih0 _ _ _ _ _)
   | (with_reducible exact ih1 _ _ _ _ _)
   | (with_reducible exact spec_RowsOk.mono _ _)
   | (with_reducible exact spec_l2Items.mono _ _)
   | (with_reducible exact LeO.refl _)
   | (with_reducible exact LeO.none _)
   | (with_reducible refine LeO.ite ?_ ?_)
   | (with_reducible refine LeO.bind ?_ (fun _=>?_))
   | exact ih0 _ _ _ _ _
   | exact ih1 _ _ _ _ _
   | exact spec_RowsOk.mono _ _
   | exact spec_l2Items.mono _ _
   | exact LeO.none _
   | refine LeO.ite ?_ ?_
   | refine LeO.bind ?_ (fun _=>?_)
  ·intro y0 y1 y2 y3 y4
   unfold spec_BatchAt.l0
   repeat' first
   | (with_reducible exact ih0 _ _ _ _ _)
   | (with_reducible exact ih1 _ _ _ _ _)
   | (with_reducible exact spec_RowsOk.mono _ _)
   | (with_reducible exact spec_l2Items.mono _ _)
   | (with_reducible exact LeO.refl _)
   | (with_reducible exact LeO.none _)
   | (with_reducible refine LeO.ite ?_ ?_)
   | (with_reducible refine LeO.bind ?_ (fun _=>?_))
   | exact ih0 _ _ _ _ _
   | exact ih1 _ _ _ _ _
   | exact spec_RowsOk.mono _ _
   | exact spec_l2Items.mono _ _
   | exact LeO.none _
   | refine LeO.ite ?_ ?_
   | refine LeO.bind ?_ (fun _=>?_)
theorem spec_BatchAt.mono : ∀ a0 a1 a2 k,LeO (spec_BatchAt.f k a0 a1 a2) (spec_BatchAt.f (k + 1) a0 a1 a2):=by
 intro a0 a1 a2 k
 obtain ⟨ih0,ih1⟩:=spec_BatchAt.mono_l k
 unfold spec_BatchAt.f
 repeat' first
   | (with_reducible exact ih0 _ _ _ _ _)
   | (with_reducible exact ih1 _ _ _ _ _)
   | (with_reducible exact spec_RowsOk.mono _ _)
   | (with_reducible exact spec_l2Items.mono _ _)
   | (with_reducible exact LeO.refl _)
   | (with_reducible exact LeO.none _)
   | (with_reducible refine LeO.ite ?_ ?_)
   | (with_reducible refine LeO.bind ?_ (fun _=>?_))
   | exact ih0 _ _ _ _ _
   | exact ih1 _ _ _ _ _
   | exact spec_RowsOk.mono _ _
   | exact spec_l2Items.mono _ _
   | exact LeO.none _
   | refine LeO.ite ?_ ?_
   | refine LeO.bind ?_ (fun _=>?_)
def spec_BatchAt.T8 : Bool × List (List Nat × List Nat) := (true, [([], []), ([], []), ([], []), ([1, 2], [1, 2]), ([3], [3]), ([4], [4]), ([], []), ([], []), ([6, 7], [6, 7]), ([8], [8]), ([9], [9]), ([], []), ([], []), ([11, 12], [11, 12]), ([13], [13]), ([14], [14]), ([5, 10, 15], [5, 10, 15]), ([16], [16]), ([0, 17], [0, 17]), ([18, 18, 0, 1, 2, 3, 4, 5, 6, 7, 8, 9, 10, 11, 12, 13, 14, 15, 16, 17, 18], [0, 18])])
def spec_BatchAt.B8 : List Nat := [0, 0, 0, 6, 14, 30, 0, 0, 192, 448, 960, 0, 0, 6144, 14336, 30720, 65534, 131070, 262143, 524287]
theorem spec_BatchAt.tab8 : rtab .any (opsOf Try.f91 8) = spec_BatchAt.T8:=by kernel_rfl
theorem spec_BatchAt.bits8 : waitsOk spec_BatchAt.T8.2 spec_BatchAt.B8 = true:=by kernel_rfl
set_option maxHeartbeats 8000000 in
set_option maxRecDepth 100000 in
theorem spec_BatchAt.calls (k : Nat) (A0 : Option Addr) (c0 : Nat) (l0 : List (S67)) (a1_0 : Int) (a1_1 : Int) (r : List (S60)) (w : World) (hr0 : Kd.C k67 w A0 l0.length l0) (hc0 : l0.length ≤ c0) (h : spec_BatchAt.f k l0 a1_0 a1_1 = some r) :
  Calls Try.prog 91 #[.slice A0 l0.length c0,.agg #[.int .i64 a1_0,.int .i64 a1_1]] w fun e w'=>∃ v0_ : Value,e = .returned (v0_) ∧ Kd.R k60 60 w' w.heap.size (fun _=>True) v0_ r ∧ Below w.heap.size w w':=by
 have hu26:=Try.underlying26
 have hu60:=Try.underlying60
 have HR0:=Aside0.mk hr0
 have HC0:=Aside0.mk hc0
 clear hr0 hc0
 have HB:=Aside0.mk (Below.refl w.heap.size w)
 have H : ((some (([] : List (S60)) : List (S60))).bind fun y284=>((spec_RowsOk.f k l0).bind fun t287=>(if t287 = true then ((spec_TimeOk.f a1_0 a1_1).bind fun t288=>(spec_BatchAt.j0 k l0 y284 (!t288) a1_0 a1_1)) else (spec_BatchAt.j0 k l0 y284 true a1_0 a1_1)))) = some r:=h
 clear h
 obtain ⟨y284,hy284⟩ : ∃ y_ : List (S60),y_ = (([] : List (S60))):=⟨_,rfl⟩
 replace H : ((spec_RowsOk.f k l0).bind fun t287=>(if t287 = true then ((spec_TimeOk.f a1_0 a1_1).bind fun t288=>(spec_BatchAt.j0 k l0 y284 (!t288) a1_0 a1_1)) else (spec_BatchAt.j0 k l0 y284 true a1_0 a1_1))) = some r:=by first|(rw [hy284];with_reducible exact H)|(have H2_:=(Option.bind_some _ _).symm.trans H;rw [hy284];with_reducible exact H2_)|(have H2_:=(Option.bind_some _ _).symm.trans H;with_reducible exact H2_)|with_reducible exact H|(rw [hy284];exact H)|exact H
 have Ny284:=Aside0.mk hy284
 clear hy284
 have HC3:=Aside0.mk H
 clear H
 go_enter Try.func91,Try.ntmps91
 go_upto_region 2 with (first|((with_reducible refine gate_dst (N:=3) rfl ?_);refine box_event ?hg (N:=3) ?hd (cs:=#[.int .i64 a1_0,.int .i64 a1_1]) (t:=26) ?hr ?_;(case hd=>rfl);(case hg=>rfl);(case hr=>first|(go_simp;done)|(go_simp;rfl));intro gb283 hg w4 hbox hb;have n0_:=Aside0.mk (below_step (by repeat (first|(with_reducible first|exact HB.out|apply below_alloc|apply pw_below_drewN|apply below_drew1)|exact HB.out)) hb);have n1_:=Aside0.mk (hbox);have n2_:=Aside0.mk ((by rw [hg];exact (below_size (by repeat (first|(with_reducible first|exact HB.out|apply below_alloc|apply pw_below_drewN|apply below_drew1)|exact HB.out))) : w.heap.size ≤ gb283));have n3_:=n2_;clear HB;have HB:=n0_;have BK283:=n1_;have GW283:=n2_;have GE283:=n3_;clear n0_ n1_ n2_ n3_;clear hb hbox hg)|((with_reducible refine gate_dst (N:=7) rfl ?_);refine Kd.R_lit k60 _ 60 ?hg (N:=7) ?hd (xs:=([] : List (S60))) (inner:=[]) (ok:=fun _=>True) (okp:=fun _=>True) ?hr ?hp (fun _ hk=>hk) trivial (Below.refl _ _) (Nat.le_refl _) (by simp) ?_;(case hd=>rfl);(case hg=>rfl);(case hr=>first|(go_simp;done)|(go_simp;rfl));(case hp=>exact (Reps.none _ _));intro v285 w5 ho6 hb hg_ hnew_;clear hg_ hnew_;(first|rw [← Ny284.out] at ho6|(simp only [Int.reduceToNat] at ho6;rw [← Ny284.out] at ho6));have n0_:=Aside0.mk (Kd.R_lower ho6 (below_size (by repeat (first|(with_reducible first|exact HB.out|apply below_alloc|apply pw_below_drewN|apply below_drew1|refine below_set ?_ GE283.out)|exact HB.out))));have n1_:=Aside0.mk (blk_below (g:=gb283) (o:=.cells #[.int .i64 a1_0,.int .i64 a1_1] 26 (0,0)) (by (with_reducible repeat (first|refine blk_drewN ?_ _|refine blk_drew ?_|refine blk_alloc ?_ _));exact BK283.out) hb);have n2_:=Aside0.mk (below_step (by repeat (first|(with_reducible first|exact HB.out|apply below_alloc|apply pw_below_drewN|apply below_drew1|refine below_set ?_ GE283.out)|exact HB.out)) hb);clear BK283;clear HB;have HO286:=n0_;have BK283:=n1_;have HB:=n2_;clear n0_ n1_ n2_;clear hb ho6))
 (try simp only [Act.put,sA_,sZ_,sS_])
 go_cut [15] (fun v15 wc=>∃ (kq : Nat) (x15_2 : Bool),v15 = .bool x15_2 ∧ Aside0 (spec_BatchAt.j0 kq l0 y284 x15_2 a1_0 a1_1 = some r) ∧ Aside0 (kq ≤ k) ∧ Aside0 (Kd.R k60 60 wc w.heap.size (fun _=>True) v285 y284) ∧ Aside0 (wc.heap[gb283]? = some (.cells #[.int .i64 a1_0,.int .i64 a1_1] 26 (0,0))) ∧ Aside0 (Below w.heap.size w wc))
 case first =>
  have H:=HC3.out
  clear HC3
  replace H:=Option.bind_eq_some_iff.mp H
  obtain ⟨t287,A70,H⟩:=H
  replace H : (if t287 = true then ((spec_TimeOk.f a1_0 a1_1).bind fun t288=>(spec_BatchAt.j0 k l0 y284 (!t288) a1_0 a1_1)) else (spec_BatchAt.j0 k l0 y284 true a1_0 a1_1)) = some r:=H
  have A7:=Aside0.mk A70
  clear A70
  by_cases c8 : t287 = true
  ·subst c8
   have H1 : ((spec_TimeOk.f a1_0 a1_1).bind fun t288=>(spec_BatchAt.j0 k l0 y284 (!t288) a1_0 a1_1)) = some r:=by rw [if_pos rfl] at H;exact H
   clear H
   have H:=H1
   clear H1
   replace H:=Option.bind_eq_some_iff.mp H
   obtain ⟨t288,A90,H⟩:=H
   replace H : (spec_BatchAt.j0 k l0 y284 (!t288) a1_0 a1_1) = some r:=H
   have A9:=Aside0.mk A90
   clear A90
   have H':=Aside0.mk H
   clear H
   go_wp2_with (first|((with_reducible refine gate_callee (f:=63) rfl ?_);refine goesL_ (some 9) rfl rfl Try.func63 (by kernel_rfl) rfl #[.slice A0 l0.length c0] rfl (by (try simp only [List.map_toArray,List.map_cons,List.map_nil]);first|done|rfl|(simp only [List.length_drop,List.length_take];rfl)) ?_;(with_reducible refine (spec_RowsOk.calls k _ _ l0 true _ ?side1 ?side2 A7.out).mono ?_);(case side1=>repeat (first|exact (Kd.C_below HR0.out HB.out)|(with_reducible refine Kd.C_alloc ?_ _)|(with_reducible refine Kd.C_drewN ?_ _)|(with_reducible refine Kd.C_drew ?_)));(case side2=>exact HC0.out);rintro e w10 ⟨rfl,hb⟩;refine ⟨_,rfl,?_⟩;have n0_:=Aside0.mk (Kd.R_below (by (with_reducible repeat (first|apply Kd.R_alloc|apply Kd.R_drewN|apply Kd.R_drew));exact HO286.out) hb);have n1_:=Aside0.mk (blk_below (g:=gb283) (o:=.cells #[.int .i64 a1_0,.int .i64 a1_1] 26 (0,0)) (by (with_reducible repeat (first|refine blk_drewN ?_ _|refine blk_drew ?_|refine blk_alloc ?_ _));exact BK283.out) hb);have n2_:=Aside0.mk (below_step (by repeat (first|(with_reducible first|exact HB.out|apply below_alloc|apply pw_below_drewN|apply below_drew1|refine below_set ?_ GE283.out)|exact HB.out)) hb);clear HO286;clear BK283;clear HB;have HO286:=n0_;have BK283:=n1_;have HB:=n2_;clear n0_ n1_ n2_;(try clear hb);(try clear hb2);(try clear hk);(try clear hi);have hcz11_0 : w10.cell? ⟨gb283,0,none⟩ = some (.int .i64 a1_0):=(blk_cell BK283.out 0).trans rfl;have hcz11_1 : w10.cell? ⟨gb283,1,none⟩ = some (.int .i64 a1_1):=(blk_cell BK283.out 1).trans rfl;have hfz11_0:=blk_frozen BK283.out 0;have hfz11_1:=blk_frozen BK283.out 1)|(go_at_call 48;(with_reducible refine (spec_TimeOk.calls a1_0 a1_1 t288 _ A9.out).mono ?_);rintro e w12 ⟨rfl,hb⟩;have n0_:=Aside0.mk (Kd.R_below (by (with_reducible repeat (first|apply Kd.R_alloc|apply Kd.R_drewN|apply Kd.R_drew));exact HO286.out) hb);have n1_:=Aside0.mk (blk_below (g:=gb283) (o:=.cells #[.int .i64 a1_0,.int .i64 a1_1] 26 (0,0)) (by (with_reducible repeat (first|refine blk_drewN ?_ _|refine blk_drew ?_|refine blk_alloc ?_ _));exact BK283.out) hb);have n2_:=Aside0.mk (below_step (by repeat (first|(with_reducible first|exact HB.out|apply below_alloc|apply pw_below_drewN|apply below_drew1|refine below_set ?_ GE283.out)|exact HB.out)) hb);clear HO286;clear BK283;clear HB;have HO286:=n0_;have BK283:=n1_;have HB:=n2_;clear n0_ n1_ n2_;(try clear hb);(try clear hb2);(try clear hk);(try clear hi)))
   go_meet
   case rel=>exact ⟨_,(!t288),(by first|rfl|(simp;done)|(simp [*];done)),H',⟨by first|omega|exact Nat.le_refl _⟩,⟨by (with_reducible repeat (first|apply Kd.R_alloc|apply Kd.R_drewN|apply Kd.R_drew));exact HO286.out⟩,⟨by (with_reducible repeat (first|refine blk_drewN ?_ _|refine blk_drew ?_|refine blk_alloc ?_ _));exact BK283.out⟩,⟨by repeat (first|(with_reducible first|exact HB.out|apply below_alloc|apply pw_below_drewN|apply below_drew1|refine below_set ?_ GE283.out)|exact HB.out)⟩⟩
  ·replace c8:=Bool.eq_false_iff.mpr c8
   subst c8
   have H1 : (spec_BatchAt.j0 k l0 y284 true a1_0 a1_1) = some r:=by rw [if_neg (show ¬ (false = true) by decide)] at H;exact H
   clear H
   have H:=H1
   clear H1
   have H':=Aside0.mk H
   clear H
   go_wp2_with (first|((with_reducible refine gate_callee (f:=63) rfl ?_);refine goesL_ (some 9) rfl rfl Try.func63 (by kernel_rfl) rfl #[.slice A0 l0.length c0] rfl (by (try simp only [List.map_toArray,List.map_cons,List.map_nil]);first|done|rfl|(simp only [List.length_drop,List.length_take];rfl)) ?_;(with_reducible refine (spec_RowsOk.calls k _ _ l0 false _ ?side1 ?side2 A7.out).mono ?_);(case side1=>repeat (first|exact (Kd.C_below HR0.out HB.out)|(with_reducible refine Kd.C_alloc ?_ _)|(with_reducible refine Kd.C_drewN ?_ _)|(with_reducible refine Kd.C_drew ?_)));(case side2=>exact HC0.out);rintro e w13 ⟨rfl,hb⟩;refine ⟨_,rfl,?_⟩;have n0_:=Aside0.mk (Kd.R_below (by (with_reducible repeat (first|apply Kd.R_alloc|apply Kd.R_drewN|apply Kd.R_drew));exact HO286.out) hb);have n1_:=Aside0.mk (blk_below (g:=gb283) (o:=.cells #[.int .i64 a1_0,.int .i64 a1_1] 26 (0,0)) (by (with_reducible repeat (first|refine blk_drewN ?_ _|refine blk_drew ?_|refine blk_alloc ?_ _));exact BK283.out) hb);have n2_:=Aside0.mk (below_step (by repeat (first|(with_reducible first|exact HB.out|apply below_alloc|apply pw_below_drewN|apply below_drew1|refine below_set ?_ GE283.out)|exact HB.out)) hb);clear HO286;clear BK283;clear HB;have HO286:=n0_;have BK283:=n1_;have HB:=n2_;clear n0_ n1_ n2_;(try clear hb);(try clear hb2);(try clear hk);(try clear hi)))
   go_meet
   case rel=>exact ⟨_,(true),(by first|rfl|(simp;done)|(simp [*];done)),H',⟨by first|omega|exact Nat.le_refl _⟩,⟨by (with_reducible repeat (first|apply Kd.R_alloc|apply Kd.R_drewN|apply Kd.R_drew));exact HO286.out⟩,⟨by (with_reducible repeat (first|refine blk_drewN ?_ _|refine blk_drew ?_|refine blk_alloc ?_ _));exact BK283.out⟩,⟨by repeat (first|(with_reducible first|exact HB.out|apply below_alloc|apply pw_below_drewN|apply below_drew1|refine below_set ?_ GE283.out)|exact HB.out)⟩⟩
 case rest =>
  clear HC3
  try clear p2
  try clear c6
  try clear c8
  try clear c9
  try clear hcz11_0
  try clear hcz11_1
  try clear hfz11_0
  try clear hfz11_1
  obtain ⟨kq,x15_2,rfl,HA,HJ2,HO_5,BK283,HB⟩:=hcut
  cases kq with
  | zero=>exact absurd HA.out (by simp [spec_BatchAt.j0])
  | succ kj2 =>
   have H:=HA.out
   clear HA
   simp only [spec_BatchAt.j0] at H
   by_cases c14 : x15_2 = true
   ·subst c14
    have H1 : (some y284) = some r:=by rw [if_pos rfl] at H;exact H
    clear H
    have H:=H1
    clear H1
    obtain rfl:=Option.some.inj H
    go_wp2
    go_ret
    exact ⟨_,by first|rfl|(simp [errW_none,errW_some] <;> rfl)|(simp [*,errW_none,errW_some] <;> rfl),by (with_reducible repeat (first|apply Kd.R_alloc|apply Kd.R_drewN|apply Kd.R_drew));exact HO_5.out,by repeat (first|(with_reducible first|exact HB.out|apply below_alloc|apply pw_below_drewN|apply below_drew1|refine below_set ?_ GE283.out)|exact HB.out)⟩
   ·replace c14:=Bool.eq_false_iff.mpr c14
    subst c14
    have H1 : (spec_BatchAt.l0 kj2 l0 y284 0 a1_0 a1_1) = some r:=by rw [if_neg (show ¬ (false = true) by decide)] at H;exact H
    clear H
    have H:=H1
    clear H1
    have H':=Aside0.mk H
    clear H
    go_wp2
    go_loopg [5,6] kj2 (fun kq v5 v6 w'=>∃ (x5_2 : List (S60)) (x6_2 : Int),v6 = .int .i64 x6_2 ∧ Aside0 (spec_BatchAt.l0 kq l0 x5_2 x6_2 a1_0 a1_1 = some r) ∧ Aside0 (kq ≤ kj2) ∧ Aside0 (Kd.R k60 60 w' w.heap.size (fun _=>True) v5 x5_2) ∧ Aside0 (w'.heap[gb283]? = some (.cells #[.int .i64 a1_0,.int .i64 a1_1] 26 (0,0))) ∧ Aside0 (Below w.heap.size w w'))
    case atStart=>exact ⟨(y284),(0),(by first|rfl|(simp;done)|(simp [*];done)),H',⟨Nat.le_refl _⟩,⟨by (with_reducible repeat (first|apply Kd.R_alloc|apply Kd.R_drewN|apply Kd.R_drew));exact HO_5.out⟩,⟨by (with_reducible repeat (first|refine blk_drewN ?_ _|refine blk_drew ?_|refine blk_alloc ?_ _));exact BK283.out⟩,⟨by repeat (first|(with_reducible first|exact HB.out|apply below_alloc|apply pw_below_drewN|apply below_drew1|refine below_set ?_ GE283.out)|exact HB.out)⟩⟩
    case round =>
     clear H'
     try clear c1
     try clear p2
     try clear c6
     try clear c8
     try clear c9
     try clear c14
     try clear hcz11_0
     try clear hcz11_1
     try clear hfz11_0
     try clear hfz11_1
     try clear p2
     obtain ⟨x5_2,x6_2,rfl,HA,HK2,HO_5,BK283,HB⟩:=hrel
     cases gk with
     | zero=>exact absurd HA.out (by simp [spec_BatchAt.l0])
     | succ k2 =>
      have H:=HA.out
      clear HA
      simp only [spec_BatchAt.l0] at H
      by_cases c15 : x6_2 < (l0.length : Int)
      ·rw [if_pos c15] at H
       have c15b0 : decide (x6_2 < (l0.length : Int)) = true:=decide_eq_true c15
       clear c15
       by_cases c16 : 0 ≤ x6_2
       ·rw [if_pos c16] at H
        have c16b0 : decide (0 ≤ x6_2) = true:=decide_eq_true c16
        clear c16
        replace H:=Option.bind_eq_some_iff.mp H
        obtain ⟨t290,A170,H⟩:=H
        replace H : (if t290 = true then (if x5_2.length < 5864062014805 then (spec_BatchAt.l0 k2 l0 (x5_2 ++ [(⟨(rd_T67 l0 x6_2).f0,(rd_T67 l0 x6_2).f1,(rd_T67 l0 x6_2).f3⟩ : S60)]) (wrap64 (x6_2 + 1)) a1_0 a1_1) else (none)) else (spec_BatchAt.l0 k2 l0 x5_2 (wrap64 (x6_2 + 1)) a1_0 a1_1)) = some r:=H
        have A17:=Aside0.mk A170
        clear A170
        by_cases c18 : t290 = true
        ·subst c18
         have H1 : (if x5_2.length < 5864062014805 then (spec_BatchAt.l0 k2 l0 (x5_2 ++ [(⟨(rd_T67 l0 x6_2).f0,(rd_T67 l0 x6_2).f1,(rd_T67 l0 x6_2).f3⟩ : S60)]) (wrap64 (x6_2 + 1)) a1_0 a1_1) else (none)) = some r:=by rw [if_pos rfl] at H;exact H
         clear H
         have H:=H1
         clear H1
         by_cases c19 : x5_2.length < 5864062014805
         ·rw [if_pos c19] at H
          have LMc19:=Aside0.mk c19
          clear c19
          obtain ⟨y294,hy294⟩ : ∃ y_ : List (S60),y_ = (x5_2 ++ [(⟨(rd_T67 l0 x6_2).f0,(rd_T67 l0 x6_2).f1,(rd_T67 l0 x6_2).f3⟩ : S60)]):=⟨_,rfl⟩
          replace H : (spec_BatchAt.l0 k2 l0 y294 (wrap64 (x6_2 + 1)) a1_0 a1_1) = some r:=by first|(rw [hy294];with_reducible exact H)|(have H2_:=(Option.bind_some _ _).symm.trans H;rw [hy294];with_reducible exact H2_)|(have H2_:=(Option.bind_some _ _).symm.trans H;with_reducible exact H2_)|with_reducible exact H|(rw [hy294];exact H)|exact H
          have Ny294:=Aside0.mk hy294
          clear hy294
          have H':=Aside0.mk H
          clear H
          try go_wp2
          have n0_:=Aside0.mk (Kd.R_drew HO_5.out)
          have n1_:=Aside0.mk (blk_drew BK283.out)
          have n2_:=Aside0.mk (below_drew1 HB.out)
          clear HO_5
          clear BK283
          clear HB
          have HO_5:=n0_
          have BK283:=n1_
          have HB:=n2_
          clear n0_ n1_ n2_
          have p289 : 0 ≤ (x6_2 : Int):=of_decide_eq_true (by first|(with_reducible assumption)|assumption)
          have q289 : x6_2 < (l0.length : Int):=of_decide_eq_true (by first|(with_reducible assumption)|assumption)
          obtain ⟨ad289,e289,hx289_0,hx289_1,hx289_2,hx289_3,hx289_4⟩:=at_T67 HR0.out x6_2 p289 q289
          have hw289_4:=hx289_4
          have hw289_3:=hx289_3
          have hw289_2:=hx289_2
          have hw289_1:=hx289_1
          have hw289_0:=hx289_0
          cases e289
          replace hx289_0:=(HB.out.cell (bl_ w _ hx289_0)).trans hx289_0
          replace hx289_1:=(HB.out.cell (bl_ w _ hx289_1)).trans hx289_1
          replace hx289_2:=(HB.out.cell (bl_ w _ hx289_2)).trans hx289_2
          replace hx289_3:=(HB.out.cell (bl_ w _ hx289_3)).trans hx289_3
          replace hx289_4:=(HB.out.cell (bl_ w _ hx289_4)).trans hx289_4
          replace p289:=eq_true p289
          replace q289:=eq_true q289
          refine start_ (n:=7) (S:=fun w'=>w'.cell? ⟨gb283,0,none⟩ = some (.int .i64 a1_0) ∧ w'.cell? ⟨gb283,1,none⟩ = some (.int .i64 a1_1) ∧ w'.cell? (ad289.add ((x6_2).toNat * 5)) = some (.int .i64 ((rd_T67 l0 x6_2).f0)) ∧ w'.cell? ⟨(ad289.add ((x6_2).toNat * 5)).block,(ad289.add ((x6_2).toNat * 5)).off + 1,none⟩ = some (.int .i64 ((rd_T67 l0 x6_2).f1)) ∧ w'.cell? ⟨(ad289.add ((x6_2).toNat * 5)).block,(ad289.add ((x6_2).toNat * 5)).off + 2,none⟩ = some (.int .i64 ((rd_T67 l0 x6_2).f2.f0)) ∧ w'.cell? ⟨(ad289.add ((x6_2).toNat * 5)).block,(ad289.add ((x6_2).toNat * 5)).off + 3,none⟩ = some (.int .i64 ((rd_T67 l0 x6_2).f2.f1)) ∧ w'.cell? ⟨(ad289.add ((x6_2).toNat * 5)).block,(ad289.add ((x6_2).toNat * 5)).off + 4,none⟩ = some (.int .i64 ((rd_T67 l0 x6_2).f3))) (ds:=[]) b7_0 (by kernel_rfl) rfl rfl ⟨(blk_cell BK283.out 0).trans rfl,(blk_cell BK283.out 1).trans rfl,(cb_ HB hw289_0:),(cb_ HB hw289_1:),(cb_ HB hw289_2:),(cb_ HB hw289_3:),(cb_ HB hw289_4:)⟩ (fun hHeld=>?_)
          generalize wr.drew = w20 at HO_5 BK283 HB hx289_0 hx289_1 hx289_2 hx289_3 hx289_4 hHeld ⊢
          refine pure_ (i:=0) (N:=some 23) (v:=?_) (a':=?_) b7_1 rfl rfl (by kernel_rfl) (fun _ _ _ h=>h) (Or.inl ⟨by rfl,?_⟩) ?_ ?_
          rotate_left
          ·intro w'
           go_simp
           with_reducible rfl
          rotate_left
          ·simp only [Act.put,sA_,sZ_,sS_,i64_w,i32_w]
           rfl
          refine pure_ (i:=1) (N:=some 24) (v:=?_) (a':=?_) b7_2 rfl rfl (by kernel_rfl) (fun _ _ _ h=>h) (Or.inl ⟨by rfl,?_⟩) ?_ ?_
          rotate_left
          ·intro w'
           go_simp
           with_reducible rfl
          rotate_left
          ·simp only [Act.put,sA_,sZ_,sS_,i64_w,i32_w]
           rfl
          refine pure_ (i:=2) (N:=some 25) (v:=?_) (a':=?_) b7_3 rfl rfl (by kernel_rfl) (fun _ _ _ h=>h) (Or.inl ⟨by rfl,?_⟩) ?_ ?_
          rotate_left
          ·intro w'
           go_simp
           with_reducible rfl
          rotate_left
          ·simp only [Act.put,sA_,sZ_,sS_,i64_w,i32_w]
           rfl
          refine pure_ (i:=3) (N:=some 26) (v:=?_) (a':=?_) b7_4 rfl rfl (by kernel_rfl) (fun _ _ _ h=>h) (Or.inl ⟨by rfl,?_⟩) ?_ ?_
          rotate_left
          ·intro w'
           go_simp
           with_reducible rfl
          rotate_left
          ·simp only [Act.put,sA_,sZ_,sS_,i64_w,i32_w]
           rfl
          refine take_ (i:=4) (N:=some 27) (v:=?_) (a':=?_) b7_5 rfl rfl (by kernel_rfl) (fun _ _ _ h=>h) (Or.inl ⟨by rfl,?_⟩) hHeld ?_ ?_
          rotate_left
          ·rintro w' ⟨s0,s1,s2,s3,s4,s5,s6⟩
           go_simp
           with_reducible rfl
          rotate_left
          ·simp only [Act.put,sA_,sZ_,sS_,i64_w,i32_w]
           rfl
          refine take_ (i:=5) (N:=some 28) (v:=?_) (a':=?_) b7_6 rfl rfl (by kernel_rfl) (fun _ _ _ h=>h) (Or.inl ⟨by rfl,?_⟩) hHeld ?_ ?_
          rotate_left
          ·rintro w' ⟨s0,s1,s2,s3,s4,s5,s6⟩
           go_simp
           with_reducible rfl
          rotate_left
          ·simp only [Act.put,sA_,sZ_,sS_,i64_w,i32_w]
           rfl
          refine one_ (i:=6) (N:=some 29) b7_7 rfl rfl (by kernel_rfl) (by decide) (fun K hK=>?_)
          refine goes_ Try.func76 (by kernel_rfl) rfl #[.agg #[.int .i64 ((rd_T67 l0 x6_2).f2.f0),.int .i64 ((rd_T67 l0 x6_2).f2.f1)],.agg #[.int .i64 a1_0,.int .i64 a1_1]] (by rfl) rfl rfl (by (try simp only [List.map_toArray,List.map_cons,List.map_nil]);first|done|rfl|(simp only [List.length_drop,List.length_take];rfl)) ?_
          with_reducible refine (spec_TimeLess.calls ((rd_T67 l0 x6_2).f2.f0) ((rd_T67 l0 x6_2).f2.f1) a1_0 a1_1 true _ A17.out).mono ?_
          rintro e w21 ⟨rfl,hb⟩
          refine ⟨_,rfl,?_⟩
          have n0_:=Aside0.mk (Kd.R_below (by (with_reducible repeat (first|apply Kd.R_alloc|apply Kd.R_drewN|apply Kd.R_drew));exact HO_5.out) hb)
          have n1_:=Aside0.mk (blk_below (g:=gb283) (o:=.cells #[.int .i64 a1_0,.int .i64 a1_1] 26 (0,0)) (by (with_reducible repeat (first|refine blk_drewN ?_ _|refine blk_drew ?_|refine blk_alloc ?_ _));exact BK283.out) hb)
          have n2_:=Aside0.mk (below_step (by repeat (first|(with_reducible first|exact HB.out|apply below_alloc|apply pw_below_drewN|apply below_drew1|refine below_set ?_ GE283.out)|exact HB.out)) hb)
          clear HO_5
          clear BK283
          clear HB
          have HO_5:=n0_
          have BK283:=n1_
          have HB:=n2_
          clear n0_ n1_ n2_
          (try clear hb)
          (try clear hb2)
          (try clear hk)
          (try clear hi)
          refine hK.out _ _ ⟨(blk_cell BK283.out 0).trans rfl,(blk_cell BK283.out 1).trans rfl,(cb_ HB hw289_0:),(cb_ HB hw289_1:),(cb_ HB hw289_2:),(cb_ HB hw289_3:),(cb_ HB hw289_4:)⟩ (fun hHeld=>?_)
          clear hK K
          refine norm_ (a':=?_) ?_ ?_
          rotate_left
          ·show Act.put _ (some 29) _ = _
           simp only [Act.put,sA_,sZ_,sS_,i64_w,i32_w]
           rfl
          refine done_ (by kernel_rfl) ?_
          try go_wp2
          have n0_:=Aside0.mk (Kd.R_drew HO_5.out)
          have n1_:=Aside0.mk (blk_drew BK283.out)
          have n2_:=Aside0.mk (below_drew1 HB.out)
          clear HO_5
          clear BK283
          clear HB
          have HO_5:=n0_
          have BK283:=n1_
          have HB:=n2_
          clear n0_ n1_ n2_
          have p291 : 0 ≤ (x6_2 : Int):=of_decide_eq_true (by first|(with_reducible assumption)|assumption)
          have q291 : x6_2 < (l0.length : Int):=of_decide_eq_true (by first|(with_reducible assumption)|assumption)
          obtain ⟨ad291,e291,hx291_0,hx291_1,hx291_2,hx291_3,hx291_4⟩:=at_T67 HR0.out x6_2 p291 q291
          have hw291_4:=hx291_4
          have hw291_3:=hx291_3
          have hw291_2:=hx291_2
          have hw291_1:=hx291_1
          have hw291_0:=hx291_0
          obtain rfl : ad289 = ad291:=(by injection e291)
          replace hx291_0:=(HB.out.cell (bl_ w _ hx291_0)).trans hx291_0
          replace hx291_1:=(HB.out.cell (bl_ w _ hx291_1)).trans hx291_1
          replace hx291_2:=(HB.out.cell (bl_ w _ hx291_2)).trans hx291_2
          replace hx291_3:=(HB.out.cell (bl_ w _ hx291_3)).trans hx291_3
          replace hx291_4:=(HB.out.cell (bl_ w _ hx291_4)).trans hx291_4
          replace p291:=eq_true p291
          replace q291:=eq_true q291
          have p292 : 0 ≤ (x6_2 : Int):=of_decide_eq_true (by first|(with_reducible assumption)|assumption)
          have q292 : x6_2 < (l0.length : Int):=of_decide_eq_true (by first|(with_reducible assumption)|assumption)
          obtain ⟨ad292,e292,hx292_0,hx292_1,hx292_2,hx292_3,hx292_4⟩:=at_T67 HR0.out x6_2 p292 q292
          have hw292_4:=hx292_4
          have hw292_3:=hx292_3
          have hw292_2:=hx292_2
          have hw292_1:=hx292_1
          have hw292_0:=hx292_0
          obtain rfl : ad289 = ad292:=(by injection e292)
          replace hx292_0:=(HB.out.cell (bl_ w _ hx292_0)).trans hx292_0
          replace hx292_1:=(HB.out.cell (bl_ w _ hx292_1)).trans hx292_1
          replace hx292_2:=(HB.out.cell (bl_ w _ hx292_2)).trans hx292_2
          replace hx292_3:=(HB.out.cell (bl_ w _ hx292_3)).trans hx292_3
          replace hx292_4:=(HB.out.cell (bl_ w _ hx292_4)).trans hx292_4
          replace p292:=eq_true p292
          replace q292:=eq_true q292
          have p293 : 0 ≤ (x6_2 : Int):=of_decide_eq_true (by first|(with_reducible assumption)|assumption)
          have q293 : x6_2 < (l0.length : Int):=of_decide_eq_true (by first|(with_reducible assumption)|assumption)
          obtain ⟨ad293,e293,hx293_0,hx293_1,hx293_2,hx293_3,hx293_4⟩:=at_T67 HR0.out x6_2 p293 q293
          have hw293_4:=hx293_4
          have hw293_3:=hx293_3
          have hw293_2:=hx293_2
          have hw293_1:=hx293_1
          have hw293_0:=hx293_0
          obtain rfl : ad289 = ad293:=(by injection e293)
          replace hx293_0:=(HB.out.cell (bl_ w _ hx293_0)).trans hx293_0
          replace hx293_1:=(HB.out.cell (bl_ w _ hx293_1)).trans hx293_1
          replace hx293_2:=(HB.out.cell (bl_ w _ hx293_2)).trans hx293_2
          replace hx293_3:=(HB.out.cell (bl_ w _ hx293_3)).trans hx293_3
          replace hx293_4:=(HB.out.cell (bl_ w _ hx293_4)).trans hx293_4
          replace p293:=eq_true p293
          replace q293:=eq_true q293
          refine start_ (n:=20) (S:=fun w'=>w'.cell? (ad289.add ((x6_2).toNat * 5)) = some (.int .i64 ((rd_T67 l0 x6_2).f0)) ∧ w'.cell? ⟨(ad289.add ((x6_2).toNat * 5)).block,(ad289.add ((x6_2).toNat * 5)).off + 1,none⟩ = some (.int .i64 ((rd_T67 l0 x6_2).f1)) ∧ w'.cell? ⟨(ad289.add ((x6_2).toNat * 5)).block,(ad289.add ((x6_2).toNat * 5)).off + 2,none⟩ = some (.int .i64 ((rd_T67 l0 x6_2).f2.f0)) ∧ w'.cell? ⟨(ad289.add ((x6_2).toNat * 5)).block,(ad289.add ((x6_2).toNat * 5)).off + 3,none⟩ = some (.int .i64 ((rd_T67 l0 x6_2).f2.f1)) ∧ w'.cell? ⟨(ad289.add ((x6_2).toNat * 5)).block,(ad289.add ((x6_2).toNat * 5)).off + 4,none⟩ = some (.int .i64 ((rd_T67 l0 x6_2).f3)) ∧ w'.cell? (ad289.add ((x6_2).toNat * 5)) = some (.int .i64 ((rd_T67 l0 x6_2).f0)) ∧ w'.cell? ⟨(ad289.add ((x6_2).toNat * 5)).block,(ad289.add ((x6_2).toNat * 5)).off + 1,none⟩ = some (.int .i64 ((rd_T67 l0 x6_2).f1)) ∧ w'.cell? ⟨(ad289.add ((x6_2).toNat * 5)).block,(ad289.add ((x6_2).toNat * 5)).off + 2,none⟩ = some (.int .i64 ((rd_T67 l0 x6_2).f2.f0)) ∧ w'.cell? ⟨(ad289.add ((x6_2).toNat * 5)).block,(ad289.add ((x6_2).toNat * 5)).off + 3,none⟩ = some (.int .i64 ((rd_T67 l0 x6_2).f2.f1)) ∧ w'.cell? ⟨(ad289.add ((x6_2).toNat * 5)).block,(ad289.add ((x6_2).toNat * 5)).off + 4,none⟩ = some (.int .i64 ((rd_T67 l0 x6_2).f3)) ∧ w'.cell? (ad289.add ((x6_2).toNat * 5)) = some (.int .i64 ((rd_T67 l0 x6_2).f0)) ∧ w'.cell? ⟨(ad289.add ((x6_2).toNat * 5)).block,(ad289.add ((x6_2).toNat * 5)).off + 1,none⟩ = some (.int .i64 ((rd_T67 l0 x6_2).f1)) ∧ w'.cell? ⟨(ad289.add ((x6_2).toNat * 5)).block,(ad289.add ((x6_2).toNat * 5)).off + 2,none⟩ = some (.int .i64 ((rd_T67 l0 x6_2).f2.f0)) ∧ w'.cell? ⟨(ad289.add ((x6_2).toNat * 5)).block,(ad289.add ((x6_2).toNat * 5)).off + 3,none⟩ = some (.int .i64 ((rd_T67 l0 x6_2).f2.f1)) ∧ w'.cell? ⟨(ad289.add ((x6_2).toNat * 5)).block,(ad289.add ((x6_2).toNat * 5)).off + 4,none⟩ = some (.int .i64 ((rd_T67 l0 x6_2).f3))) (ds:=[]) b20_0 (by kernel_rfl) rfl rfl ⟨(cb_ HB hw291_0:),(cb_ HB hw291_1:),(cb_ HB hw291_2:),(cb_ HB hw291_3:),(cb_ HB hw291_4:),(cb_ HB hw292_0:),(cb_ HB hw292_1:),(cb_ HB hw292_2:),(cb_ HB hw292_3:),(cb_ HB hw292_4:),(cb_ HB hw293_0:),(cb_ HB hw293_1:),(cb_ HB hw293_2:),(cb_ HB hw293_3:),(cb_ HB hw293_4:)⟩ (fun hHeld=>?_);refine with_tabW spec_BatchAt.tab8 spec_BatchAt.bits8 (fun HT_ HW_=>?_)
          generalize w21.drew = w22 at HO_5 BK283 HB hx291_0 hx291_1 hx291_2 hx291_3 hx291_4 hx292_0 hx292_1 hx292_2 hx292_3 hx292_4 hx293_0 hx293_1 hx293_2 hx293_3 hx293_4 hHeld ⊢
          refine pure_ (i:=0) (N:=some 30) (v:=?_) (a':=?_) b20_1 rfl rfl (any_of HT_.out (by kernel_rfl)) (fun _ _ _ h=>h) (Or.inl ⟨by rfl,?_⟩) ?_ ?_
          rotate_left
          ·intro w'
           go_simp
           with_reducible rfl
          rotate_left
          ·simp only [Act.put,sA_,sZ_,sS_,i64_w,i32_w]
           rfl
          refine pure_ (i:=1) (N:=some 31) (v:=?_) (a':=?_) b20_2 rfl rfl (any_of HT_.out (by kernel_rfl)) (fun _ _ _ h=>h) (Or.inl ⟨by rfl,?_⟩) ?_ ?_
          rotate_left
          ·intro w'
           go_simp
           with_reducible rfl
          rotate_left
          ·simp only [Act.put,sA_,sZ_,sS_,i64_w,i32_w]
           rfl
          refine pure_ (i:=2) (N:=some 32) (v:=?_) (a':=?_) b20_3 rfl rfl (any_of HT_.out (by kernel_rfl)) (fun _ _ _ h=>h) (Or.inl ⟨by rfl,?_⟩) ?_ ?_
          rotate_left
          ·intro w'
           go_simp
           with_reducible rfl
          rotate_left
          ·simp only [Act.put,sA_,sZ_,sS_,i64_w,i32_w]
           rfl
          refine pure_ (i:=3) (N:=some 33) (v:=?_) (a':=?_) b20_4 rfl rfl (any_of HT_.out (by kernel_rfl)) (fun _ _ _ h=>h) (Or.inl ⟨by rfl,?_⟩) ?_ ?_
          rotate_left
          ·intro w'
           go_simp
           with_reducible rfl
          rotate_left
          ·simp only [Act.put,sA_,sZ_,sS_,i64_w,i32_w]
           rfl
          refine pure_ (i:=4) (N:=some 34) (v:=?_) (a':=?_) b20_5 rfl rfl (any_of HT_.out (by kernel_rfl)) (fun _ _ _ h=>h) (Or.inl ⟨by rfl,?_⟩) ?_ ?_
          rotate_left
          ·intro w'
           go_simp
           with_reducible rfl
          rotate_left
          ·simp only [Act.put,sA_,sZ_,sS_,i64_w,i32_w]
           rfl
          refine pure_ (i:=6) (N:=some 36) (v:=?_) (a':=?_) c102 rfl rfl (any_of HT_.out (by kernel_rfl)) (fun _ _ _ h=>h) (Or.inl ⟨by rfl,?_⟩) ?_ ?_
          rotate_left
          ·intro w'
           go_simp
           with_reducible rfl
          rotate_left
          ·simp only [Act.put,sA_,sZ_,sS_,i64_w,i32_w]
           rfl
          refine pure_ (i:=7) (N:=some 37) (v:=?_) (a':=?_) c103 rfl rfl (any_of HT_.out (by kernel_rfl)) (fun _ _ _ h=>h) (Or.inl ⟨by rfl,?_⟩) ?_ ?_
          rotate_left
          ·intro w'
           go_simp
           with_reducible rfl
          rotate_left
          ·simp only [Act.put,sA_,sZ_,sS_,i64_w,i32_w]
           rfl
          refine pure_ (i:=8) (N:=some 38) (v:=?_) (a':=?_) c104 rfl rfl (any_of HT_.out (by kernel_rfl)) (fun _ _ _ h=>h) (Or.inl ⟨by rfl,?_⟩) ?_ ?_
          rotate_left
          ·intro w'
           go_simp
           with_reducible rfl
          rotate_left
          ·simp only [Act.put,sA_,sZ_,sS_,i64_w,i32_w]
           rfl
          refine pure_ (i:=9) (N:=some 39) (v:=?_) (a':=?_) c105 rfl rfl (any_of HT_.out (by kernel_rfl)) (fun _ _ _ h=>h) (Or.inl ⟨by rfl,?_⟩) ?_ ?_
          rotate_left
          ·intro w'
           go_simp
           with_reducible rfl
          rotate_left
          ·simp only [Act.put,sA_,sZ_,sS_,i64_w,i32_w]
           rfl
          refine pure_ (i:=11) (N:=some 41) (v:=?_) (a':=?_) c106 rfl rfl (any_of HT_.out (by kernel_rfl)) (fun _ _ _ h=>h) (Or.inl ⟨by rfl,?_⟩) ?_ ?_
          rotate_left
          ·intro w'
           go_simp
           with_reducible rfl
          rotate_left
          ·simp only [Act.put,sA_,sZ_,sS_,i64_w,i32_w]
           rfl
          refine pure_ (i:=12) (N:=some 42) (v:=?_) (a':=?_) c107 rfl rfl (any_of HT_.out (by kernel_rfl)) (fun _ _ _ h=>h) (Or.inl ⟨by rfl,?_⟩) ?_ ?_
          rotate_left
          ·intro w'
           go_simp
           with_reducible rfl
          rotate_left
          ·simp only [Act.put,sA_,sZ_,sS_,i64_w,i32_w]
           rfl
          refine pure_ (i:=13) (N:=some 43) (v:=?_) (a':=?_) c108 rfl rfl (any_of HT_.out (by kernel_rfl)) (fun _ _ _ h=>h) (Or.inl ⟨by rfl,?_⟩) ?_ ?_
          rotate_left
          ·intro w'
           go_simp
           with_reducible rfl
          rotate_left
          ·simp only [Act.put,sA_,sZ_,sS_,i64_w,i32_w]
           rfl
          refine pure_ (i:=14) (N:=some 44) (v:=?_) (a':=?_) c109 rfl rfl (any_of HT_.out (by kernel_rfl)) (fun _ _ _ h=>h) (Or.inl ⟨by rfl,?_⟩) ?_ ?_
          rotate_left
          ·intro w'
           go_simp
           with_reducible rfl
          rotate_left
          ·simp only [Act.put,sA_,sZ_,sS_,i64_w,i32_w]
           rfl
          refine take_ (i:=5) (N:=some 35) (v:=?_) (a':=?_) c110 rfl rfl (take_ofW HT_.out HW_.out (by kernel_rfl)) (fun _ _ _ h=>h) (Or.inl ⟨by rfl,?_⟩) hHeld ?_ ?_
          rotate_left
          ·rintro w' ⟨s0,s1,s2,s3,s4,s5,s6,s7,s8,s9,s10,s11,s12,s13,s14⟩
           go_simp
           with_reducible rfl
          rotate_left
          ·simp only [Act.put,sA_,sZ_,sS_,i64_w,i32_w]
           rfl
          refine take_ (i:=10) (N:=some 40) (v:=?_) (a':=?_) b20_15 rfl rfl (take_ofW HT_.out HW_.out (by kernel_rfl)) (fun _ _ _ h=>h) (Or.inl ⟨by rfl,?_⟩) hHeld ?_ ?_
          rotate_left
          ·rintro w' ⟨s0,s1,s2,s3,s4,s5,s6,s7,s8,s9,s10,s11,s12,s13,s14⟩
           go_simp
           with_reducible rfl
          rotate_left
          ·simp only [Act.put,sA_,sZ_,sS_,i64_w,i32_w]
           rfl
          refine take_ (i:=15) (N:=some 45) (v:=?_) (a':=?_) b20_16 rfl rfl (take_ofW HT_.out HW_.out (by kernel_rfl)) (fun _ _ _ h=>h) (Or.inl ⟨by rfl,?_⟩) hHeld ?_ ?_
          rotate_left
          ·rintro w' ⟨s0,s1,s2,s3,s4,s5,s6,s7,s8,s9,s10,s11,s12,s13,s14⟩
           go_simp
           with_reducible rfl
          rotate_left
          ·simp only [Act.put,sA_,sZ_,sS_,i64_w,i32_w]
           rfl
          refine pure_ (i:=16) (N:=some 46) (v:=?_) (a':=?_) b20_17 rfl rfl (any_of HT_.out (by kernel_rfl)) (fun _ _ _ h=>h) (Or.inl ⟨by rfl,?_⟩) ?_ ?_
          rotate_left
          ·intro w'
           go_simp
           with_reducible rfl
          rotate_left
          ·simp only [Act.put,sA_,sZ_,sS_,i64_w,i32_w]
           rfl
          refine one_ (i:=17) (N:=some 47) b20_18 rfl rfl (one_of HT_.out (by kernel_rfl)) (by decide) (fun K hK=>?_)
          refine value_ (w1:=?_) (v:=?_) (by rfl) rfl ?_ ?_
          rotate_left 2
          ·go_simp
           constructor
           ·rfl
           ·rfl
          refine hK.out _ _ ⟨(World.cell?_alloc_lt _ _ _ (bl_ _ _ ((cb_ HB hw291_0:)))).trans ((cb_ HB hw291_0:)),(World.cell?_alloc_lt _ _ _ (bl_ _ _ ((cb_ HB hw291_1:)))).trans ((cb_ HB hw291_1:)),(World.cell?_alloc_lt _ _ _ (bl_ _ _ ((cb_ HB hw291_2:)))).trans ((cb_ HB hw291_2:)),(World.cell?_alloc_lt _ _ _ (bl_ _ _ ((cb_ HB hw291_3:)))).trans ((cb_ HB hw291_3:)),(World.cell?_alloc_lt _ _ _ (bl_ _ _ ((cb_ HB hw291_4:)))).trans ((cb_ HB hw291_4:)),(World.cell?_alloc_lt _ _ _ (bl_ _ _ ((cb_ HB hw292_0:)))).trans ((cb_ HB hw292_0:)),(World.cell?_alloc_lt _ _ _ (bl_ _ _ ((cb_ HB hw292_1:)))).trans ((cb_ HB hw292_1:)),(World.cell?_alloc_lt _ _ _ (bl_ _ _ ((cb_ HB hw292_2:)))).trans ((cb_ HB hw292_2:)),(World.cell?_alloc_lt _ _ _ (bl_ _ _ ((cb_ HB hw292_3:)))).trans ((cb_ HB hw292_3:)),(World.cell?_alloc_lt _ _ _ (bl_ _ _ ((cb_ HB hw292_4:)))).trans ((cb_ HB hw292_4:)),(World.cell?_alloc_lt _ _ _ (bl_ _ _ ((cb_ HB hw293_0:)))).trans ((cb_ HB hw293_0:)),(World.cell?_alloc_lt _ _ _ (bl_ _ _ ((cb_ HB hw293_1:)))).trans ((cb_ HB hw293_1:)),(World.cell?_alloc_lt _ _ _ (bl_ _ _ ((cb_ HB hw293_2:)))).trans ((cb_ HB hw293_2:)),(World.cell?_alloc_lt _ _ _ (bl_ _ _ ((cb_ HB hw293_3:)))).trans ((cb_ HB hw293_3:)),(World.cell?_alloc_lt _ _ _ (bl_ _ _ ((cb_ HB hw293_4:)))).trans ((cb_ HB hw293_4:))⟩ (fun hHeld=>?_)
          clear hK K
          refine norm_ (a':=?_) ?_ ?_
          rotate_left
          ·show Act.put _ (some 47) _ = _
           simp only [Act.put,sA_,sZ_,sS_,i64_w,i32_w]
           rfl
          refine one_ (i:=18) (N:=some 48) b20_19 rfl rfl (one_of HT_.out (by kernel_rfl)) (by decide) (fun K hK=>?_)
          refine Kd.R_append_step k60 (w0:=w) w.heap.size (by rfl) (.tmp 30) (.tmp 47) 36 60 (.agg #[(.int .i64 0),(.int .i64 0),(.int .i64 0)]) 24 rfl Try.underlying36 info60 rfl (by decide) (by omega) u5 x5_2 (⟨(rd_T67 l0 x6_2).f0,(rd_T67 l0 x6_2).f1,(rd_T67 l0 x6_2).f3⟩ : S60) [.int .i64 ((rd_T67 l0 x6_2).f0),.int .i64 ((rd_T67 l0 x6_2).f1),.int .i64 ((rd_T67 l0 x6_2).f3)] (fun _=>True) (fun _=>False) rfl rfl ?aP (fun _ hk=>hk.elim) ?aF ?aO ?aB ?aS ?aL ?_
          (case aP=>exact k60_mkM _ _ _ (⟨(rd_T67 l0 x6_2).f0,(rd_T67 l0 x6_2).f1,(rd_T67 l0 x6_2).f3⟩ : S60))
          (case aB=>exact (by repeat (first|(with_reducible first|exact HB.out|apply below_alloc|apply pw_below_drewN|apply below_drew1|refine below_set ?_ GE283.out)|exact HB.out)))
          (case aF=>exact (fun _ _=>trivial))
          (case aO=>exact (by (with_reducible repeat (first|apply Kd.R_alloc|apply Kd.R_drewN|apply Kd.R_drew));exact HO_5.out))
          (case aS=>exact (below_size (by repeat (first|(with_reducible first|exact HB.out|apply below_alloc|apply pw_below_drewN|apply below_drew1|refine below_set ?_ GE283.out)|exact HB.out))))
          (case aL=>have:=LMc19.out;omega)
          intro v295 w23 ho hb hg hat
          rw [← Ny294.out] at ho
          have n0_:=Aside0.mk (blk_grown (g:=gb283) (o:=.cells #[.int .i64 a1_0,.int .i64 a1_1] 26 (0,0)) (by (with_reducible repeat (first|refine blk_drewN ?_ _|refine blk_drew ?_|refine blk_alloc ?_ _));exact BK283.out) hg (Kd.R_ne HO_5.out BK283.out (by decide)))
          have n1_:=Aside0.mk (hb)
          have n2_:=Aside0.mk (ho)
          clear BK283
          clear HB
          clear HO_5
          have BK283:=n0_
          have HB:=n1_
          have HO296:=n2_
          clear n0_ n1_ n2_
          clear ho hb hg hat
          refine hK.out _ _ ⟨(cb_ HB hw291_0:),(cb_ HB hw291_1:),(cb_ HB hw291_2:),(cb_ HB hw291_3:),(cb_ HB hw291_4:),(cb_ HB hw292_0:),(cb_ HB hw292_1:),(cb_ HB hw292_2:),(cb_ HB hw292_3:),(cb_ HB hw292_4:),(cb_ HB hw293_0:),(cb_ HB hw293_1:),(cb_ HB hw293_2:),(cb_ HB hw293_3:),(cb_ HB hw293_4:)⟩ (fun hHeld=>?_)
          clear hK K
          refine norm_ (a':=?_) ?_ ?_
          rotate_left
          ·show Act.put _ (some 48) _ = _
           simp only [Act.put,sA_,sZ_,sS_,i64_w,i32_w]
           rfl
          refine pure_ (i:=19) (N:=some 5) (v:=?_) (a':=?_) b20_20 rfl rfl (any_of HT_.out (by kernel_rfl)) (fun _ _ _ h=>h) (Or.inl ⟨by rfl,?_⟩) ?_ ?_
          rotate_left
          ·intro w'
           go_simp
           with_reducible rfl
          rotate_left
          ·simp only [Act.put,sA_,sZ_,sS_,i64_w,i32_w]
           rfl
          refine done_ (done_of HT_.out (by kernel_rfl)) ?_
          try go_wp2
          go_roundg k2
          case measure=>have:=HJ2.out;have:=HK2.out;omega
          case rel=>exact ⟨(y294),(wrap64 (x6_2 + 1)),(by first|rfl|(simp;done)|(simp [*];done)),H',⟨by have:=HJ2.out;have:=HK2.out;omega⟩,⟨by (with_reducible repeat (first|apply Kd.R_alloc|apply Kd.R_drewN|apply Kd.R_drew));exact HO296.out⟩,⟨by (with_reducible repeat (first|refine blk_drewN ?_ _|refine blk_drew ?_|refine blk_alloc ?_ _));exact BK283.out⟩,⟨by repeat (first|(with_reducible first|exact HB.out|apply below_alloc|apply pw_below_drewN|apply below_drew1|refine below_set ?_ GE283.out)|exact HB.out)⟩⟩
         ·rw [if_neg c19] at H
          exact absurd H (by simp)
        ·replace c18:=Bool.eq_false_iff.mpr c18
         subst c18
         have H1 : (spec_BatchAt.l0 k2 l0 x5_2 (wrap64 (x6_2 + 1)) a1_0 a1_1) = some r:=by rw [if_neg (show ¬ (false = true) by decide)] at H;exact H
         clear H
         have H:=H1
         clear H1
         have H':=Aside0.mk H
         clear H
         try go_wp2
         have n0_:=Aside0.mk (Kd.R_drew HO_5.out)
         have n1_:=Aside0.mk (blk_drew BK283.out)
         have n2_:=Aside0.mk (below_drew1 HB.out)
         clear HO_5
         clear BK283
         clear HB
         have HO_5:=n0_
         have BK283:=n1_
         have HB:=n2_
         clear n0_ n1_ n2_
         have p289 : 0 ≤ (x6_2 : Int):=of_decide_eq_true (by first|(with_reducible assumption)|assumption)
         have q289 : x6_2 < (l0.length : Int):=of_decide_eq_true (by first|(with_reducible assumption)|assumption)
         obtain ⟨ad289,e289,hx289_0,hx289_1,hx289_2,hx289_3,hx289_4⟩:=at_T67 HR0.out x6_2 p289 q289
         have hw289_4:=hx289_4
         have hw289_3:=hx289_3
         have hw289_2:=hx289_2
         have hw289_1:=hx289_1
         have hw289_0:=hx289_0
         cases e289
         replace hx289_0:=(HB.out.cell (bl_ w _ hx289_0)).trans hx289_0
         replace hx289_1:=(HB.out.cell (bl_ w _ hx289_1)).trans hx289_1
         replace hx289_2:=(HB.out.cell (bl_ w _ hx289_2)).trans hx289_2
         replace hx289_3:=(HB.out.cell (bl_ w _ hx289_3)).trans hx289_3
         replace hx289_4:=(HB.out.cell (bl_ w _ hx289_4)).trans hx289_4
         replace p289:=eq_true p289
         replace q289:=eq_true q289
         refine start_ (n:=7) (S:=fun w'=>w'.cell? ⟨gb283,0,none⟩ = some (.int .i64 a1_0) ∧ w'.cell? ⟨gb283,1,none⟩ = some (.int .i64 a1_1) ∧ w'.cell? (ad289.add ((x6_2).toNat * 5)) = some (.int .i64 ((rd_T67 l0 x6_2).f0)) ∧ w'.cell? ⟨(ad289.add ((x6_2).toNat * 5)).block,(ad289.add ((x6_2).toNat * 5)).off + 1,none⟩ = some (.int .i64 ((rd_T67 l0 x6_2).f1)) ∧ w'.cell? ⟨(ad289.add ((x6_2).toNat * 5)).block,(ad289.add ((x6_2).toNat * 5)).off + 2,none⟩ = some (.int .i64 ((rd_T67 l0 x6_2).f2.f0)) ∧ w'.cell? ⟨(ad289.add ((x6_2).toNat * 5)).block,(ad289.add ((x6_2).toNat * 5)).off + 3,none⟩ = some (.int .i64 ((rd_T67 l0 x6_2).f2.f1)) ∧ w'.cell? ⟨(ad289.add ((x6_2).toNat * 5)).block,(ad289.add ((x6_2).toNat * 5)).off + 4,none⟩ = some (.int .i64 ((rd_T67 l0 x6_2).f3))) (ds:=[]) b7_0 (by kernel_rfl) rfl rfl ⟨(blk_cell BK283.out 0).trans rfl,(blk_cell BK283.out 1).trans rfl,(cb_ HB hw289_0:),(cb_ HB hw289_1:),(cb_ HB hw289_2:),(cb_ HB hw289_3:),(cb_ HB hw289_4:)⟩ (fun hHeld=>?_)
         generalize wr.drew = w24 at HO_5 BK283 HB hx289_0 hx289_1 hx289_2 hx289_3 hx289_4 hHeld ⊢
         refine pure_ (i:=0) (N:=some 23) (v:=?_) (a':=?_) b7_1 rfl rfl (by kernel_rfl) (fun _ _ _ h=>h) (Or.inl ⟨by rfl,?_⟩) ?_ ?_
         rotate_left
         ·intro w'
          go_simp
          with_reducible rfl
         rotate_left
         ·simp only [Act.put,sA_,sZ_,sS_,i64_w,i32_w]
          rfl
         refine pure_ (i:=1) (N:=some 24) (v:=?_) (a':=?_) b7_2 rfl rfl (by kernel_rfl) (fun _ _ _ h=>h) (Or.inl ⟨by rfl,?_⟩) ?_ ?_
         rotate_left
         ·intro w'
          go_simp
          with_reducible rfl
         rotate_left
         ·simp only [Act.put,sA_,sZ_,sS_,i64_w,i32_w]
          rfl
         refine pure_ (i:=2) (N:=some 25) (v:=?_) (a':=?_) b7_3 rfl rfl (by kernel_rfl) (fun _ _ _ h=>h) (Or.inl ⟨by rfl,?_⟩) ?_ ?_
         rotate_left
         ·intro w'
          go_simp
          with_reducible rfl
         rotate_left
         ·simp only [Act.put,sA_,sZ_,sS_,i64_w,i32_w]
          rfl
         refine pure_ (i:=3) (N:=some 26) (v:=?_) (a':=?_) b7_4 rfl rfl (by kernel_rfl) (fun _ _ _ h=>h) (Or.inl ⟨by rfl,?_⟩) ?_ ?_
         rotate_left
         ·intro w'
          go_simp
          with_reducible rfl
         rotate_left
         ·simp only [Act.put,sA_,sZ_,sS_,i64_w,i32_w]
          rfl
         refine take_ (i:=4) (N:=some 27) (v:=?_) (a':=?_) b7_5 rfl rfl (by kernel_rfl) (fun _ _ _ h=>h) (Or.inl ⟨by rfl,?_⟩) hHeld ?_ ?_
         rotate_left
         ·rintro w' ⟨s0,s1,s2,s3,s4,s5,s6⟩
          go_simp
          with_reducible rfl
         rotate_left
         ·simp only [Act.put,sA_,sZ_,sS_,i64_w,i32_w]
          rfl
         refine take_ (i:=5) (N:=some 28) (v:=?_) (a':=?_) b7_6 rfl rfl (by kernel_rfl) (fun _ _ _ h=>h) (Or.inl ⟨by rfl,?_⟩) hHeld ?_ ?_
         rotate_left
         ·rintro w' ⟨s0,s1,s2,s3,s4,s5,s6⟩
          go_simp
          with_reducible rfl
         rotate_left
         ·simp only [Act.put,sA_,sZ_,sS_,i64_w,i32_w]
          rfl
         refine one_ (i:=6) (N:=some 29) b7_7 rfl rfl (by kernel_rfl) (by decide) (fun K hK=>?_)
         refine goes_ Try.func76 (by kernel_rfl) rfl #[.agg #[.int .i64 ((rd_T67 l0 x6_2).f2.f0),.int .i64 ((rd_T67 l0 x6_2).f2.f1)],.agg #[.int .i64 a1_0,.int .i64 a1_1]] (by rfl) rfl rfl (by (try simp only [List.map_toArray,List.map_cons,List.map_nil]);first|done|rfl|(simp only [List.length_drop,List.length_take];rfl)) ?_
         with_reducible refine (spec_TimeLess.calls ((rd_T67 l0 x6_2).f2.f0) ((rd_T67 l0 x6_2).f2.f1) a1_0 a1_1 false _ A17.out).mono ?_
         rintro e w25 ⟨rfl,hb⟩
         refine ⟨_,rfl,?_⟩
         have n0_:=Aside0.mk (Kd.R_below (by (with_reducible repeat (first|apply Kd.R_alloc|apply Kd.R_drewN|apply Kd.R_drew));exact HO_5.out) hb)
         have n1_:=Aside0.mk (blk_below (g:=gb283) (o:=.cells #[.int .i64 a1_0,.int .i64 a1_1] 26 (0,0)) (by (with_reducible repeat (first|refine blk_drewN ?_ _|refine blk_drew ?_|refine blk_alloc ?_ _));exact BK283.out) hb)
         have n2_:=Aside0.mk (below_step (by repeat (first|(with_reducible first|exact HB.out|apply below_alloc|apply pw_below_drewN|apply below_drew1|refine below_set ?_ GE283.out)|exact HB.out)) hb)
         clear HO_5
         clear BK283
         clear HB
         have HO_5:=n0_
         have BK283:=n1_
         have HB:=n2_
         clear n0_ n1_ n2_
         (try clear hb)
         (try clear hb2)
         (try clear hk)
         (try clear hi)
         refine hK.out _ _ ⟨(blk_cell BK283.out 0).trans rfl,(blk_cell BK283.out 1).trans rfl,(cb_ HB hw289_0:),(cb_ HB hw289_1:),(cb_ HB hw289_2:),(cb_ HB hw289_3:),(cb_ HB hw289_4:)⟩ (fun hHeld=>?_)
         clear hK K
         refine norm_ (a':=?_) ?_ ?_
         rotate_left
         ·show Act.put _ (some 29) _ = _
          simp only [Act.put,sA_,sZ_,sS_,i64_w,i32_w]
          rfl
         refine done_ (by kernel_rfl) ?_
         try go_wp2
         go_roundg k2
         case measure=>have:=HJ2.out;have:=HK2.out;omega
         case rel=>exact ⟨(x5_2),(wrap64 (x6_2 + 1)),(by first|rfl|(simp;done)|(simp [*];done)),H',⟨by have:=HJ2.out;have:=HK2.out;omega⟩,⟨by (with_reducible repeat (first|apply Kd.R_alloc|apply Kd.R_drewN|apply Kd.R_drew));exact HO_5.out⟩,⟨by (with_reducible repeat (first|refine blk_drewN ?_ _|refine blk_drew ?_|refine blk_alloc ?_ _));exact BK283.out⟩,⟨by repeat (first|(with_reducible first|exact HB.out|apply below_alloc|apply pw_below_drewN|apply below_drew1|refine below_set ?_ GE283.out)|exact HB.out)⟩⟩
       ·rw [if_neg c16] at H
        exact absurd H (by simp)
      ·rw [if_neg c15] at H
       have c15b0 : decide (x6_2 < (l0.length : Int)) = false:=decide_eq_false c15
       clear c15
       replace H:=Option.bind_eq_some_iff.mp H
       obtain ⟨t297,A260,H⟩:=H
       replace H : (some t297) = some r:=H
       have A26:=Aside0.mk A260
       clear A260
       obtain rfl:=Option.some.inj H
       obtain ⟨Ao27,co27,eo27⟩:=Kd.R_slice HO_5.out
       subst eo27
       go_wp2_with (first|((with_reducible refine gate_callee (f:=96) rfl ?_);refine goesL_ (some 50) rfl rfl Try.func96 (by kernel_rfl) rfl #[.slice Ao27 x5_2.length co27] rfl (by (try simp only [List.map_toArray,List.map_cons,List.map_nil]);first|done|rfl|(simp only [List.length_drop,List.length_take];rfl)) ?_;(with_reducible refine (spec_l2Items.calls k2 _ _ x5_2 t297 _ ?side1 ?side2 A26.out).mono ?_);(case side1=>repeat (first|exact (Kd.R_reads' HO_5.out).2.2|(with_reducible refine Kd.C_alloc ?_ _)|(with_reducible refine Kd.C_drewN ?_ _)|(with_reducible refine Kd.C_drew ?_)));(case side2=>exact (Kd.R_reads' HO_5.out).2.1);rintro e w28 ⟨v298,rfl,ho0,hb⟩;refine ⟨_,rfl,?_⟩;have n0_:=Aside0.mk (Kd.R_elder' (by (with_reducible repeat (first|apply Kd.R_alloc|apply Kd.R_drewN|apply Kd.R_drew));exact HO_5.out) (Kd.R_base ho0) hb);have n1_:=Aside0.mk (Kd.R_lower (Kd.R_new' ho0 (Kd.R_lt (by (with_reducible repeat (first|apply Kd.R_alloc|apply Kd.R_drewN|apply Kd.R_drew));exact HO_5.out))) (below_size (by repeat (first|(with_reducible first|exact HB.out|apply below_alloc|apply pw_below_drewN|apply below_drew1|refine below_set ?_ GE283.out)|exact HB.out))));have n2_:=Aside0.mk (blk_below (g:=gb283) (o:=.cells #[.int .i64 a1_0,.int .i64 a1_1] 26 (0,0)) (by (with_reducible repeat (first|refine blk_drewN ?_ _|refine blk_drew ?_|refine blk_alloc ?_ _));exact BK283.out) hb);have n3_:=Aside0.mk (below_step (by repeat (first|(with_reducible first|exact HB.out|apply below_alloc|apply pw_below_drewN|apply below_drew1|refine below_set ?_ GE283.out)|exact HB.out)) hb);clear HO_5;clear BK283;clear HB;have HO_5:=n0_;have HO299:=n1_;have BK283:=n2_;have HB:=n3_;clear n0_ n1_ n2_ n3_;(try clear hb);(try clear hb2);(try clear hk);(try clear hi);(try clear ho0)))
       go_ret
       exact ⟨_,by first|rfl|(simp [errW_none,errW_some] <;> rfl)|(simp [*,errW_none,errW_some] <;> rfl),by (with_reducible repeat (first|apply Kd.R_alloc|apply Kd.R_drewN|apply Kd.R_drew));exact Kd.R_mono HO299.out (fun _ hk=>trivial),by repeat (first|(with_reducible first|exact HB.out|apply below_alloc|apply pw_below_drewN|apply below_drew1|refine below_set ?_ GE283.out)|exact HB.out)⟩
def spec_l71Time.f (k : Nat) (s0_0 : List Int) (s0_1 : Int) : Option (Int × Int × Int) := (spec_l6Rd_pick.f k s0_0 s0_1 10).bind fun bt301 => (if bt301.1 = 0 then ((spec_l6Rd_pick.f k s0_0 bt301.2 8).bind fun bt303 => ((spec_l6Rd_pick.f k s0_0 bt303.2 8).bind fun bt305 => (some (bt303.1, bt305.1, bt305.2)))) else ((spec_l6Rd_pick.f k s0_0 bt301.2 4).bind fun bt307 => ((spec_l6Rd_pick.f k s0_0 bt307.2 4).bind fun bt309 => (some (bt307.1, bt309.1, bt309.2)))))
theorem spec_l71Time.mono : ∀ a0 a1 k,LeO (spec_l71Time.f k a0 a1) (spec_l71Time.f (k + 1) a0 a1):=by
 intro a0 a1 k
 unfold spec_l71Time.f
 repeat' first
   | (with_reducible exact spec_l6Rd_pick.mono _ _ _ _)
   | (with_reducible exact LeO.refl _)
   | (with_reducible exact LeO.none _)
   | (with_reducible refine LeO.ite ?_ ?_)
   | (with_reducible refine LeO.bind ?_ (fun _=>?_))
   | exact spec_l6Rd_pick.mono _ _ _ _
   | exact LeO.none _
   | refine LeO.ite ?_ ?_
   | refine LeO.bind ?_ (fun _=>?_)
set_option maxHeartbeats 8000000 in
set_option maxRecDepth 100000 in
theorem spec_l71Time.calls (k : Nat) (g : Nat) (s0_0 : List Int) (s0_1 : Int) (r1 : Int) (r2 : Int) (r3 : Int) (w0 w : World) (hI : IsS86 w0 w g s0_0 s0_1) (hB : Below w0.heap.size w0 w) (h : spec_l71Time.f k s0_0 s0_1 = some (r1,r2,r3)) :
  Calls Try.prog 90 #[.pointer (some ⟨g,0,none⟩)] w fun e w'=>e = .returned (.agg #[.int .i64 r1,.int .i64 r2]) ∧ IsS86 w0 w' g s0_0 r3 ∧ Below w0.heap.size w0 w' ∧ KeepBut w w' g none:=by
 have hu26:=Try.underlying26
 have HI0:=Aside0.mk hI
 have HK:=Aside0.mk (KeepBut.refl w g none)
 have HL:=Aside0.mk hB.size
 clear hI
 have HW0:=Aside0.mk hB.size
 have HB:=Aside0.mk hB
 clear hB
 have H : ((spec_l6Rd_pick.f k s0_0 s0_1 10).bind fun bt301=>(if bt301.1 = 0 then ((spec_l6Rd_pick.f k s0_0 bt301.2 8).bind fun bt303=>((spec_l6Rd_pick.f k s0_0 bt303.2 8).bind fun bt305=>(some (bt303.1,bt305.1,bt305.2)))) else ((spec_l6Rd_pick.f k s0_0 bt301.2 4).bind fun bt307=>((spec_l6Rd_pick.f k s0_0 bt307.2 4).bind fun bt309=>(some (bt307.1,bt309.1,bt309.2)))))) = some (r1,r2,r3):=h
 clear h
 replace H:=Option.bind_eq_some_iff.mp H
 obtain ⟨⟨t301,t302⟩,A20,H⟩:=H
 replace H : (if t301 = 0 then ((spec_l6Rd_pick.f k s0_0 t302 8).bind fun bt303=>((spec_l6Rd_pick.f k s0_0 bt303.2 8).bind fun bt305=>(some (bt303.1,bt305.1,bt305.2)))) else ((spec_l6Rd_pick.f k s0_0 t302 4).bind fun bt307=>((spec_l6Rd_pick.f k s0_0 bt307.2 4).bind fun bt309=>(some (bt307.1,bt309.1,bt309.2))))) = some (r1,r2,r3):=H
 have A2:=Aside0.mk A20
 clear A20
 by_cases c3 : t301 = 0
 ·rw [if_pos c3] at H
  have c3b0 : (t301 == 0) = true:=beq_iff_eq.mpr c3
  have c3b1 : (t301 != 0) = false:=bne_eq_false_iff_eq.mpr c3
  clear c3
  replace H:=Option.bind_eq_some_iff.mp H
  obtain ⟨⟨t303,t304⟩,A40,H⟩:=H
  replace H : ((spec_l6Rd_pick.f k s0_0 t304 8).bind fun bt305=>(some (t303,bt305.1,bt305.2))) = some (r1,r2,r3):=H
  have A4:=Aside0.mk A40
  clear A40
  replace H:=Option.bind_eq_some_iff.mp H
  obtain ⟨⟨t305,t306⟩,A50,H⟩:=H
  replace H : (some (t303,t305,t306)) = some (r1,r2,r3):=H
  have A5:=Aside0.mk A50
  clear A50
  simp only [Option.some.injEq,Prod.mk.injEq] at H
  obtain ⟨rfl,rfl,rfl⟩:=H
  go_enter Try.func90,Try.ntmps90
  go_wp2_with (first|((with_reducible refine gate_dst (N:=2) rfl ?_);refine box_event ?hg (N:=2) ?hd (cs:=#[.int .i64 0,.int .i64 0]) (t:=26) ?hr ?_;(case hd=>rfl);(case hg=>rfl);(case hr=>first|(go_simp;done)|(go_simp;rfl));intro gb300 hg w6 hbox hb;have n0_:=Aside0.mk (IsS86.below (by repeat (first|(with_reducible first|exact HI0.out|apply IsS86.alloc|apply IsS86.drewN|apply IsS86.drew|apply IsS86.set_1)|exact HI0.out)) hb);have n1_:=Aside0.mk (KeepBut.trans (by repeat (first|(with_reducible first|exact HK.out|apply KeepBut.set_|apply keep_drewN|apply keep_drew|apply keep_alloc)|exact HK.out)) (KeepBut.of_below hb g none) (.inl rfl));have n2_:=Aside0.mk (below_step (by repeat (first|(with_reducible first|exact HB.out|apply below_alloc|apply pw_below_drewN|apply below_drew1|refine below_set ?_ (IsS86.ge HI0.out))|exact HB.out)) hb);have n3_:=Aside0.mk (hbox);have n4_:=Aside0.mk ((by rw [hg];exact (keep_size (w:=w) (g:=g) (row:=none) (by repeat (first|(with_reducible first|exact HK.out|apply KeepBut.set_|apply keep_drewN|apply keep_drew|apply keep_alloc)|exact HK.out))) : w.heap.size ≤ gb300));have n5_:=Aside0.mk ((Nat.le_trans HW0.out (by rw [hg];exact (keep_size (w:=w) (g:=g) (row:=none) (by repeat (first|(with_reducible first|exact HK.out|apply KeepBut.set_|apply keep_drewN|apply keep_drew|apply keep_alloc)|exact HK.out))) : w.heap.size ≤ gb300) : w0.heap.size ≤ gb300));have n6_:=Aside0.mk ((by rw [hg];exact Nat.ne_of_lt (IsS86.lt (show IsS86 w0 _ g s0_0 s0_1 from by repeat (first|(with_reducible first|exact HI0.out|apply IsS86.alloc|apply IsS86.drewN|apply IsS86.drew|apply IsS86.set_1)|exact HI0.out))) : g ≠ gb300));have n7_:=Aside0.mk ((by rw [hg];exact Nat.ne_of_gt (IsS86.lt (show IsS86 w0 _ g s0_0 s0_1 from by repeat (first|(with_reducible first|exact HI0.out|apply IsS86.alloc|apply IsS86.drewN|apply IsS86.drew|apply IsS86.set_1)|exact HI0.out))) : gb300 ≠ g));clear HI0;clear HK;clear HB;have HI0:=n0_;have HK:=n1_;have HB:=n2_;have BK300:=n3_;have GW300:=n4_;have GE300:=n5_;have NB0_300:=n6_;have NB300_0:=n7_;clear n0_ n1_ n2_ n3_ n4_ n5_ n6_ n7_;clear hb hbox hg)|((with_reducible refine gate_callee (f:=89) rfl ?_);refine goesL_ (some 4) rfl rfl Try.func89 (by kernel_rfl) rfl #[.pointer (some ⟨g,0,none⟩),.int .i64 10] rfl (by (try simp only [List.map_toArray,List.map_cons,List.map_nil]);first|done|rfl|(simp only [List.length_drop,List.length_take];rfl)) ?_;(with_reducible refine (spec_l6Rd_pick.calls k g s0_0 s0_1 10 t301 t302 w0 _ ?side1 ?side2 A2.out).mono ?_);(case side1=>repeat (first|(with_reducible first|exact HI0.out|apply IsS86.alloc|apply IsS86.drewN|apply IsS86.drew|apply IsS86.set_1|refine IsS86.far ?_ NB0_300.out _)|exact HI0.out));(case side2=>repeat (first|(with_reducible first|exact HB.out|apply below_alloc|apply pw_below_drewN|apply below_drew1|refine below_set ?_ (IsS86.ge HI0.out)|refine below_set ?_ GE300.out)|exact HB.out));rintro e w7 ⟨rfl,hi,hb,hk⟩;refine ⟨_,rfl,?_⟩;have n0_:=Aside0.mk (KeepBut.blk hk (g':=gb300) (o:=.cells #[.int .i64 0,.int .i64 0] 26 (0,0)) (by (with_reducible repeat (first|refine blk_drewN ?_ _|refine blk_drew ?_|refine blk_alloc ?_ _));exact BK300.out) NB300_0.out (by simp));have n1_:=Aside0.mk (KeepBut.trans (by repeat (first|(with_reducible first|exact HK.out|apply KeepBut.set_|apply keep_drewN|apply keep_drew|apply keep_alloc|refine keep_far ?_ GW300.out _)|exact HK.out)) hk (.inl rfl));have n2_:=Aside0.mk (hb);have n3_:=Aside0.mk (hi);clear BK300;clear HK;clear HB;clear HI0;have BK300:=n0_;have HK:=n1_;have HB:=n2_;have HI0:=n3_;clear n0_ n1_ n2_ n3_;(try clear hb);(try clear hb2);(try clear hk);(try clear hi))|((with_reducible refine gate_callee (f:=89) rfl ?_);refine goesL_ (some 7) rfl rfl Try.func89 (by kernel_rfl) rfl #[.pointer (some ⟨g,0,none⟩),.int .i64 8] rfl (by (try simp only [List.map_toArray,List.map_cons,List.map_nil]);first|done|rfl|(simp only [List.length_drop,List.length_take];rfl)) ?_;(with_reducible refine (spec_l6Rd_pick.calls k g s0_0 t302 8 t303 t304 w0 _ ?side1 ?side2 A4.out).mono ?_);(case side1=>repeat (first|(with_reducible first|exact HI0.out|apply IsS86.alloc|apply IsS86.drewN|apply IsS86.drew|apply IsS86.set_1|refine IsS86.far ?_ NB0_300.out _)|exact HI0.out));(case side2=>repeat (first|(with_reducible first|exact HB.out|apply below_alloc|apply pw_below_drewN|apply below_drew1|refine below_set ?_ (IsS86.ge HI0.out)|refine below_set ?_ GE300.out)|exact HB.out));rintro e w8 ⟨rfl,hi,hb,hk⟩;refine ⟨_,rfl,?_⟩;have n0_:=Aside0.mk (KeepBut.blk hk (g':=gb300) (o:=.cells #[.int .i64 0,.int .i64 0] 26 (0,0)) (by (with_reducible repeat (first|refine blk_drewN ?_ _|refine blk_drew ?_|refine blk_alloc ?_ _));exact BK300.out) NB300_0.out (by simp));have n1_:=Aside0.mk (KeepBut.trans (by repeat (first|(with_reducible first|exact HK.out|apply KeepBut.set_|apply keep_drewN|apply keep_drew|apply keep_alloc|refine keep_far ?_ GW300.out _)|exact HK.out)) hk (.inl rfl));have n2_:=Aside0.mk (hb);have n3_:=Aside0.mk (hi);clear BK300;clear HK;clear HB;clear HI0;have BK300:=n0_;have HK:=n1_;have HB:=n2_;have HI0:=n3_;clear n0_ n1_ n2_ n3_;(try clear hb);(try clear hb2);(try clear hk);(try clear hi))|((with_reducible refine gate_callee (f:=89) rfl ?_);refine goesL_ (some 9) rfl rfl Try.func89 (by kernel_rfl) rfl #[.pointer (some ⟨g,0,none⟩),.int .i64 8] rfl (by (try simp only [List.map_toArray,List.map_cons,List.map_nil]);first|done|rfl|(simp only [List.length_drop,List.length_take];rfl)) ?_;(with_reducible refine (spec_l6Rd_pick.calls k g s0_0 t304 8 t305 t306 w0 _ ?side1 ?side2 A5.out).mono ?_);(case side1=>repeat (first|(with_reducible first|exact HI0.out|apply IsS86.alloc|apply IsS86.drewN|apply IsS86.drew|apply IsS86.set_1|refine IsS86.far ?_ NB0_300.out _)|exact HI0.out));(case side2=>repeat (first|(with_reducible first|exact HB.out|apply below_alloc|apply pw_below_drewN|apply below_drew1|refine below_set ?_ (IsS86.ge HI0.out)|refine below_set ?_ GE300.out)|exact HB.out));rintro e w9 ⟨rfl,hi,hb,hk⟩;refine ⟨_,rfl,?_⟩;have n0_:=Aside0.mk (KeepBut.blk hk (g':=gb300) (o:=.cells #[.int .i64 0,.int .i64 0] 26 (0,0)) (by (with_reducible repeat (first|refine blk_drewN ?_ _|refine blk_drew ?_|refine blk_alloc ?_ _));exact BK300.out) NB300_0.out (by simp));have n1_:=Aside0.mk (KeepBut.trans (by repeat (first|(with_reducible first|exact HK.out|apply KeepBut.set_|apply keep_drewN|apply keep_drew|apply keep_alloc|refine keep_far ?_ GW300.out _)|exact HK.out)) hk (.inl rfl));have n2_:=Aside0.mk (hb);have n3_:=Aside0.mk (hi);clear BK300;clear HK;clear HB;clear HI0;have BK300:=n0_;have HK:=n1_;have HB:=n2_;have HI0:=n3_;clear n0_ n1_ n2_ n3_;(try clear hb);(try clear hb2);(try clear hk);(try clear hi);have hnb10:=NB300_0.out;have hnc10:=NB0_300.out;have hcz11_0 : w9.cell? ⟨gb300,0,none⟩ = some (.int .i64 0):=(blk_cell BK300.out 0).trans rfl;have hcz11_1 : w9.cell? ⟨gb300,1,none⟩ = some (.int .i64 0):=(blk_cell BK300.out 1).trans rfl;have hfz11_0:=blk_frozen BK300.out 0;have hfz11_1:=blk_frozen BK300.out 1))
  refine bodyPost_ret (results_cell_row rfl _ _ gb300 26 #[.int .i64 t303,.int .i64 t305] (0,0) _ rfl (by (with_reducible repeat (first|refine blk_drewN ?_ _|refine blk_drew ?_|refine blk_alloc ?_ _));refine blk_put (cs:=#[.int .i64 t303,.int .i64 0]) ?_ 1 _ rfl;(with_reducible repeat (first|refine blk_drewN ?_ _|refine blk_drew ?_|refine blk_alloc ?_ _));refine blk_put (cs:=#[.int .i64 0,.int .i64 0]) ?_ 0 _ rfl;(with_reducible repeat (first|refine blk_drewN ?_ _|refine blk_drew ?_|refine blk_alloc ?_ _));exact BK300.out) Try.underlying26 rfl (by kernel_rfl)) rfl ?_
  exact ⟨by first|rfl|(simp [errW_none,errW_some] <;> rfl)|(simp [*,errW_none,errW_some] <;> rfl),by repeat (first|(with_reducible first|exact HI0.out|apply IsS86.alloc|apply IsS86.drewN|apply IsS86.drew|apply IsS86.set_1|refine IsS86.far ?_ NB0_300.out _)|exact HI0.out),by repeat (first|(with_reducible first|exact HB.out|apply below_alloc|apply pw_below_drewN|apply below_drew1|refine below_set ?_ (IsS86.ge HI0.out)|refine below_set ?_ GE300.out)|exact HB.out),by repeat (first|(with_reducible first|exact HK.out|apply KeepBut.set_|apply keep_drewN|apply keep_drew|apply keep_alloc|refine keep_far ?_ GW300.out _)|exact HK.out)⟩
 ·rw [if_neg c3] at H
  have c3b0 : (t301 == 0) = false:=beq_eq_false_iff_ne.mpr c3
  have c3b1 : (t301 != 0) = true:=bne_iff_ne.mpr c3
  replace H:=Option.bind_eq_some_iff.mp H
  obtain ⟨⟨t307,t308⟩,A120,H⟩:=H
  replace H : ((spec_l6Rd_pick.f k s0_0 t308 4).bind fun bt309=>(some (t307,bt309.1,bt309.2))) = some (r1,r2,r3):=H
  have A12:=Aside0.mk A120
  clear A120
  replace H:=Option.bind_eq_some_iff.mp H
  obtain ⟨⟨t309,t310⟩,A130,H⟩:=H
  replace H : (some (t307,t309,t310)) = some (r1,r2,r3):=H
  have A13:=Aside0.mk A130
  clear A130
  simp only [Option.some.injEq,Prod.mk.injEq] at H
  obtain ⟨rfl,rfl,rfl⟩:=H
  go_enter Try.func90,Try.ntmps90
  go_wp2_with (first|((with_reducible refine gate_dst (N:=2) rfl ?_);refine box_event ?hg (N:=2) ?hd (cs:=#[.int .i64 0,.int .i64 0]) (t:=26) ?hr ?_;(case hd=>rfl);(case hg=>rfl);(case hr=>first|(go_simp;done)|(go_simp;rfl));intro gb300 hg w14 hbox hb;have n0_:=Aside0.mk (IsS86.below (by repeat (first|(with_reducible first|exact HI0.out|apply IsS86.alloc|apply IsS86.drewN|apply IsS86.drew|apply IsS86.set_1)|exact HI0.out)) hb);have n1_:=Aside0.mk (KeepBut.trans (by repeat (first|(with_reducible first|exact HK.out|apply KeepBut.set_|apply keep_drewN|apply keep_drew|apply keep_alloc)|exact HK.out)) (KeepBut.of_below hb g none) (.inl rfl));have n2_:=Aside0.mk (below_step (by repeat (first|(with_reducible first|exact HB.out|apply below_alloc|apply pw_below_drewN|apply below_drew1|refine below_set ?_ (IsS86.ge HI0.out))|exact HB.out)) hb);have n3_:=Aside0.mk (hbox);have n4_:=Aside0.mk ((by rw [hg];exact (keep_size (w:=w) (g:=g) (row:=none) (by repeat (first|(with_reducible first|exact HK.out|apply KeepBut.set_|apply keep_drewN|apply keep_drew|apply keep_alloc)|exact HK.out))) : w.heap.size ≤ gb300));have n5_:=Aside0.mk ((Nat.le_trans HW0.out (by rw [hg];exact (keep_size (w:=w) (g:=g) (row:=none) (by repeat (first|(with_reducible first|exact HK.out|apply KeepBut.set_|apply keep_drewN|apply keep_drew|apply keep_alloc)|exact HK.out))) : w.heap.size ≤ gb300) : w0.heap.size ≤ gb300));have n6_:=Aside0.mk ((by rw [hg];exact Nat.ne_of_lt (IsS86.lt (show IsS86 w0 _ g s0_0 s0_1 from by repeat (first|(with_reducible first|exact HI0.out|apply IsS86.alloc|apply IsS86.drewN|apply IsS86.drew|apply IsS86.set_1)|exact HI0.out))) : g ≠ gb300));have n7_:=Aside0.mk ((by rw [hg];exact Nat.ne_of_gt (IsS86.lt (show IsS86 w0 _ g s0_0 s0_1 from by repeat (first|(with_reducible first|exact HI0.out|apply IsS86.alloc|apply IsS86.drewN|apply IsS86.drew|apply IsS86.set_1)|exact HI0.out))) : gb300 ≠ g));clear HI0;clear HK;clear HB;have HI0:=n0_;have HK:=n1_;have HB:=n2_;have BK300:=n3_;have GW300:=n4_;have GE300:=n5_;have NB0_300:=n6_;have NB300_0:=n7_;clear n0_ n1_ n2_ n3_ n4_ n5_ n6_ n7_;clear hb hbox hg)|((with_reducible refine gate_callee (f:=89) rfl ?_);refine goesL_ (some 4) rfl rfl Try.func89 (by kernel_rfl) rfl #[.pointer (some ⟨g,0,none⟩),.int .i64 10] rfl (by (try simp only [List.map_toArray,List.map_cons,List.map_nil]);first|done|rfl|(simp only [List.length_drop,List.length_take];rfl)) ?_;(with_reducible refine (spec_l6Rd_pick.calls k g s0_0 s0_1 10 t301 t302 w0 _ ?side1 ?side2 A2.out).mono ?_);(case side1=>repeat (first|(with_reducible first|exact HI0.out|apply IsS86.alloc|apply IsS86.drewN|apply IsS86.drew|apply IsS86.set_1|refine IsS86.far ?_ NB0_300.out _)|exact HI0.out));(case side2=>repeat (first|(with_reducible first|exact HB.out|apply below_alloc|apply pw_below_drewN|apply below_drew1|refine below_set ?_ (IsS86.ge HI0.out)|refine below_set ?_ GE300.out)|exact HB.out));rintro e w15 ⟨rfl,hi,hb,hk⟩;refine ⟨_,rfl,?_⟩;have n0_:=Aside0.mk (KeepBut.blk hk (g':=gb300) (o:=.cells #[.int .i64 0,.int .i64 0] 26 (0,0)) (by (with_reducible repeat (first|refine blk_drewN ?_ _|refine blk_drew ?_|refine blk_alloc ?_ _));exact BK300.out) NB300_0.out (by simp));have n1_:=Aside0.mk (KeepBut.trans (by repeat (first|(with_reducible first|exact HK.out|apply KeepBut.set_|apply keep_drewN|apply keep_drew|apply keep_alloc|refine keep_far ?_ GW300.out _)|exact HK.out)) hk (.inl rfl));have n2_:=Aside0.mk (hb);have n3_:=Aside0.mk (hi);clear BK300;clear HK;clear HB;clear HI0;have BK300:=n0_;have HK:=n1_;have HB:=n2_;have HI0:=n3_;clear n0_ n1_ n2_ n3_;(try clear hb);(try clear hb2);(try clear hk);(try clear hi))|((with_reducible refine gate_callee (f:=89) rfl ?_);refine goesL_ (some 12) rfl rfl Try.func89 (by kernel_rfl) rfl #[.pointer (some ⟨g,0,none⟩),.int .i64 4] rfl (by (try simp only [List.map_toArray,List.map_cons,List.map_nil]);first|done|rfl|(simp only [List.length_drop,List.length_take];rfl)) ?_;(with_reducible refine (spec_l6Rd_pick.calls k g s0_0 t302 4 t307 t308 w0 _ ?side1 ?side2 A12.out).mono ?_);(case side1=>repeat (first|(with_reducible first|exact HI0.out|apply IsS86.alloc|apply IsS86.drewN|apply IsS86.drew|apply IsS86.set_1|refine IsS86.far ?_ NB0_300.out _)|exact HI0.out));(case side2=>repeat (first|(with_reducible first|exact HB.out|apply below_alloc|apply pw_below_drewN|apply below_drew1|refine below_set ?_ (IsS86.ge HI0.out)|refine below_set ?_ GE300.out)|exact HB.out));rintro e w16 ⟨rfl,hi,hb,hk⟩;refine ⟨_,rfl,?_⟩;have n0_:=Aside0.mk (KeepBut.blk hk (g':=gb300) (o:=.cells #[.int .i64 0,.int .i64 0] 26 (0,0)) (by (with_reducible repeat (first|refine blk_drewN ?_ _|refine blk_drew ?_|refine blk_alloc ?_ _));exact BK300.out) NB300_0.out (by simp));have n1_:=Aside0.mk (KeepBut.trans (by repeat (first|(with_reducible first|exact HK.out|apply KeepBut.set_|apply keep_drewN|apply keep_drew|apply keep_alloc|refine keep_far ?_ GW300.out _)|exact HK.out)) hk (.inl rfl));have n2_:=Aside0.mk (hb);have n3_:=Aside0.mk (hi);clear BK300;clear HK;clear HB;clear HI0;have BK300:=n0_;have HK:=n1_;have HB:=n2_;have HI0:=n3_;clear n0_ n1_ n2_ n3_;(try clear hb);(try clear hb2);(try clear hk);(try clear hi))|((with_reducible refine gate_callee (f:=89) rfl ?_);refine goesL_ (some 14) rfl rfl Try.func89 (by kernel_rfl) rfl #[.pointer (some ⟨g,0,none⟩),.int .i64 4] rfl (by (try simp only [List.map_toArray,List.map_cons,List.map_nil]);first|done|rfl|(simp only [List.length_drop,List.length_take];rfl)) ?_;(with_reducible refine (spec_l6Rd_pick.calls k g s0_0 t308 4 t309 t310 w0 _ ?side1 ?side2 A13.out).mono ?_);(case side1=>repeat (first|(with_reducible first|exact HI0.out|apply IsS86.alloc|apply IsS86.drewN|apply IsS86.drew|apply IsS86.set_1|refine IsS86.far ?_ NB0_300.out _)|exact HI0.out));(case side2=>repeat (first|(with_reducible first|exact HB.out|apply below_alloc|apply pw_below_drewN|apply below_drew1|refine below_set ?_ (IsS86.ge HI0.out)|refine below_set ?_ GE300.out)|exact HB.out));rintro e w17 ⟨rfl,hi,hb,hk⟩;refine ⟨_,rfl,?_⟩;have n0_:=Aside0.mk (KeepBut.blk hk (g':=gb300) (o:=.cells #[.int .i64 0,.int .i64 0] 26 (0,0)) (by (with_reducible repeat (first|refine blk_drewN ?_ _|refine blk_drew ?_|refine blk_alloc ?_ _));exact BK300.out) NB300_0.out (by simp));have n1_:=Aside0.mk (KeepBut.trans (by repeat (first|(with_reducible first|exact HK.out|apply KeepBut.set_|apply keep_drewN|apply keep_drew|apply keep_alloc|refine keep_far ?_ GW300.out _)|exact HK.out)) hk (.inl rfl));have n2_:=Aside0.mk (hb);have n3_:=Aside0.mk (hi);clear BK300;clear HK;clear HB;clear HI0;have BK300:=n0_;have HK:=n1_;have HB:=n2_;have HI0:=n3_;clear n0_ n1_ n2_ n3_;(try clear hb);(try clear hb2);(try clear hk);(try clear hi);have hnb18:=NB300_0.out;have hnc18:=NB0_300.out;have hcz19_0 : w17.cell? ⟨gb300,0,none⟩ = some (.int .i64 0):=(blk_cell BK300.out 0).trans rfl;have hcz19_1 : w17.cell? ⟨gb300,1,none⟩ = some (.int .i64 0):=(blk_cell BK300.out 1).trans rfl;have hfz19_0:=blk_frozen BK300.out 0;have hfz19_1:=blk_frozen BK300.out 1))
  refine bodyPost_ret (results_cell_row rfl _ _ gb300 26 #[.int .i64 t307,.int .i64 t309] (0,0) _ rfl (by (with_reducible repeat (first|refine blk_drewN ?_ _|refine blk_drew ?_|refine blk_alloc ?_ _));refine blk_put (cs:=#[.int .i64 t307,.int .i64 0]) ?_ 1 _ rfl;(with_reducible repeat (first|refine blk_drewN ?_ _|refine blk_drew ?_|refine blk_alloc ?_ _));refine blk_put (cs:=#[.int .i64 0,.int .i64 0]) ?_ 0 _ rfl;(with_reducible repeat (first|refine blk_drewN ?_ _|refine blk_drew ?_|refine blk_alloc ?_ _));exact BK300.out) Try.underlying26 rfl (by kernel_rfl)) rfl ?_
  exact ⟨by first|rfl|(simp [errW_none,errW_some] <;> rfl)|(simp [*,errW_none,errW_some] <;> rfl),by repeat (first|(with_reducible first|exact HI0.out|apply IsS86.alloc|apply IsS86.drewN|apply IsS86.drew|apply IsS86.set_1|refine IsS86.far ?_ NB0_300.out _)|exact HI0.out),by repeat (first|(with_reducible first|exact HB.out|apply below_alloc|apply pw_below_drewN|apply below_drew1|refine below_set ?_ (IsS86.ge HI0.out)|refine below_set ?_ GE300.out)|exact HB.out),by repeat (first|(with_reducible first|exact HK.out|apply KeepBut.set_|apply keep_drewN|apply keep_drew|apply keep_alloc|refine keep_far ?_ GW300.out _)|exact HK.out)⟩
def spec_l71Row.f (k : Nat) (s0_0 : List Int) (s0_1 : Int) : Option (Int × Int × Int × Int × Int × Int) := (spec_l6Rd_pick.f k s0_0 s0_1 4).bind fun bt312 => ((some (([0, 1, 2, 3, 4, 9, 10, 57, 99] : List Int) : List Int)).bind fun y314 => ((spec_l6Rd_pick.f k s0_0 bt312.2 9).bind fun bt317 => (if 0 ≤ bt317.1 then (if bt317.1 < (y314.length : Int) then ((spec_l71Time.f k s0_0 bt317.2).bind fun bt320 => ((some (([1, 1, 1, 2, (-1), (-1), 3, 0] : List Int) : List Int)).bind fun y323 => ((spec_l6Rd_pick.f k s0_0 bt320.2.2 8).bind fun bt326 => (if 0 ≤ bt326.1 then (if bt326.1 < (y323.length : Int) then (some (bt312.1, rd y314 bt317.1, bt320.1, bt320.2.1, rd y323 bt326.1, bt326.2)) else (none)) else (none))))) else (none)) else (none))))
theorem spec_l71Row.mono : ∀ a0 a1 k,LeO (spec_l71Row.f k a0 a1) (spec_l71Row.f (k + 1) a0 a1):=by
 intro a0 a1 k
 unfold spec_l71Row.f
 repeat' first
   | (with_reducible exact spec_l6Rd_pick.mono _ _ _ _)
   | (with_reducible exact spec_l71Time.mono _ _ _)
   | (with_reducible exact LeO.refl _)
   | (with_reducible exact LeO.none _)
   | (with_reducible refine LeO.ite ?_ ?_)
   | (with_reducible refine LeO.bind ?_ (fun _=>?_))
   | exact spec_l6Rd_pick.mono _ _ _ _
   | exact spec_l71Time.mono _ _ _
   | exact LeO.none _
   | refine LeO.ite ?_ ?_
   | refine LeO.bind ?_ (fun _=>?_)
def spec_l71Row.T1 : Bool × List (List Nat × List Nat) := (true, [([], []), ([0], [0]), ([], []), ([], []), ([3, 1], [3]), ([2, 4], [2, 4]), ([5], [5]), ([], []), ([7, 4], [7]), ([], []), ([], []), ([10, 8], [10]), ([9, 11], [9, 11]), ([12], [12]), ([1, 6, 8, 13], [1, 6, 8, 13]), ([14, 11, 0, 1, 2, 3, 4, 5, 6, 7, 8, 9, 10, 11, 12, 13, 14], [14])])
def spec_l71Row.B1 : List Nat := [0, 1, 0, 0, 11, 31, 63, 0, 155, 0, 0, 1435, 3995, 8091, 16383, 32767]
theorem spec_l71Row.tab1 : rtab .any (opsOf Try.f97 1) = spec_l71Row.T1:=by kernel_rfl
theorem spec_l71Row.bits1 : waitsOk spec_l71Row.T1.2 spec_l71Row.B1 = true:=by kernel_rfl
set_option maxHeartbeats 8000000 in
set_option maxRecDepth 100000 in
theorem spec_l71Row.calls (k : Nat) (g : Nat) (s0_0 : List Int) (s0_1 : Int) (r1 : Int) (r2 : Int) (r3 : Int) (r4 : Int) (r5 : Int) (r6 : Int) (w0 w : World) (hI : IsS86 w0 w g s0_0 s0_1) (hB : Below w0.heap.size w0 w) (h : spec_l71Row.f k s0_0 s0_1 = some (r1,r2,r3,r4,r5,r6)) :
  Calls Try.prog 97 #[.pointer (some ⟨g,0,none⟩)] w fun e w'=>e = .returned (.agg #[.int .i64 r1,.int .i64 r2,.int .i64 r3,.int .i64 r4,.int .i64 r5]) ∧ IsS86 w0 w' g s0_0 r6 ∧ Below w0.heap.size w0 w' ∧ KeepBut w w' g none:=by
 have hu67:=Try.underlying67
 have HI0:=Aside0.mk hI
 have HK:=Aside0.mk (KeepBut.refl w g none)
 have HL:=Aside0.mk hB.size
 clear hI
 have HW0:=Aside0.mk hB.size
 have HB:=Aside0.mk hB
 clear hB
 have H : ((spec_l6Rd_pick.f k s0_0 s0_1 4).bind fun bt312=>((some (([0,1,2,3,4,9,10,57,99] : List Int) : List Int)).bind fun y314=>((spec_l6Rd_pick.f k s0_0 bt312.2 9).bind fun bt317=>(if 0 ≤ bt317.1 then (if bt317.1 < (y314.length : Int) then ((spec_l71Time.f k s0_0 bt317.2).bind fun bt320=>((some (([1,1,1,2,(-1),(-1),3,0] : List Int) : List Int)).bind fun y323=>((spec_l6Rd_pick.f k s0_0 bt320.2.2 8).bind fun bt326=>(if 0 ≤ bt326.1 then (if bt326.1 < (y323.length : Int) then (some (bt312.1,rd y314 bt317.1,bt320.1,bt320.2.1,rd y323 bt326.1,bt326.2)) else (none)) else (none))))) else (none)) else (none))))) = some (r1,r2,r3,r4,r5,r6):=h
 clear h
 replace H:=Option.bind_eq_some_iff.mp H
 obtain ⟨⟨t312,t313⟩,A20,H⟩:=H
 replace H : ((some (([0,1,2,3,4,9,10,57,99] : List Int) : List Int)).bind fun y314=>((spec_l6Rd_pick.f k s0_0 t313 9).bind fun bt317=>(if 0 ≤ bt317.1 then (if bt317.1 < (y314.length : Int) then ((spec_l71Time.f k s0_0 bt317.2).bind fun bt320=>((some (([1,1,1,2,(-1),(-1),3,0] : List Int) : List Int)).bind fun y323=>((spec_l6Rd_pick.f k s0_0 bt320.2.2 8).bind fun bt326=>(if 0 ≤ bt326.1 then (if bt326.1 < (y323.length : Int) then (some (t312,rd y314 bt317.1,bt320.1,bt320.2.1,rd y323 bt326.1,bt326.2)) else (none)) else (none))))) else (none)) else (none)))) = some (r1,r2,r3,r4,r5,r6):=H
 have A2:=Aside0.mk A20
 clear A20
 obtain ⟨y314,hy314⟩ : ∃ y_ : List Int,y_ = (([0,1,2,3,4,9,10,57,99] : List Int)):=⟨_,rfl⟩
 replace H : ((spec_l6Rd_pick.f k s0_0 t313 9).bind fun bt317=>(if 0 ≤ bt317.1 then (if bt317.1 < (y314.length : Int) then ((spec_l71Time.f k s0_0 bt317.2).bind fun bt320=>((some (([1,1,1,2,(-1),(-1),3,0] : List Int) : List Int)).bind fun y323=>((spec_l6Rd_pick.f k s0_0 bt320.2.2 8).bind fun bt326=>(if 0 ≤ bt326.1 then (if bt326.1 < (y323.length : Int) then (some (t312,rd y314 bt317.1,bt320.1,bt320.2.1,rd y323 bt326.1,bt326.2)) else (none)) else (none))))) else (none)) else (none))) = some (r1,r2,r3,r4,r5,r6):=by first|(rw [hy314];with_reducible exact H)|(have H2_:=(Option.bind_some _ _).symm.trans H;rw [hy314];with_reducible exact H2_)|(have H2_:=(Option.bind_some _ _).symm.trans H;with_reducible exact H2_)|with_reducible exact H|(rw [hy314];exact H)|exact H
 have Ny314:=Aside0.mk hy314
 clear hy314
 replace H:=Option.bind_eq_some_iff.mp H
 obtain ⟨⟨t317,t318⟩,A30,H⟩:=H
 replace H : (if 0 ≤ t317 then (if t317 < (y314.length : Int) then ((spec_l71Time.f k s0_0 t318).bind fun bt320=>((some (([1,1,1,2,(-1),(-1),3,0] : List Int) : List Int)).bind fun y323=>((spec_l6Rd_pick.f k s0_0 bt320.2.2 8).bind fun bt326=>(if 0 ≤ bt326.1 then (if bt326.1 < (y323.length : Int) then (some (t312,rd y314 t317,bt320.1,bt320.2.1,rd y323 bt326.1,bt326.2)) else (none)) else (none))))) else (none)) else (none)) = some (r1,r2,r3,r4,r5,r6):=H
 have A3:=Aside0.mk A30
 clear A30
 by_cases c4 : 0 ≤ t317
 ·rw [if_pos c4] at H
  have c4b0 : decide (0 ≤ t317) = true:=decide_eq_true c4
  clear c4
  by_cases c5 : t317 < (y314.length : Int)
  ·rw [if_pos c5] at H
   have c5b0 : decide (t317 < (y314.length : Int)) = true:=decide_eq_true c5
   clear c5
   replace H:=Option.bind_eq_some_iff.mp H
   obtain ⟨⟨t320,t321,t322⟩,A60,H⟩:=H
   replace H : ((some (([1,1,1,2,(-1),(-1),3,0] : List Int) : List Int)).bind fun y323=>((spec_l6Rd_pick.f k s0_0 t322 8).bind fun bt326=>(if 0 ≤ bt326.1 then (if bt326.1 < (y323.length : Int) then (some (t312,rd y314 t317,t320,t321,rd y323 bt326.1,bt326.2)) else (none)) else (none)))) = some (r1,r2,r3,r4,r5,r6):=H
   have A6:=Aside0.mk A60
   clear A60
   obtain ⟨y323,hy323⟩ : ∃ y_ : List Int,y_ = (([1,1,1,2,(-1),(-1),3,0] : List Int)):=⟨_,rfl⟩
   replace H : ((spec_l6Rd_pick.f k s0_0 t322 8).bind fun bt326=>(if 0 ≤ bt326.1 then (if bt326.1 < (y323.length : Int) then (some (t312,rd y314 t317,t320,t321,rd y323 bt326.1,bt326.2)) else (none)) else (none))) = some (r1,r2,r3,r4,r5,r6):=by first|(rw [hy323];with_reducible exact H)|(have H2_:=(Option.bind_some _ _).symm.trans H;rw [hy323];with_reducible exact H2_)|(have H2_:=(Option.bind_some _ _).symm.trans H;with_reducible exact H2_)|with_reducible exact H|(rw [hy323];exact H)|exact H
   have Ny323:=Aside0.mk hy323
   clear hy323
   replace H:=Option.bind_eq_some_iff.mp H
   obtain ⟨⟨t326,t327⟩,A70,H⟩:=H
   replace H : (if 0 ≤ t326 then (if t326 < (y323.length : Int) then (some (t312,rd y314 t317,t320,t321,rd y323 t326,t327)) else (none)) else (none)) = some (r1,r2,r3,r4,r5,r6):=H
   have A7:=Aside0.mk A70
   clear A70
   by_cases c8 : 0 ≤ t326
   ·rw [if_pos c8] at H
    have c8b0 : decide (0 ≤ t326) = true:=decide_eq_true c8
    clear c8
    by_cases c9 : t326 < (y323.length : Int)
    ·rw [if_pos c9] at H
     have c9b0 : decide (t326 < (y323.length : Int)) = true:=decide_eq_true c9
     clear c9
     simp only [Option.some.injEq,Prod.mk.injEq] at H
     obtain ⟨rfl,rfl,rfl,rfl,rfl,rfl⟩:=H
     go_enter Try.func97,Try.ntmps97
     try go_wp2_with (first|((with_reducible refine gate_dst (N:=2) rfl ?_);refine box_event ?hg (N:=2) ?hd (cs:=#[.int .i64 0,.int .i64 0,.int .i64 0,.int .i64 0,.int .i64 0]) (t:=67) ?hr ?_;(case hd=>rfl);(case hg=>rfl);(case hr=>first|(go_simp;done)|(go_simp;rfl));intro gb311 hg w10 hbox hb;have n0_:=Aside0.mk (IsS86.below (by repeat (first|(with_reducible first|exact HI0.out|apply IsS86.alloc|apply IsS86.drewN|apply IsS86.drew|apply IsS86.set_1)|exact HI0.out)) hb);have n1_:=Aside0.mk (KeepBut.trans (by repeat (first|(with_reducible first|exact HK.out|apply KeepBut.set_|apply keep_drewN|apply keep_drew|apply keep_alloc)|exact HK.out)) (KeepBut.of_below hb g none) (.inl rfl));have n2_:=Aside0.mk (below_step (by repeat (first|(with_reducible first|exact HB.out|apply below_alloc|apply pw_below_drewN|apply below_drew1|refine below_set ?_ (IsS86.ge HI0.out))|exact HB.out)) hb);have n3_:=Aside0.mk (hbox);have n4_:=Aside0.mk ((by rw [hg];exact (keep_size (w:=w) (g:=g) (row:=none) (by repeat (first|(with_reducible first|exact HK.out|apply KeepBut.set_|apply keep_drewN|apply keep_drew|apply keep_alloc)|exact HK.out))) : w.heap.size ≤ gb311));have n5_:=Aside0.mk ((Nat.le_trans HW0.out (by rw [hg];exact (keep_size (w:=w) (g:=g) (row:=none) (by repeat (first|(with_reducible first|exact HK.out|apply KeepBut.set_|apply keep_drewN|apply keep_drew|apply keep_alloc)|exact HK.out))) : w.heap.size ≤ gb311) : w0.heap.size ≤ gb311));have n6_:=Aside0.mk ((by rw [hg];exact Nat.ne_of_lt (IsS86.lt (show IsS86 w0 _ g s0_0 s0_1 from by repeat (first|(with_reducible first|exact HI0.out|apply IsS86.alloc|apply IsS86.drewN|apply IsS86.drew|apply IsS86.set_1)|exact HI0.out))) : g ≠ gb311));have n7_:=Aside0.mk ((by rw [hg];exact Nat.ne_of_gt (IsS86.lt (show IsS86 w0 _ g s0_0 s0_1 from by repeat (first|(with_reducible first|exact HI0.out|apply IsS86.alloc|apply IsS86.drewN|apply IsS86.drew|apply IsS86.set_1)|exact HI0.out))) : gb311 ≠ g));clear HI0;clear HK;clear HB;have HI0:=n0_;have HK:=n1_;have HB:=n2_;have BK311:=n3_;have GW311:=n4_;have GE311:=n5_;have NB0_311:=n6_;have NB311_0:=n7_;clear n0_ n1_ n2_ n3_ n4_ n5_ n6_ n7_;clear hb hbox hg))
     have pi319 : (0 ≤ (t317 : Int)) = True:=eq_true (of_decide_eq_true (by first|(with_reducible assumption)|assumption))
     have qi319 : (t317 < (y314.length : Int)) = True:=eq_true (of_decide_eq_true (by first|(with_reducible assumption)|assumption))
     have pi328 : (0 ≤ (t326 : Int)) = True:=eq_true (of_decide_eq_true (by first|(with_reducible assumption)|assumption))
     have qi328 : (t326 < (y323.length : Int)) = True:=eq_true (of_decide_eq_true (by first|(with_reducible assumption)|assumption))
     have n0_:=Aside0.mk (blk_drew BK311.out)
     have n1_:=Aside0.mk (IsS86.drew HI0.out)
     have n2_:=Aside0.mk (keep_drew HK.out)
     have n3_:=Aside0.mk (below_drew1 HB.out)
     clear BK311
     clear HI0
     clear HK
     clear HB
     have BK311:=n0_
     have HI0:=n1_
     have HK:=n2_
     have HB:=n3_
     clear n0_ n1_ n2_ n3_
     refine start_ (n:=16) (S:=fun w'=>True) (ds:=[]) b16_0 (by kernel_rfl) rfl rfl trivial (fun hHeld=>?_);refine with_tabW spec_l71Row.tab1 spec_l71Row.bits1 (fun HT_ HW_=>?_)
     generalize w10.drew = w11 at BK311 HI0 HK HB hHeld ⊢
     refine pure_ (i:=0) (N:=some 3) (v:=?_) (a':=?_) b16_1 rfl rfl (any_of HT_.out (by kernel_rfl)) (fun _ _ _ h=>h) (Or.inl ⟨by rfl,?_⟩) ?_ ?_
     rotate_left
     ·intro w'
      go_simp
      with_reducible rfl
     rotate_left
     ·simp only [Act.put,sA_,sZ_,sS_,i64_w,i32_w]
      rfl
     refine pure_ (i:=3) (N:=some 6) (v:=?_) (a':=?_) c119 rfl rfl (any_of HT_.out (by kernel_rfl)) (fun _ _ _ h=>h) (Or.inl ⟨by rfl,?_⟩) ?_ ?_
     rotate_left
     ·intro w'
      go_simp
      with_reducible rfl
     rotate_left
     ·simp only [Act.put,sA_,sZ_,sS_,i64_w,i32_w]
      rfl
     refine pure_ (i:=7) (N:=some 10) (v:=?_) (a':=?_) c120 rfl rfl (any_of HT_.out (by kernel_rfl)) (fun _ _ _ h=>h) (Or.inl ⟨by rfl,?_⟩) ?_ ?_
     rotate_left
     ·intro w'
      go_simp
      with_reducible rfl
     rotate_left
     ·simp only [Act.put,sA_,sZ_,sS_,i64_w,i32_w]
      rfl
     refine pure_ (i:=10) (N:=some 13) (v:=?_) (a':=?_) c121 rfl rfl (any_of HT_.out (by kernel_rfl)) (fun _ _ _ h=>h) (Or.inl ⟨by rfl,?_⟩) ?_ ?_
     rotate_left
     ·intro w'
      go_simp
      with_reducible rfl
     rotate_left
     ·simp only [Act.put,sA_,sZ_,sS_,i64_w,i32_w]
      rfl
     refine inv_at [1,2,4,5,6,8,9,11,12,13,14,15] (fun a0_ b a w'=>∃ (v315 : Value) (adz_v315 : Addr) (v324 : Value) (adz_v324 : Addr) (m5_ : Value) (m12_ : Value),a = putSel a0_ b [(1,4,.int .i64 t312),(2,5,v315),(4,7,.int .i64 t317),(5,8,m5_),(6,9,.int .i64 (rd y314 t317)),(8,11,.agg #[.int .i64 t320,.int .i64 t321]),(9,12,v324),(11,14,.int .i64 t326),(12,15,m12_),(13,16,.int .i64 (rd y323 t326)),(14,17,.agg #[.int .i64 t312,.int .i64 (rd y314 t317),.int .i64 t320,.int .i64 t321,.int .i64 (rd y323 t326)])] ∧ (b 15 = false → w'.heap[gb311]? = some (.cells #[.int .i64 0,.int .i64 0,.int .i64 0,.int .i64 0,.int .i64 0] 67 (0,0))) ∧ (b 1 = false → IsS86 w0 w' g s0_0 s0_1) ∧ (KeepBut w w' g none) ∧ (Below w0.heap.size w0 w') ∧ (b 1 = true → b 4 = false → IsS86 w0 w' g s0_0 t313) ∧ (b 2 = true → Kd.R (Kd.int .i64) 3 w' w.heap.size (fun _=>True) v315 y314) ∧ (b 2 = true → ∃ c_,(v315 : Value) = .slice (some adz_v315) y314.length c_) ∧ (b 4 = true → b 8 = false → IsS86 w0 w' g s0_0 t318) ∧ (b 8 = true → b 11 = false → IsS86 w0 w' g s0_0 t322) ∧ (b 9 = true → Kd.R (Kd.int .i64) 3 w' w.heap.size (fun _=>True) v324 y323) ∧ (b 9 = true → ∃ c_,(v324 : Value) = .slice (some adz_v324) y323.length c_) ∧ (b 11 = true → IsS86 w0 w' g s0_0 t327) ∧ (b 15 = true → w'.heap[gb311]? = some (.cells #[.int .i64 t312,.int .i64 (rd y314 t317),.int .i64 t320,.int .i64 t321,.int .i64 (rd y323 t326)] 67 (0,0))) ∧ (b 5 = true → (m5_ : Value) = .pointer (some (adz_v315.add (t317).toNat))) ∧ (b 12 = true → (m12_ : Value) = .pointer (some (adz_v324.add (t326).toNat)))) HT_.out HW_.out (by kernel_rfl) (by kernel_rfl) ?_ ?_ ?_
     ·exact ⟨.bool false,⟨0,0,none⟩,.bool false,⟨0,0,none⟩,.bool false,.bool false,by simp only [putSel,Bool.false_eq_true,if_false],fun _=>BK311.out,fun _=>HI0.out,HK.out,HB.out,fun h_=>absurd h_ (by decide),fun h_=>absurd h_ (by decide),fun h_=>absurd h_ (by decide),fun h_=>absurd h_ (by decide),fun h_=>absurd h_ (by decide),fun h_=>absurd h_ (by decide),fun h_=>absurd h_ (by decide),fun h_=>absurd h_ (by decide),fun h_=>absurd h_ (by decide),fun h_=>absurd h_ (by decide),fun h_=>absurd h_ (by decide)⟩
     ·skip
      clear BK311 HB HI0 HK
      refine steps_cons ?_ ?_
      ·rintro b a w' ⟨v315,adz_v315,v324,adz_v324,m5_,m12_,ha,Q_BK311,Q_HI0,Q_HK,Q_HB,Q_HI0_e1,Q_HO316,Q_HA_HO316,Q_HI0_e4,Q_HI0_e8,Q_HO325,Q_HA_HO325,Q_HI0_e11,Q_BK311_e15,Q_X5_,Q_X12_⟩ hb_ hon hoff
       refine ⟨_,rfl,fun K hK=>?_⟩
       have e3 : a.tmps[3]? = some (.pointer (some ⟨g,0,none⟩)):=by rw [ha];exact (putSel_off rfl).trans rfl
       replace ha:=Aside0.mk ha
       have BK311:=Aside0.mk (Q_BK311 (hoff 15 (by kernel_rfl)))
       have HI0:=Aside0.mk (Q_HI0 hb_)
       have HK:=Aside0.mk Q_HK
       have HB:=Aside0.mk Q_HB
       refine goes_ Try.func89 (by kernel_rfl) rfl #[.pointer (some ⟨g,0,none⟩),.int .i64 4] (by rfl) rfl rfl (by first|(simp only [List.map_toArray,List.map_cons,List.map_nil,Act.eval,Array.getD_eq_getD_getElem?,Option.getD_some,e3];done)|(simp only [List.map_toArray,List.map_cons,List.map_nil,Act.eval,Array.getD_eq_getD_getElem?,Option.getD_some,e3];rfl)) ?_
       with_reducible refine (spec_l6Rd_pick.calls k g s0_0 s0_1 4 t312 t313 w0 _ ?side1 ?side2 A2.out).mono ?_
       (case side1=>repeat (first|(with_reducible first|exact HI0.out|apply IsS86.alloc|apply IsS86.drewN|apply IsS86.drew|apply IsS86.set_1|refine IsS86.far ?_ NB0_311.out _)|exact HI0.out))
       (case side2=>repeat (first|(with_reducible first|exact HB.out|apply below_alloc|apply pw_below_drewN|apply below_drew1|refine below_set ?_ (IsS86.ge HI0.out)|refine below_set ?_ GE311.out)|exact HB.out))
       rintro e w12 ⟨rfl,hi,hb,hk⟩
       refine ⟨_,rfl,?_⟩
       have n0_:=Aside0.mk (KeepBut.blk hk (g':=gb311) (o:=.cells #[.int .i64 0,.int .i64 0,.int .i64 0,.int .i64 0,.int .i64 0] 67 (0,0)) (by (with_reducible repeat (first|refine blk_drewN ?_ _|refine blk_drew ?_|refine blk_alloc ?_ _));exact BK311.out) NB311_0.out (by simp))
       have n1_:=Aside0.mk (KeepBut.trans (by repeat (first|(with_reducible first|exact HK.out|apply KeepBut.set_|apply keep_drewN|apply keep_drew|apply keep_alloc|refine keep_far ?_ GW311.out _)|exact HK.out)) hk (.inl rfl))
       have n2_:=Aside0.mk (hb)
       have n3_:=Aside0.mk (hi)
       have z_HO316:=fun (h0_ : b 2 = true)=>(show Kd.R (Kd.int .i64) 3 w12 w.heap.size (fun _=>True) v315 y314 from by first|exact (Kd.R_mono (Kd.R_keep (IsS86.apart (show IsS86 w0 _ g s0_0 s0_1 from by repeat (first|(with_reducible first|exact HI0.out|apply IsS86.alloc|apply IsS86.drewN|apply IsS86.drew|apply IsS86.set_1|refine IsS86.far ?_ NB0_311.out _)|exact HI0.out)) (by (with_reducible repeat (first|apply Kd.R_alloc|apply Kd.R_drewN|apply Kd.R_drew));exact (Q_HO316 h0_)) (by decide)) hk (fun _ h=>h.2)) (fun _ h=>h.1))|exact Kd.R_mono (Kd.R_mono (Kd.R_keep (IsS86.apart (show IsS86 w0 _ g s0_0 s0_1 from by repeat (first|(with_reducible first|exact HI0.out|apply IsS86.alloc|apply IsS86.drewN|apply IsS86.drew|apply IsS86.set_1|refine IsS86.far ?_ NB0_311.out _)|exact HI0.out)) (by (with_reducible repeat (first|apply Kd.R_alloc|apply Kd.R_drewN|apply Kd.R_drew));exact (Q_HO316 h0_)) (by decide)) hk (fun _ h=>h.2)) (fun _ h=>h.1)) (fun _ h_=>by first|trivial|exact h_|exact h_.1))
       have z_HO325:=fun (h0_ : b 9 = true)=>(show Kd.R (Kd.int .i64) 3 w12 w.heap.size (fun _=>True) v324 y323 from by first|exact (Kd.R_mono (Kd.R_keep (IsS86.apart (show IsS86 w0 _ g s0_0 s0_1 from by repeat (first|(with_reducible first|exact HI0.out|apply IsS86.alloc|apply IsS86.drewN|apply IsS86.drew|apply IsS86.set_1|refine IsS86.far ?_ NB0_311.out _)|exact HI0.out)) (by (with_reducible repeat (first|apply Kd.R_alloc|apply Kd.R_drewN|apply Kd.R_drew));exact (Q_HO325 h0_)) (by decide)) hk (fun _ h=>h.2)) (fun _ h=>h.1))|exact Kd.R_mono (Kd.R_mono (Kd.R_keep (IsS86.apart (show IsS86 w0 _ g s0_0 s0_1 from by repeat (first|(with_reducible first|exact HI0.out|apply IsS86.alloc|apply IsS86.drewN|apply IsS86.drew|apply IsS86.set_1|refine IsS86.far ?_ NB0_311.out _)|exact HI0.out)) (by (with_reducible repeat (first|apply Kd.R_alloc|apply Kd.R_drewN|apply Kd.R_drew));exact (Q_HO325 h0_)) (by decide)) hk (fun _ h=>h.2)) (fun _ h=>h.1)) (fun _ h_=>by first|trivial|exact h_|exact h_.1))
       clear BK311
       clear HK
       clear HB
       clear HI0
       have BK311:=n0_
       have HK:=n1_
       have HB:=n2_
       have HI0:=n3_
       clear n0_ n1_ n2_ n3_
       (try clear hb)
       (try clear hb2)
       (try clear hk)
       (try clear hi)
       refine hK.out _ _ ⟨v315,adz_v315,v324,adz_v324,m5_,m12_,(by rw [ha.out];exact putSel_upk 0 hb_ rfl rfl rfl),fun _=>(by (with_reducible repeat (first|refine blk_drewN ?_ _|refine blk_drew ?_|refine blk_alloc ?_ _));exact BK311.out),fun h0_=>absurd ((up_self b 1).symm.trans h0_) (by decide),(by repeat (first|(with_reducible first|exact HK.out|apply KeepBut.set_|apply keep_drewN|apply keep_drew|apply keep_alloc|refine keep_far ?_ GW311.out _)|exact HK.out)),(by repeat (first|(with_reducible first|exact HB.out|apply below_alloc|apply pw_below_drewN|apply below_drew1|refine below_set ?_ (IsS86.ge HI0.out)|refine below_set ?_ GE311.out)|exact HB.out)),fun _ _=>(by repeat (first|(with_reducible first|exact HI0.out|apply IsS86.alloc|apply IsS86.drewN|apply IsS86.drew|apply IsS86.set_1|refine IsS86.far ?_ NB0_311.out _)|exact HI0.out)),z_HO316,Q_HA_HO316,fun h0_ _=>absurd ((hoff 4 (by kernel_rfl)).symm.trans h0_) (by decide),fun h0_ _=>absurd ((hoff 8 (by kernel_rfl)).symm.trans h0_) (by decide),z_HO325,Q_HA_HO325,fun h0_=>absurd ((hoff 11 (by kernel_rfl)).symm.trans h0_) (by decide),fun h0_=>absurd ((hoff 15 (by kernel_rfl)).symm.trans h0_) (by decide),fun h0_=>absurd ((hoff 5 (by kernel_rfl)).symm.trans h0_) (by decide),fun h0_=>absurd ((hoff 12 (by kernel_rfl)).symm.trans h0_) (by decide)⟩
      refine steps_cons ?_ ?_
      ·rintro b a w' ⟨v315,adz_v315,v324,adz_v324,m5_,m12_,ha,Q_BK311,Q_HI0,Q_HK,Q_HB,Q_HI0_e1,Q_HO316,Q_HA_HO316,Q_HI0_e4,Q_HI0_e8,Q_HO325,Q_HA_HO325,Q_HI0_e11,Q_BK311_e15,Q_X5_,Q_X12_⟩ hb_ hon hoff
       refine ⟨_,rfl,fun K hK=>?_⟩
       replace ha:=Aside0.mk ha
       have BK311:=Aside0.mk (Q_BK311 (hoff 15 (by kernel_rfl)))
       have HK:=Aside0.mk Q_HK
       have HB:=Aside0.mk Q_HB
       refine Kd.R_lit_step (Kd.int .i64) _ 3 ?hg (N:=5) ?hd (xs:=([0,1,2,3,4,9,10,57,99] : List Int)) (inner:=[.int .i64 0,.int .i64 1,.int .i64 2,.int .i64 3,.int .i64 4,.int .i64 9,.int .i64 10,.int .i64 57,.int .i64 99]) (ok:=fun _=>True) (okp:=fun _=>True) ?hr ?hp (fun _ hk=>hk) trivial (Below.refl _ _) (Nat.le_refl _) (by simp) ?_;(case hd=>rfl);(case hg=>rfl);(case hr=>first|(go_simp;done)|(go_simp;rfl));(case hp=>exact (Reps.one (show Kd.M (Kd.int .i64) _ _ _ 0 [.int .i64 0] from rfl) (Reps.one (show Kd.M (Kd.int .i64) _ _ _ 1 [.int .i64 1] from rfl) (Reps.one (show Kd.M (Kd.int .i64) _ _ _ 2 [.int .i64 2] from rfl) (Reps.one (show Kd.M (Kd.int .i64) _ _ _ 3 [.int .i64 3] from rfl) (Reps.one (show Kd.M (Kd.int .i64) _ _ _ 4 [.int .i64 4] from rfl) (Reps.one (show Kd.M (Kd.int .i64) _ _ _ 9 [.int .i64 9] from rfl) (Reps.one (show Kd.M (Kd.int .i64) _ _ _ 10 [.int .i64 10] from rfl) (Reps.one (show Kd.M (Kd.int .i64) _ _ _ 57 [.int .i64 57] from rfl) (Reps.one (show Kd.M (Kd.int .i64) _ _ _ 99 [.int .i64 99] from rfl) (Reps.none _ _)))))))))))
       intro v315 w12 ho13 hb hg_ hnew_
       clear hg_ hnew_
       (first|rw [← Ny314.out] at ho13|(simp only [Int.reduceToNat] at ho13;rw [← Ny314.out] at ho13))
       have n0_:=Aside0.mk (Kd.R_lower ho13 (keep_size (w:=w) (g:=g) (row:=none) (by repeat (first|(with_reducible first|exact HK.out|apply KeepBut.set_|apply keep_drewN|apply keep_drew|apply keep_alloc|refine keep_far ?_ GW311.out _)|exact HK.out))))
       have n2_:=Aside0.mk (blk_below (g:=gb311) (o:=.cells #[.int .i64 0,.int .i64 0,.int .i64 0,.int .i64 0,.int .i64 0] 67 (0,0)) (by (with_reducible repeat (first|refine blk_drewN ?_ _|refine blk_drew ?_|refine blk_alloc ?_ _));exact BK311.out) hb)
       have n3_:=Aside0.mk (KeepBut.trans (by repeat (first|(with_reducible first|exact HK.out|apply KeepBut.set_|apply keep_drewN|apply keep_drew|apply keep_alloc|refine keep_far ?_ GW311.out _)|exact HK.out)) (KeepBut.of_below hb g none) (.inl rfl))
       have n4_:=Aside0.mk (below_step (by repeat (first|(with_reducible first|exact HB.out|apply below_alloc|apply pw_below_drewN|apply below_drew1|refine below_set ?_ GE311.out)|exact HB.out)) hb)
       have z_HI0:=fun (h0_ : b 1 = false)=>(show IsS86 w0 w12 g s0_0 s0_1 from by first|exact (IsS86.below (by repeat (first|(with_reducible first|exact (Q_HI0 h0_)|apply IsS86.alloc|apply IsS86.drewN|apply IsS86.drew|apply IsS86.set_1|refine IsS86.far ?_ NB0_311.out _)|exact (Q_HI0 h0_))) hb))
       have z_HI0_e1:=fun (h0_ : b 1 = true) (h1_ : b 4 = false)=>(show IsS86 w0 w12 g s0_0 t313 from by first|exact (IsS86.below (by repeat (first|(with_reducible first|exact (Q_HI0_e1 h0_ h1_)|apply IsS86.alloc|apply IsS86.drewN|apply IsS86.drew|apply IsS86.set_1|refine IsS86.far ?_ NB0_311.out _)|exact (Q_HI0_e1 h0_ h1_))) hb))
       have z_HI0_e4:=fun (h0_ : b 4 = true) (h1_ : b 8 = false)=>(show IsS86 w0 w12 g s0_0 t318 from by first|exact (IsS86.below (by repeat (first|(with_reducible first|exact (Q_HI0_e4 h0_ h1_)|apply IsS86.alloc|apply IsS86.drewN|apply IsS86.drew|apply IsS86.set_1|refine IsS86.far ?_ NB0_311.out _)|exact (Q_HI0_e4 h0_ h1_))) hb))
       have z_HI0_e8:=fun (h0_ : b 8 = true) (h1_ : b 11 = false)=>(show IsS86 w0 w12 g s0_0 t322 from by first|exact (IsS86.below (by repeat (first|(with_reducible first|exact (Q_HI0_e8 h0_ h1_)|apply IsS86.alloc|apply IsS86.drewN|apply IsS86.drew|apply IsS86.set_1|refine IsS86.far ?_ NB0_311.out _)|exact (Q_HI0_e8 h0_ h1_))) hb))
       have z_HO325:=fun (h0_ : b 9 = true)=>(show Kd.R (Kd.int .i64) 3 w12 w.heap.size (fun _=>True) v324 y323 from by first|exact (Kd.R_elder' (by (with_reducible repeat (first|apply Kd.R_alloc|apply Kd.R_drewN|apply Kd.R_drew));exact (Q_HO325 h0_)) (Kd.R_base ho13) hb)|exact Kd.R_mono (Kd.R_elder' (by (with_reducible repeat (first|apply Kd.R_alloc|apply Kd.R_drewN|apply Kd.R_drew));exact (Q_HO325 h0_)) (Kd.R_base ho13) hb) (fun _ h_=>by first|trivial|exact h_|exact h_.1))
       have z_HI0_e11:=fun (h0_ : b 11 = true)=>(show IsS86 w0 w12 g s0_0 t327 from by first|exact (IsS86.below (by repeat (first|(with_reducible first|exact (Q_HI0_e11 h0_)|apply IsS86.alloc|apply IsS86.drewN|apply IsS86.drew|apply IsS86.set_1|refine IsS86.far ?_ NB0_311.out _)|exact (Q_HI0_e11 h0_))) hb))
       clear BK311
       clear HK
       clear HB
       have HO316:=n0_
       have BK311:=n2_
       have HK:=n3_
       have HB:=n4_
       clear n0_ n2_ n3_ n4_
       clear hb ho13
       obtain ⟨Ao14,co14,eo14⟩:=Kd.R_slice HO316.out
       subst eo14
       obtain ⟨ado14,fo14,_⟩:=Kd.at_int (Kd.R_reads' HO316.out).2.2 0 (by decide) (by rw [Ny314.out];simp)
       cases fo14
       refine hK.out _ _ ⟨.slice (some ado14) y314.length co14,ado14,v324,adz_v324,m5_,m12_,(by rw [ha.out];exact putSel_upk 1 hb_ rfl rfl rfl),fun _=>(by (with_reducible repeat (first|refine blk_drewN ?_ _|refine blk_drew ?_|refine blk_alloc ?_ _));exact BK311.out),z_HI0,(by repeat (first|(with_reducible first|exact HK.out|apply KeepBut.set_|apply keep_drewN|apply keep_drew|apply keep_alloc|refine keep_far ?_ GW311.out _)|exact HK.out)),(by repeat (first|(with_reducible first|exact HB.out|apply below_alloc|apply pw_below_drewN|apply below_drew1|refine below_set ?_ GE311.out)|exact HB.out)),z_HI0_e1,fun _=>(by (with_reducible repeat (first|apply Kd.R_alloc|apply Kd.R_drewN|apply Kd.R_drew));exact HO316.out),fun _=>⟨_,rfl⟩,z_HI0_e4,z_HI0_e8,z_HO325,Q_HA_HO325,z_HI0_e11,fun h0_=>absurd ((hoff 15 (by kernel_rfl)).symm.trans h0_) (by decide),fun h0_=>absurd ((hoff 5 (by kernel_rfl)).symm.trans h0_) (by decide),Q_X12_⟩
      refine steps_cons ?_ ?_
      ·rintro b a w' ⟨v315,adz_v315,v324,adz_v324,m5_,m12_,ha,Q_BK311,Q_HI0,Q_HK,Q_HB,Q_HI0_e1,Q_HO316,Q_HA_HO316,Q_HI0_e4,Q_HI0_e8,Q_HO325,Q_HA_HO325,Q_HI0_e11,Q_BK311_e15,Q_X5_,Q_X12_⟩ hb_ hon hoff
       refine ⟨_,rfl,fun K hK=>?_⟩
       have e6 : a.tmps[6]? = some (.pointer (some ⟨g,0,none⟩)):=by rw [ha];exact (putSel_off rfl).trans rfl
       replace ha:=Aside0.mk ha
       have BK311:=Aside0.mk (Q_BK311 (hoff 15 (by kernel_rfl)))
       have HK:=Aside0.mk Q_HK
       have HB:=Aside0.mk Q_HB
       have HI0:=Aside0.mk (Q_HI0_e1 (hon 1 (by kernel_rfl)) hb_)
       refine goes_ Try.func89 (by kernel_rfl) rfl #[.pointer (some ⟨g,0,none⟩),.int .i64 9] (by rfl) rfl rfl (by first|(simp only [List.map_toArray,List.map_cons,List.map_nil,Act.eval,Array.getD_eq_getD_getElem?,Option.getD_some,e6];done)|(simp only [List.map_toArray,List.map_cons,List.map_nil,Act.eval,Array.getD_eq_getD_getElem?,Option.getD_some,e6];rfl)) ?_
       with_reducible refine (spec_l6Rd_pick.calls k g s0_0 t313 9 t317 t318 w0 _ ?side1 ?side2 A3.out).mono ?_
       (case side1=>repeat (first|(with_reducible first|exact HI0.out|apply IsS86.alloc|apply IsS86.drewN|apply IsS86.drew|apply IsS86.set_1|refine IsS86.far ?_ NB0_311.out _)|exact HI0.out))
       (case side2=>repeat (first|(with_reducible first|exact HB.out|apply below_alloc|apply pw_below_drewN|apply below_drew1|refine below_set ?_ (IsS86.ge HI0.out)|refine below_set ?_ GE311.out)|exact HB.out))
       rintro e w14 ⟨rfl,hi,hb,hk⟩
       refine ⟨_,rfl,?_⟩
       have n0_:=Aside0.mk (KeepBut.blk hk (g':=gb311) (o:=.cells #[.int .i64 0,.int .i64 0,.int .i64 0,.int .i64 0,.int .i64 0] 67 (0,0)) (by (with_reducible repeat (first|refine blk_drewN ?_ _|refine blk_drew ?_|refine blk_alloc ?_ _));exact BK311.out) NB311_0.out (by simp))
       have n1_:=Aside0.mk (KeepBut.trans (by repeat (first|(with_reducible first|exact HK.out|apply KeepBut.set_|apply keep_drewN|apply keep_drew|apply keep_alloc|refine keep_far ?_ GW311.out _)|exact HK.out)) hk (.inl rfl))
       have n2_:=Aside0.mk (hb)
       have n3_:=Aside0.mk (hi)
       have z_HO316:=fun (h0_ : b 2 = true)=>(show Kd.R (Kd.int .i64) 3 w14 w.heap.size (fun _=>True) v315 y314 from by first|exact (Kd.R_mono (Kd.R_keep (IsS86.apart (show IsS86 w0 _ g s0_0 t313 from by repeat (first|(with_reducible first|exact HI0.out|apply IsS86.alloc|apply IsS86.drewN|apply IsS86.drew|apply IsS86.set_1|refine IsS86.far ?_ NB0_311.out _)|exact HI0.out)) (by (with_reducible repeat (first|apply Kd.R_alloc|apply Kd.R_drewN|apply Kd.R_drew));exact (Q_HO316 h0_)) (by decide)) hk (fun _ h=>h.2)) (fun _ h=>h.1))|exact Kd.R_mono (Kd.R_mono (Kd.R_keep (IsS86.apart (show IsS86 w0 _ g s0_0 t313 from by repeat (first|(with_reducible first|exact HI0.out|apply IsS86.alloc|apply IsS86.drewN|apply IsS86.drew|apply IsS86.set_1|refine IsS86.far ?_ NB0_311.out _)|exact HI0.out)) (by (with_reducible repeat (first|apply Kd.R_alloc|apply Kd.R_drewN|apply Kd.R_drew));exact (Q_HO316 h0_)) (by decide)) hk (fun _ h=>h.2)) (fun _ h=>h.1)) (fun _ h_=>by first|trivial|exact h_|exact h_.1))
       have z_HO325:=fun (h0_ : b 9 = true)=>(show Kd.R (Kd.int .i64) 3 w14 w.heap.size (fun _=>True) v324 y323 from by first|exact (Kd.R_mono (Kd.R_keep (IsS86.apart (show IsS86 w0 _ g s0_0 t313 from by repeat (first|(with_reducible first|exact HI0.out|apply IsS86.alloc|apply IsS86.drewN|apply IsS86.drew|apply IsS86.set_1|refine IsS86.far ?_ NB0_311.out _)|exact HI0.out)) (by (with_reducible repeat (first|apply Kd.R_alloc|apply Kd.R_drewN|apply Kd.R_drew));exact (Q_HO325 h0_)) (by decide)) hk (fun _ h=>h.2)) (fun _ h=>h.1))|exact Kd.R_mono (Kd.R_mono (Kd.R_keep (IsS86.apart (show IsS86 w0 _ g s0_0 t313 from by repeat (first|(with_reducible first|exact HI0.out|apply IsS86.alloc|apply IsS86.drewN|apply IsS86.drew|apply IsS86.set_1|refine IsS86.far ?_ NB0_311.out _)|exact HI0.out)) (by (with_reducible repeat (first|apply Kd.R_alloc|apply Kd.R_drewN|apply Kd.R_drew));exact (Q_HO325 h0_)) (by decide)) hk (fun _ h=>h.2)) (fun _ h=>h.1)) (fun _ h_=>by first|trivial|exact h_|exact h_.1))
       clear BK311
       clear HK
       clear HB
       clear HI0
       have BK311:=n0_
       have HK:=n1_
       have HB:=n2_
       have HI0:=n3_
       clear n0_ n1_ n2_ n3_
       (try clear hb)
       (try clear hb2)
       (try clear hk)
       (try clear hi)
       refine hK.out _ _ ⟨v315,adz_v315,v324,adz_v324,m5_,m12_,(by rw [ha.out];exact putSel_upk 2 hb_ rfl rfl rfl),fun _=>(by (with_reducible repeat (first|refine blk_drewN ?_ _|refine blk_drew ?_|refine blk_alloc ?_ _));exact BK311.out),fun h0_=>absurd ((hon 1 (by kernel_rfl)).symm.trans h0_) (by decide),(by repeat (first|(with_reducible first|exact HK.out|apply KeepBut.set_|apply keep_drewN|apply keep_drew|apply keep_alloc|refine keep_far ?_ GW311.out _)|exact HK.out)),(by repeat (first|(with_reducible first|exact HB.out|apply below_alloc|apply pw_below_drewN|apply below_drew1|refine below_set ?_ (IsS86.ge HI0.out)|refine below_set ?_ GE311.out)|exact HB.out)),fun _ h1_=>absurd ((up_self b 4).symm.trans h1_) (by decide),z_HO316,Q_HA_HO316,fun _ _=>(by repeat (first|(with_reducible first|exact HI0.out|apply IsS86.alloc|apply IsS86.drewN|apply IsS86.drew|apply IsS86.set_1|refine IsS86.far ?_ NB0_311.out _)|exact HI0.out)),fun h0_ _=>absurd ((hoff 8 (by kernel_rfl)).symm.trans h0_) (by decide),z_HO325,Q_HA_HO325,fun h0_=>absurd ((hoff 11 (by kernel_rfl)).symm.trans h0_) (by decide),fun h0_=>absurd ((hoff 15 (by kernel_rfl)).symm.trans h0_) (by decide),fun h0_=>absurd ((hoff 5 (by kernel_rfl)).symm.trans h0_) (by decide),fun h0_=>absurd ((hoff 12 (by kernel_rfl)).symm.trans h0_) (by decide)⟩
      refine steps_cons ?_ ?_
      ·rintro b a w' ⟨v315,adz_v315,v324,adz_v324,m5_,m12_,ha,Q_BK311,Q_HI0,Q_HK,Q_HB,Q_HI0_e1,Q_HO316,Q_HA_HO316,Q_HI0_e4,Q_HI0_e8,Q_HO325,Q_HA_HO325,Q_HI0_e11,Q_BK311_e15,Q_X5_,Q_X12_⟩ hb_ hon hoff
       refine ⟨_,rfl,fun K hK=>?_⟩
       have e5 : a.tmps[5]? = some (v315):=by rw [ha];exact putSel_on (e:=(2,5,v315)) 1 rfl rfl (hon 2 (by kernel_rfl)) rfl
       have e7 : a.tmps[7]? = some (.int .i64 t317):=by rw [ha];exact putSel_on (e:=(4,7,.int .i64 t317)) 2 rfl rfl (hon 4 (by kernel_rfl)) rfl
       replace ha:=Aside0.mk ha
       have BK311:=Aside0.mk (Q_BK311 (hoff 15 (by kernel_rfl)))
       have HK:=Aside0.mk Q_HK
       have HB:=Aside0.mk Q_HB
       have HO316:=Aside0.mk (Q_HO316 (hon 2 (by kernel_rfl)))
       have HA_HO316:=Aside0.mk (Q_HA_HO316 (hon 2 (by kernel_rfl)))
       obtain ⟨c_,hv_⟩:=HA_HO316.out
       rw [hv_] at e5
       refine value_ (w1:=w') (v:=.pointer (some (adz_v315.add (t317).toNat))) (by rfl) rfl ?_ ?_
       ·go_simp
        (try simp only [i64_w])
        try rfl
       refine hK.out _ _ ⟨v315,adz_v315,v324,adz_v324,(.pointer (some (adz_v315.add (t317).toNat))),m12_,(by rw [ha.out];exact putSel_upk 3 hb_ rfl rfl rfl),Q_BK311,fun h0_=>absurd ((hon 1 (by kernel_rfl)).symm.trans h0_) (by decide),Q_HK,Q_HB,fun _ h1_=>absurd ((hon 4 (by kernel_rfl)).symm.trans h1_) (by decide),Q_HO316,Q_HA_HO316,Q_HI0_e4,Q_HI0_e8,Q_HO325,Q_HA_HO325,Q_HI0_e11,fun h0_=>absurd ((hoff 15 (by kernel_rfl)).symm.trans h0_) (by decide),fun _=>rfl,Q_X12_⟩
      refine steps_cons ?_ ?_
      ·rintro b a w' ⟨v315,adz_v315,v324,adz_v324,m5_,m12_,ha,Q_BK311,Q_HI0,Q_HK,Q_HB,Q_HI0_e1,Q_HO316,Q_HA_HO316,Q_HI0_e4,Q_HI0_e8,Q_HO325,Q_HA_HO325,Q_HI0_e11,Q_BK311_e15,Q_X5_,Q_X12_⟩ hb_ hon hoff
       refine ⟨_,rfl,fun K hK=>?_⟩
       have e8 : a.tmps[8]? = some (m5_):=by rw [ha];exact putSel_on (e:=(5,8,m5_)) 3 rfl rfl (hon 5 (by kernel_rfl)) rfl
       rw [Q_X5_ (hon 5 (by kernel_rfl))] at e8
       replace ha:=Aside0.mk ha
       have BK311:=Aside0.mk (Q_BK311 (hoff 15 (by kernel_rfl)))
       have HK:=Aside0.mk Q_HK
       have HB:=Aside0.mk Q_HB
       have HO316:=Aside0.mk (Q_HO316 (hon 2 (by kernel_rfl)))
       have HA_HO316:=Aside0.mk (Q_HA_HO316 (hon 2 (by kernel_rfl)))
       obtain ⟨c_,hv_⟩:=HA_HO316.out
       have hF_:=HO316.out
       rw [hv_] at hF_
       obtain ⟨ad_,ea_,hx_⟩:=Kd.at_int (Kd.R_reads' hF_).2.2 t317 (of_eq_true pi319) (of_eq_true qi319)
       cases ea_
       refine value_ (w1:=w') (v:=.int .i64 (rd y314 t317)) (by rfl) rfl ?_ ?_
       ·go_simp
        (try simp only [i64_w])
        try rfl
       refine hK.out _ _ ⟨v315,adz_v315,v324,adz_v324,m5_,m12_,(by rw [ha.out];exact putSel_upk 4 hb_ rfl rfl rfl),Q_BK311,fun h0_=>absurd ((hon 1 (by kernel_rfl)).symm.trans h0_) (by decide),Q_HK,Q_HB,fun _ h1_=>absurd ((hon 4 (by kernel_rfl)).symm.trans h1_) (by decide),Q_HO316,Q_HA_HO316,Q_HI0_e4,Q_HI0_e8,Q_HO325,Q_HA_HO325,Q_HI0_e11,fun h0_=>absurd ((hoff 15 (by kernel_rfl)).symm.trans h0_) (by decide),Q_X5_,Q_X12_⟩
      refine steps_cons ?_ ?_
      ·rintro b a w' ⟨v315,adz_v315,v324,adz_v324,m5_,m12_,ha,Q_BK311,Q_HI0,Q_HK,Q_HB,Q_HI0_e1,Q_HO316,Q_HA_HO316,Q_HI0_e4,Q_HI0_e8,Q_HO325,Q_HA_HO325,Q_HI0_e11,Q_BK311_e15,Q_X5_,Q_X12_⟩ hb_ hon hoff
       refine ⟨_,rfl,fun K hK=>?_⟩
       have e10 : a.tmps[10]? = some (.pointer (some ⟨g,0,none⟩)):=by rw [ha];exact (putSel_off rfl).trans rfl
       replace ha:=Aside0.mk ha
       have BK311:=Aside0.mk (Q_BK311 (hoff 15 (by kernel_rfl)))
       have HK:=Aside0.mk Q_HK
       have HB:=Aside0.mk Q_HB
       have HI0:=Aside0.mk (Q_HI0_e4 (hon 4 (by kernel_rfl)) hb_)
       refine goes_ Try.func90 (by kernel_rfl) rfl #[.pointer (some ⟨g,0,none⟩)] (by rfl) rfl rfl (by first|(simp only [List.map_toArray,List.map_cons,List.map_nil,Act.eval,Array.getD_eq_getD_getElem?,Option.getD_some,e10];done)|(simp only [List.map_toArray,List.map_cons,List.map_nil,Act.eval,Array.getD_eq_getD_getElem?,Option.getD_some,e10];rfl)) ?_
       with_reducible refine (spec_l71Time.calls k g s0_0 t318 t320 t321 t322 w0 _ ?side1 ?side2 A6.out).mono ?_
       (case side1=>repeat (first|(with_reducible first|exact HI0.out|apply IsS86.alloc|apply IsS86.drewN|apply IsS86.drew|apply IsS86.set_1|refine IsS86.far ?_ NB0_311.out _)|exact HI0.out))
       (case side2=>repeat (first|(with_reducible first|exact HB.out|apply below_alloc|apply pw_below_drewN|apply below_drew1|refine below_set ?_ (IsS86.ge HI0.out)|refine below_set ?_ GE311.out)|exact HB.out))
       rintro e w15 ⟨rfl,hi,hb,hk⟩
       refine ⟨_,rfl,?_⟩
       have n0_:=Aside0.mk (KeepBut.blk hk (g':=gb311) (o:=.cells #[.int .i64 0,.int .i64 0,.int .i64 0,.int .i64 0,.int .i64 0] 67 (0,0)) (by (with_reducible repeat (first|refine blk_drewN ?_ _|refine blk_drew ?_|refine blk_alloc ?_ _));exact BK311.out) NB311_0.out (by simp))
       have n1_:=Aside0.mk (KeepBut.trans (by repeat (first|(with_reducible first|exact HK.out|apply KeepBut.set_|apply keep_drewN|apply keep_drew|apply keep_alloc|refine keep_far ?_ GW311.out _)|exact HK.out)) hk (.inl rfl))
       have n2_:=Aside0.mk (hb)
       have n3_:=Aside0.mk (hi)
       have z_HO316:=fun (h0_ : b 2 = true)=>(show Kd.R (Kd.int .i64) 3 w15 w.heap.size (fun _=>True) v315 y314 from by first|exact (Kd.R_mono (Kd.R_keep (IsS86.apart (show IsS86 w0 _ g s0_0 t318 from by repeat (first|(with_reducible first|exact HI0.out|apply IsS86.alloc|apply IsS86.drewN|apply IsS86.drew|apply IsS86.set_1|refine IsS86.far ?_ NB0_311.out _)|exact HI0.out)) (by (with_reducible repeat (first|apply Kd.R_alloc|apply Kd.R_drewN|apply Kd.R_drew));exact (Q_HO316 h0_)) (by decide)) hk (fun _ h=>h.2)) (fun _ h=>h.1))|exact Kd.R_mono (Kd.R_mono (Kd.R_keep (IsS86.apart (show IsS86 w0 _ g s0_0 t318 from by repeat (first|(with_reducible first|exact HI0.out|apply IsS86.alloc|apply IsS86.drewN|apply IsS86.drew|apply IsS86.set_1|refine IsS86.far ?_ NB0_311.out _)|exact HI0.out)) (by (with_reducible repeat (first|apply Kd.R_alloc|apply Kd.R_drewN|apply Kd.R_drew));exact (Q_HO316 h0_)) (by decide)) hk (fun _ h=>h.2)) (fun _ h=>h.1)) (fun _ h_=>by first|trivial|exact h_|exact h_.1))
       have z_HO325:=fun (h0_ : b 9 = true)=>(show Kd.R (Kd.int .i64) 3 w15 w.heap.size (fun _=>True) v324 y323 from by first|exact (Kd.R_mono (Kd.R_keep (IsS86.apart (show IsS86 w0 _ g s0_0 t318 from by repeat (first|(with_reducible first|exact HI0.out|apply IsS86.alloc|apply IsS86.drewN|apply IsS86.drew|apply IsS86.set_1|refine IsS86.far ?_ NB0_311.out _)|exact HI0.out)) (by (with_reducible repeat (first|apply Kd.R_alloc|apply Kd.R_drewN|apply Kd.R_drew));exact (Q_HO325 h0_)) (by decide)) hk (fun _ h=>h.2)) (fun _ h=>h.1))|exact Kd.R_mono (Kd.R_mono (Kd.R_keep (IsS86.apart (show IsS86 w0 _ g s0_0 t318 from by repeat (first|(with_reducible first|exact HI0.out|apply IsS86.alloc|apply IsS86.drewN|apply IsS86.drew|apply IsS86.set_1|refine IsS86.far ?_ NB0_311.out _)|exact HI0.out)) (by (with_reducible repeat (first|apply Kd.R_alloc|apply Kd.R_drewN|apply Kd.R_drew));exact (Q_HO325 h0_)) (by decide)) hk (fun _ h=>h.2)) (fun _ h=>h.1)) (fun _ h_=>by first|trivial|exact h_|exact h_.1))
       clear BK311
       clear HK
       clear HB
       clear HI0
       have BK311:=n0_
       have HK:=n1_
       have HB:=n2_
       have HI0:=n3_
       clear n0_ n1_ n2_ n3_
       (try clear hb)
       (try clear hb2)
       (try clear hk)
       (try clear hi)
       refine hK.out _ _ ⟨v315,adz_v315,v324,adz_v324,m5_,m12_,(by rw [ha.out];exact putSel_upk 5 hb_ rfl rfl rfl),fun _=>(by (with_reducible repeat (first|refine blk_drewN ?_ _|refine blk_drew ?_|refine blk_alloc ?_ _));exact BK311.out),fun h0_=>absurd ((hon 1 (by kernel_rfl)).symm.trans h0_) (by decide),(by repeat (first|(with_reducible first|exact HK.out|apply KeepBut.set_|apply keep_drewN|apply keep_drew|apply keep_alloc|refine keep_far ?_ GW311.out _)|exact HK.out)),(by repeat (first|(with_reducible first|exact HB.out|apply below_alloc|apply pw_below_drewN|apply below_drew1|refine below_set ?_ (IsS86.ge HI0.out)|refine below_set ?_ GE311.out)|exact HB.out)),fun _ h1_=>absurd ((hon 4 (by kernel_rfl)).symm.trans h1_) (by decide),z_HO316,Q_HA_HO316,fun _ h1_=>absurd ((up_self b 8).symm.trans h1_) (by decide),fun _ _=>(by repeat (first|(with_reducible first|exact HI0.out|apply IsS86.alloc|apply IsS86.drewN|apply IsS86.drew|apply IsS86.set_1|refine IsS86.far ?_ NB0_311.out _)|exact HI0.out)),z_HO325,Q_HA_HO325,fun h0_=>absurd ((hoff 11 (by kernel_rfl)).symm.trans h0_) (by decide),fun h0_=>absurd ((hoff 15 (by kernel_rfl)).symm.trans h0_) (by decide),Q_X5_,fun h0_=>absurd ((hoff 12 (by kernel_rfl)).symm.trans h0_) (by decide)⟩
      refine steps_cons ?_ ?_
      ·rintro b a w' ⟨v315,adz_v315,v324,adz_v324,m5_,m12_,ha,Q_BK311,Q_HI0,Q_HK,Q_HB,Q_HI0_e1,Q_HO316,Q_HA_HO316,Q_HI0_e4,Q_HI0_e8,Q_HO325,Q_HA_HO325,Q_HI0_e11,Q_BK311_e15,Q_X5_,Q_X12_⟩ hb_ hon hoff
       refine ⟨_,rfl,fun K hK=>?_⟩
       replace ha:=Aside0.mk ha
       have BK311:=Aside0.mk (Q_BK311 (hoff 15 (by kernel_rfl)))
       have HK:=Aside0.mk Q_HK
       have HB:=Aside0.mk Q_HB
       refine Kd.R_lit_step (Kd.int .i64) _ 3 ?hg (N:=12) ?hd (xs:=([1,1,1,2,(-1),(-1),3,0] : List Int)) (inner:=[.int .i64 1,.int .i64 1,.int .i64 1,.int .i64 2,.int .i64 (-1),.int .i64 (-1),.int .i64 3,.int .i64 0]) (ok:=fun _=>True) (okp:=fun _=>True) ?hr ?hp (fun _ hk=>hk) trivial (Below.refl _ _) (Nat.le_refl _) (by simp) ?_;(case hd=>rfl);(case hg=>rfl);(case hr=>first|(go_simp;done)|(go_simp;rfl));(case hp=>exact (Reps.one (show Kd.M (Kd.int .i64) _ _ _ 1 [.int .i64 1] from rfl) (Reps.one (show Kd.M (Kd.int .i64) _ _ _ 1 [.int .i64 1] from rfl) (Reps.one (show Kd.M (Kd.int .i64) _ _ _ 1 [.int .i64 1] from rfl) (Reps.one (show Kd.M (Kd.int .i64) _ _ _ 2 [.int .i64 2] from rfl) (Reps.one (show Kd.M (Kd.int .i64) _ _ _ (-1) [.int .i64 (-1)] from rfl) (Reps.one (show Kd.M (Kd.int .i64) _ _ _ (-1) [.int .i64 (-1)] from rfl) (Reps.one (show Kd.M (Kd.int .i64) _ _ _ 3 [.int .i64 3] from rfl) (Reps.one (show Kd.M (Kd.int .i64) _ _ _ 0 [.int .i64 0] from rfl) (Reps.none _ _))))))))))
       intro v324 w12 ho13 hb hg_ hnew_
       clear hg_ hnew_
       (first|rw [← Ny323.out] at ho13|(simp only [Int.reduceToNat] at ho13;rw [← Ny323.out] at ho13))
       have n0_:=Aside0.mk (Kd.R_lower ho13 (keep_size (w:=w) (g:=g) (row:=none) (by repeat (first|(with_reducible first|exact HK.out|apply KeepBut.set_|apply keep_drewN|apply keep_drew|apply keep_alloc|refine keep_far ?_ GW311.out _)|exact HK.out))))
       have n2_:=Aside0.mk (blk_below (g:=gb311) (o:=.cells #[.int .i64 0,.int .i64 0,.int .i64 0,.int .i64 0,.int .i64 0] 67 (0,0)) (by (with_reducible repeat (first|refine blk_drewN ?_ _|refine blk_drew ?_|refine blk_alloc ?_ _));exact BK311.out) hb)
       have n3_:=Aside0.mk (KeepBut.trans (by repeat (first|(with_reducible first|exact HK.out|apply KeepBut.set_|apply keep_drewN|apply keep_drew|apply keep_alloc|refine keep_far ?_ GW311.out _)|exact HK.out)) (KeepBut.of_below hb g none) (.inl rfl))
       have n4_:=Aside0.mk (below_step (by repeat (first|(with_reducible first|exact HB.out|apply below_alloc|apply pw_below_drewN|apply below_drew1|refine below_set ?_ GE311.out)|exact HB.out)) hb)
       have z_HI0:=fun (h0_ : b 1 = false)=>(show IsS86 w0 w12 g s0_0 s0_1 from by first|exact (IsS86.below (by repeat (first|(with_reducible first|exact (Q_HI0 h0_)|apply IsS86.alloc|apply IsS86.drewN|apply IsS86.drew|apply IsS86.set_1|refine IsS86.far ?_ NB0_311.out _)|exact (Q_HI0 h0_))) hb))
       have z_HI0_e1:=fun (h0_ : b 1 = true) (h1_ : b 4 = false)=>(show IsS86 w0 w12 g s0_0 t313 from by first|exact (IsS86.below (by repeat (first|(with_reducible first|exact (Q_HI0_e1 h0_ h1_)|apply IsS86.alloc|apply IsS86.drewN|apply IsS86.drew|apply IsS86.set_1|refine IsS86.far ?_ NB0_311.out _)|exact (Q_HI0_e1 h0_ h1_))) hb))
       have z_HO316:=fun (h0_ : b 2 = true)=>(show Kd.R (Kd.int .i64) 3 w12 w.heap.size (fun _=>True) v315 y314 from by first|exact (Kd.R_elder' (by (with_reducible repeat (first|apply Kd.R_alloc|apply Kd.R_drewN|apply Kd.R_drew));exact (Q_HO316 h0_)) (Kd.R_base ho13) hb)|exact Kd.R_mono (Kd.R_elder' (by (with_reducible repeat (first|apply Kd.R_alloc|apply Kd.R_drewN|apply Kd.R_drew));exact (Q_HO316 h0_)) (Kd.R_base ho13) hb) (fun _ h_=>by first|trivial|exact h_|exact h_.1))
       have z_HI0_e4:=fun (h0_ : b 4 = true) (h1_ : b 8 = false)=>(show IsS86 w0 w12 g s0_0 t318 from by first|exact (IsS86.below (by repeat (first|(with_reducible first|exact (Q_HI0_e4 h0_ h1_)|apply IsS86.alloc|apply IsS86.drewN|apply IsS86.drew|apply IsS86.set_1|refine IsS86.far ?_ NB0_311.out _)|exact (Q_HI0_e4 h0_ h1_))) hb))
       have z_HI0_e8:=fun (h0_ : b 8 = true) (h1_ : b 11 = false)=>(show IsS86 w0 w12 g s0_0 t322 from by first|exact (IsS86.below (by repeat (first|(with_reducible first|exact (Q_HI0_e8 h0_ h1_)|apply IsS86.alloc|apply IsS86.drewN|apply IsS86.drew|apply IsS86.set_1|refine IsS86.far ?_ NB0_311.out _)|exact (Q_HI0_e8 h0_ h1_))) hb))
       have z_HI0_e11:=fun (h0_ : b 11 = true)=>(show IsS86 w0 w12 g s0_0 t327 from by first|exact (IsS86.below (by repeat (first|(with_reducible first|exact (Q_HI0_e11 h0_)|apply IsS86.alloc|apply IsS86.drewN|apply IsS86.drew|apply IsS86.set_1|refine IsS86.far ?_ NB0_311.out _)|exact (Q_HI0_e11 h0_))) hb))
       clear BK311
       clear HK
       clear HB
       have HO325:=n0_
       have BK311:=n2_
       have HK:=n3_
       have HB:=n4_
       clear n0_ n2_ n3_ n4_
       clear hb ho13
       obtain ⟨Ao14,co14,eo14⟩:=Kd.R_slice HO325.out
       subst eo14
       obtain ⟨ado14,fo14,_⟩:=Kd.at_int (Kd.R_reads' HO325.out).2.2 0 (by decide) (by rw [Ny323.out];simp)
       cases fo14
       refine hK.out _ _ ⟨v315,adz_v315,.slice (some ado14) y323.length co14,ado14,m5_,m12_,(by rw [ha.out];exact putSel_upk 6 hb_ rfl rfl rfl),fun _=>(by (with_reducible repeat (first|refine blk_drewN ?_ _|refine blk_drew ?_|refine blk_alloc ?_ _));exact BK311.out),z_HI0,(by repeat (first|(with_reducible first|exact HK.out|apply KeepBut.set_|apply keep_drewN|apply keep_drew|apply keep_alloc|refine keep_far ?_ GW311.out _)|exact HK.out)),(by repeat (first|(with_reducible first|exact HB.out|apply below_alloc|apply pw_below_drewN|apply below_drew1|refine below_set ?_ GE311.out)|exact HB.out)),z_HI0_e1,z_HO316,Q_HA_HO316,z_HI0_e4,z_HI0_e8,fun _=>(by (with_reducible repeat (first|apply Kd.R_alloc|apply Kd.R_drewN|apply Kd.R_drew));exact HO325.out),fun _=>⟨_,rfl⟩,z_HI0_e11,fun h0_=>absurd ((hoff 15 (by kernel_rfl)).symm.trans h0_) (by decide),Q_X5_,fun h0_=>absurd ((hoff 12 (by kernel_rfl)).symm.trans h0_) (by decide)⟩
      refine steps_cons ?_ ?_
      ·rintro b a w' ⟨v315,adz_v315,v324,adz_v324,m5_,m12_,ha,Q_BK311,Q_HI0,Q_HK,Q_HB,Q_HI0_e1,Q_HO316,Q_HA_HO316,Q_HI0_e4,Q_HI0_e8,Q_HO325,Q_HA_HO325,Q_HI0_e11,Q_BK311_e15,Q_X5_,Q_X12_⟩ hb_ hon hoff
       refine ⟨_,rfl,fun K hK=>?_⟩
       have e13 : a.tmps[13]? = some (.pointer (some ⟨g,0,none⟩)):=by rw [ha];exact (putSel_off rfl).trans rfl
       replace ha:=Aside0.mk ha
       have BK311:=Aside0.mk (Q_BK311 (hoff 15 (by kernel_rfl)))
       have HK:=Aside0.mk Q_HK
       have HB:=Aside0.mk Q_HB
       have HI0:=Aside0.mk (Q_HI0_e8 (hon 8 (by kernel_rfl)) hb_)
       refine goes_ Try.func89 (by kernel_rfl) rfl #[.pointer (some ⟨g,0,none⟩),.int .i64 8] (by rfl) rfl rfl (by first|(simp only [List.map_toArray,List.map_cons,List.map_nil,Act.eval,Array.getD_eq_getD_getElem?,Option.getD_some,e13];done)|(simp only [List.map_toArray,List.map_cons,List.map_nil,Act.eval,Array.getD_eq_getD_getElem?,Option.getD_some,e13];rfl)) ?_
       with_reducible refine (spec_l6Rd_pick.calls k g s0_0 t322 8 t326 t327 w0 _ ?side1 ?side2 A7.out).mono ?_
       (case side1=>repeat (first|(with_reducible first|exact HI0.out|apply IsS86.alloc|apply IsS86.drewN|apply IsS86.drew|apply IsS86.set_1|refine IsS86.far ?_ NB0_311.out _)|exact HI0.out))
       (case side2=>repeat (first|(with_reducible first|exact HB.out|apply below_alloc|apply pw_below_drewN|apply below_drew1|refine below_set ?_ (IsS86.ge HI0.out)|refine below_set ?_ GE311.out)|exact HB.out))
       rintro e w16 ⟨rfl,hi,hb,hk⟩
       refine ⟨_,rfl,?_⟩
       have n0_:=Aside0.mk (KeepBut.blk hk (g':=gb311) (o:=.cells #[.int .i64 0,.int .i64 0,.int .i64 0,.int .i64 0,.int .i64 0] 67 (0,0)) (by (with_reducible repeat (first|refine blk_drewN ?_ _|refine blk_drew ?_|refine blk_alloc ?_ _));exact BK311.out) NB311_0.out (by simp))
       have n1_:=Aside0.mk (KeepBut.trans (by repeat (first|(with_reducible first|exact HK.out|apply KeepBut.set_|apply keep_drewN|apply keep_drew|apply keep_alloc|refine keep_far ?_ GW311.out _)|exact HK.out)) hk (.inl rfl))
       have n2_:=Aside0.mk (hb)
       have n3_:=Aside0.mk (hi)
       have z_HO316:=fun (h0_ : b 2 = true)=>(show Kd.R (Kd.int .i64) 3 w16 w.heap.size (fun _=>True) v315 y314 from by first|exact (Kd.R_mono (Kd.R_keep (IsS86.apart (show IsS86 w0 _ g s0_0 t322 from by repeat (first|(with_reducible first|exact HI0.out|apply IsS86.alloc|apply IsS86.drewN|apply IsS86.drew|apply IsS86.set_1|refine IsS86.far ?_ NB0_311.out _)|exact HI0.out)) (by (with_reducible repeat (first|apply Kd.R_alloc|apply Kd.R_drewN|apply Kd.R_drew));exact (Q_HO316 h0_)) (by decide)) hk (fun _ h=>h.2)) (fun _ h=>h.1))|exact Kd.R_mono (Kd.R_mono (Kd.R_keep (IsS86.apart (show IsS86 w0 _ g s0_0 t322 from by repeat (first|(with_reducible first|exact HI0.out|apply IsS86.alloc|apply IsS86.drewN|apply IsS86.drew|apply IsS86.set_1|refine IsS86.far ?_ NB0_311.out _)|exact HI0.out)) (by (with_reducible repeat (first|apply Kd.R_alloc|apply Kd.R_drewN|apply Kd.R_drew));exact (Q_HO316 h0_)) (by decide)) hk (fun _ h=>h.2)) (fun _ h=>h.1)) (fun _ h_=>by first|trivial|exact h_|exact h_.1))
       have z_HO325:=fun (h0_ : b 9 = true)=>(show Kd.R (Kd.int .i64) 3 w16 w.heap.size (fun _=>True) v324 y323 from by first|exact (Kd.R_mono (Kd.R_keep (IsS86.apart (show IsS86 w0 _ g s0_0 t322 from by repeat (first|(with_reducible first|exact HI0.out|apply IsS86.alloc|apply IsS86.drewN|apply IsS86.drew|apply IsS86.set_1|refine IsS86.far ?_ NB0_311.out _)|exact HI0.out)) (by (with_reducible repeat (first|apply Kd.R_alloc|apply Kd.R_drewN|apply Kd.R_drew));exact (Q_HO325 h0_)) (by decide)) hk (fun _ h=>h.2)) (fun _ h=>h.1))|exact Kd.R_mono (Kd.R_mono (Kd.R_keep (IsS86.apart (show IsS86 w0 _ g s0_0 t322 from by repeat (first|(with_reducible first|exact HI0.out|apply IsS86.alloc|apply IsS86.drewN|apply IsS86.drew|apply IsS86.set_1|refine IsS86.far ?_ NB0_311.out _)|exact HI0.out)) (by (with_reducible repeat (first|apply Kd.R_alloc|apply Kd.R_drewN|apply Kd.R_drew));exact (Q_HO325 h0_)) (by decide)) hk (fun _ h=>h.2)) (fun _ h=>h.1)) (fun _ h_=>by first|trivial|exact h_|exact h_.1))
       clear BK311
       clear HK
       clear HB
       clear HI0
       have BK311:=n0_
       have HK:=n1_
       have HB:=n2_
       have HI0:=n3_
       clear n0_ n1_ n2_ n3_
       (try clear hb)
       (try clear hb2)
       (try clear hk)
       (try clear hi)
       refine hK.out _ _ ⟨v315,adz_v315,v324,adz_v324,m5_,m12_,(by rw [ha.out];exact putSel_upk 7 hb_ rfl rfl rfl),fun _=>(by (with_reducible repeat (first|refine blk_drewN ?_ _|refine blk_drew ?_|refine blk_alloc ?_ _));exact BK311.out),fun h0_=>absurd ((hon 1 (by kernel_rfl)).symm.trans h0_) (by decide),(by repeat (first|(with_reducible first|exact HK.out|apply KeepBut.set_|apply keep_drewN|apply keep_drew|apply keep_alloc|refine keep_far ?_ GW311.out _)|exact HK.out)),(by repeat (first|(with_reducible first|exact HB.out|apply below_alloc|apply pw_below_drewN|apply below_drew1|refine below_set ?_ (IsS86.ge HI0.out)|refine below_set ?_ GE311.out)|exact HB.out)),fun _ h1_=>absurd ((hon 4 (by kernel_rfl)).symm.trans h1_) (by decide),z_HO316,Q_HA_HO316,fun _ h1_=>absurd ((hon 8 (by kernel_rfl)).symm.trans h1_) (by decide),fun _ h1_=>absurd ((up_self b 11).symm.trans h1_) (by decide),z_HO325,Q_HA_HO325,fun _=>(by repeat (first|(with_reducible first|exact HI0.out|apply IsS86.alloc|apply IsS86.drewN|apply IsS86.drew|apply IsS86.set_1|refine IsS86.far ?_ NB0_311.out _)|exact HI0.out)),fun h0_=>absurd ((hoff 15 (by kernel_rfl)).symm.trans h0_) (by decide),Q_X5_,fun h0_=>absurd ((hoff 12 (by kernel_rfl)).symm.trans h0_) (by decide)⟩
      refine steps_cons ?_ ?_
      ·rintro b a w' ⟨v315,adz_v315,v324,adz_v324,m5_,m12_,ha,Q_BK311,Q_HI0,Q_HK,Q_HB,Q_HI0_e1,Q_HO316,Q_HA_HO316,Q_HI0_e4,Q_HI0_e8,Q_HO325,Q_HA_HO325,Q_HI0_e11,Q_BK311_e15,Q_X5_,Q_X12_⟩ hb_ hon hoff
       refine ⟨_,rfl,fun K hK=>?_⟩
       have e12 : a.tmps[12]? = some (v324):=by rw [ha];exact putSel_on (e:=(9,12,v324)) 6 rfl rfl (hon 9 (by kernel_rfl)) rfl
       have e14 : a.tmps[14]? = some (.int .i64 t326):=by rw [ha];exact putSel_on (e:=(11,14,.int .i64 t326)) 7 rfl rfl (hon 11 (by kernel_rfl)) rfl
       replace ha:=Aside0.mk ha
       have BK311:=Aside0.mk (Q_BK311 (hoff 15 (by kernel_rfl)))
       have HK:=Aside0.mk Q_HK
       have HB:=Aside0.mk Q_HB
       have HO325:=Aside0.mk (Q_HO325 (hon 9 (by kernel_rfl)))
       have HA_HO325:=Aside0.mk (Q_HA_HO325 (hon 9 (by kernel_rfl)))
       have HI0:=Aside0.mk (Q_HI0_e11 (hon 11 (by kernel_rfl)))
       obtain ⟨c_,hv_⟩:=HA_HO325.out
       rw [hv_] at e12
       refine value_ (w1:=w') (v:=.pointer (some (adz_v324.add (t326).toNat))) (by rfl) rfl ?_ ?_
       ·go_simp
        (try simp only [i64_w])
        try rfl
       refine hK.out _ _ ⟨v315,adz_v315,v324,adz_v324,m5_,(.pointer (some (adz_v324.add (t326).toNat))),(by rw [ha.out];exact putSel_upk 8 hb_ rfl rfl rfl),Q_BK311,fun h0_=>absurd ((hon 1 (by kernel_rfl)).symm.trans h0_) (by decide),Q_HK,Q_HB,fun _ h1_=>absurd ((hon 4 (by kernel_rfl)).symm.trans h1_) (by decide),Q_HO316,Q_HA_HO316,fun _ h1_=>absurd ((hon 8 (by kernel_rfl)).symm.trans h1_) (by decide),fun _ h1_=>absurd ((hon 11 (by kernel_rfl)).symm.trans h1_) (by decide),Q_HO325,Q_HA_HO325,Q_HI0_e11,fun h0_=>absurd ((hoff 15 (by kernel_rfl)).symm.trans h0_) (by decide),Q_X5_,fun _=>rfl⟩
      refine steps_cons ?_ ?_
      ·rintro b a w' ⟨v315,adz_v315,v324,adz_v324,m5_,m12_,ha,Q_BK311,Q_HI0,Q_HK,Q_HB,Q_HI0_e1,Q_HO316,Q_HA_HO316,Q_HI0_e4,Q_HI0_e8,Q_HO325,Q_HA_HO325,Q_HI0_e11,Q_BK311_e15,Q_X5_,Q_X12_⟩ hb_ hon hoff
       refine ⟨_,rfl,fun K hK=>?_⟩
       have e15 : a.tmps[15]? = some (m12_):=by rw [ha];exact putSel_on (e:=(12,15,m12_)) 8 rfl rfl (hon 12 (by kernel_rfl)) rfl
       rw [Q_X12_ (hon 12 (by kernel_rfl))] at e15
       replace ha:=Aside0.mk ha
       have BK311:=Aside0.mk (Q_BK311 (hoff 15 (by kernel_rfl)))
       have HK:=Aside0.mk Q_HK
       have HB:=Aside0.mk Q_HB
       have HO325:=Aside0.mk (Q_HO325 (hon 9 (by kernel_rfl)))
       have HA_HO325:=Aside0.mk (Q_HA_HO325 (hon 9 (by kernel_rfl)))
       have HI0:=Aside0.mk (Q_HI0_e11 (hon 11 (by kernel_rfl)))
       obtain ⟨c_,hv_⟩:=HA_HO325.out
       have hF_:=HO325.out
       rw [hv_] at hF_
       obtain ⟨ad_,ea_,hx_⟩:=Kd.at_int (Kd.R_reads' hF_).2.2 t326 (of_eq_true pi328) (of_eq_true qi328)
       cases ea_
       refine value_ (w1:=w') (v:=.int .i64 (rd y323 t326)) (by rfl) rfl ?_ ?_
       ·go_simp
        (try simp only [i64_w])
        try rfl
       refine hK.out _ _ ⟨v315,adz_v315,v324,adz_v324,m5_,m12_,(by rw [ha.out];exact putSel_upk 9 hb_ rfl rfl rfl),Q_BK311,fun h0_=>absurd ((hon 1 (by kernel_rfl)).symm.trans h0_) (by decide),Q_HK,Q_HB,fun _ h1_=>absurd ((hon 4 (by kernel_rfl)).symm.trans h1_) (by decide),Q_HO316,Q_HA_HO316,fun _ h1_=>absurd ((hon 8 (by kernel_rfl)).symm.trans h1_) (by decide),fun _ h1_=>absurd ((hon 11 (by kernel_rfl)).symm.trans h1_) (by decide),Q_HO325,Q_HA_HO325,Q_HI0_e11,fun h0_=>absurd ((hoff 15 (by kernel_rfl)).symm.trans h0_) (by decide),Q_X5_,Q_X12_⟩
      refine steps_cons ?_ ?_
      ·rintro b a w' ⟨v315,adz_v315,v324,adz_v324,m5_,m12_,ha,Q_BK311,Q_HI0,Q_HK,Q_HB,Q_HI0_e1,Q_HO316,Q_HA_HO316,Q_HI0_e4,Q_HI0_e8,Q_HO325,Q_HA_HO325,Q_HI0_e11,Q_BK311_e15,Q_X5_,Q_X12_⟩ hb_ hon hoff
       refine ⟨_,rfl,fun K hK=>?_⟩
       have e4 : a.tmps[4]? = some (.int .i64 t312):=by rw [ha];exact putSel_on (e:=(1,4,.int .i64 t312)) 0 rfl rfl (hon 1 (by kernel_rfl)) rfl
       have e9 : a.tmps[9]? = some (.int .i64 (rd y314 t317)):=by rw [ha];exact putSel_on (e:=(6,9,.int .i64 (rd y314 t317))) 4 rfl rfl (hon 6 (by kernel_rfl)) rfl
       have e11 : a.tmps[11]? = some (.agg #[.int .i64 t320,.int .i64 t321]):=by rw [ha];exact putSel_on (e:=(8,11,.agg #[.int .i64 t320,.int .i64 t321])) 5 rfl rfl (hon 8 (by kernel_rfl)) rfl
       have e16 : a.tmps[16]? = some (.int .i64 (rd y323 t326)):=by rw [ha];exact putSel_on (e:=(13,16,.int .i64 (rd y323 t326))) 9 rfl rfl (hon 13 (by kernel_rfl)) rfl
       replace ha:=Aside0.mk ha
       have BK311:=Aside0.mk (Q_BK311 (hoff 15 (by kernel_rfl)))
       have HK:=Aside0.mk Q_HK
       have HB:=Aside0.mk Q_HB
       have HO316:=Aside0.mk (Q_HO316 (hon 2 (by kernel_rfl)))
       have HA_HO316:=Aside0.mk (Q_HA_HO316 (hon 2 (by kernel_rfl)))
       have HO325:=Aside0.mk (Q_HO325 (hon 9 (by kernel_rfl)))
       have HA_HO325:=Aside0.mk (Q_HA_HO325 (hon 9 (by kernel_rfl)))
       have HI0:=Aside0.mk (Q_HI0_e11 (hon 11 (by kernel_rfl)))
       refine value_ (w1:=w') (v:=.agg #[.int .i64 t312,.int .i64 (rd y314 t317),.int .i64 t320,.int .i64 t321,.int .i64 (rd y323 t326)]) (by rfl) rfl ?_ ?_
       ·go_simp
        (try simp only [i64_w])
        try rfl
       refine hK.out _ _ ⟨v315,adz_v315,v324,adz_v324,m5_,m12_,(by rw [ha.out];exact putSel_upk 10 hb_ rfl rfl rfl),Q_BK311,fun h0_=>absurd ((hon 1 (by kernel_rfl)).symm.trans h0_) (by decide),Q_HK,Q_HB,fun _ h1_=>absurd ((hon 4 (by kernel_rfl)).symm.trans h1_) (by decide),Q_HO316,Q_HA_HO316,fun _ h1_=>absurd ((hon 8 (by kernel_rfl)).symm.trans h1_) (by decide),fun _ h1_=>absurd ((hon 11 (by kernel_rfl)).symm.trans h1_) (by decide),Q_HO325,Q_HA_HO325,Q_HI0_e11,fun h0_=>absurd ((hoff 15 (by kernel_rfl)).symm.trans h0_) (by decide),Q_X5_,Q_X12_⟩
      refine steps_cons ?_ ?_
      ·rintro b a w' ⟨v315,adz_v315,v324,adz_v324,m5_,m12_,ha,Q_BK311,Q_HI0,Q_HK,Q_HB,Q_HI0_e1,Q_HO316,Q_HA_HO316,Q_HI0_e4,Q_HI0_e8,Q_HO325,Q_HA_HO325,Q_HI0_e11,Q_BK311_e15,Q_X5_,Q_X12_⟩ hb_ hon hoff
       refine ⟨_,rfl,fun K hK=>?_⟩
       have e2 : a.tmps[2]? = some (.pointer (some ⟨gb311,0,none⟩)):=by rw [ha];exact (putSel_off rfl).trans rfl
       have e17 : a.tmps[17]? = some (.agg #[.int .i64 t312,.int .i64 (rd y314 t317),.int .i64 t320,.int .i64 t321,.int .i64 (rd y323 t326)]):=by rw [ha];exact putSel_on (e:=(14,17,.agg #[.int .i64 t312,.int .i64 (rd y314 t317),.int .i64 t320,.int .i64 t321,.int .i64 (rd y323 t326)])) 10 rfl rfl (hon 14 (by kernel_rfl)) rfl
       replace ha:=Aside0.mk ha
       have BK311:=Aside0.mk (Q_BK311 hb_)
       have HK:=Aside0.mk Q_HK
       have HB:=Aside0.mk Q_HB
       have HO316:=Aside0.mk (Q_HO316 (hon 2 (by kernel_rfl)))
       have HA_HO316:=Aside0.mk (Q_HA_HO316 (hon 2 (by kernel_rfl)))
       have HO325:=Aside0.mk (Q_HO325 (hon 9 (by kernel_rfl)))
       have HA_HO325:=Aside0.mk (Q_HA_HO325 (hon 9 (by kernel_rfl)))
       have HI0:=Aside0.mk (Q_HI0_e11 (hon 11 (by kernel_rfl)))
       obtain ⟨co23,eo23⟩:=HA_HO316.out
       clear HA_HO316
       subst eo23
       obtain ⟨co24,eo24⟩:=HA_HO325.out
       clear HA_HO325
       subst eo24
       have hs25 : w'.cell? ⟨gb311,0,none⟩ = some (.int .i64 0):=(blk_cell BK311.out 0).trans rfl
       have hfs25:=blk_frozen BK311.out 0
       have hs26 : w'.cell? ⟨gb311,1,none⟩ = some (.int .i64 0):=(blk_cell BK311.out 1).trans rfl
       have hfs26:=blk_frozen BK311.out 1
       have hs27 : w'.cell? ⟨gb311,2,none⟩ = some (.int .i64 0):=(blk_cell BK311.out 2).trans rfl
       have hfs27:=blk_frozen BK311.out 2
       have hs28 : w'.cell? ⟨gb311,3,none⟩ = some (.int .i64 0):=(blk_cell BK311.out 3).trans rfl
       have hfs28:=blk_frozen BK311.out 3
       have hs29 : w'.cell? ⟨gb311,4,none⟩ = some (.int .i64 0):=(blk_cell BK311.out 4).trans rfl
       have hfs29:=blk_frozen BK311.out 4
       refine skip_ (w1:=?_) (by rfl) rfl ?_ ?_
       rotate_left
       ·go_simp
        rfl
       refine hK.out _ _ ⟨.slice (some adz_v315) y314.length co23,adz_v315,.slice (some adz_v324) y323.length co24,adz_v324,m5_,m12_,(by rw [ha.out];exact putSel_none (v:=undef) rfl),fun h0_=>absurd ((up_self b 15).symm.trans h0_) (by decide),fun h0_=>absurd ((hon 1 (by kernel_rfl)).symm.trans h0_) (by decide),(by repeat (first|(with_reducible first|exact HK.out|apply KeepBut.set_|apply keep_drewN|apply keep_drew|apply keep_alloc|refine keep_far ?_ GW311.out _)|exact HK.out)),(by repeat (first|(with_reducible first|exact HB.out|apply below_alloc|apply pw_below_drewN|apply below_drew1|refine below_set ?_ (IsS86.ge HI0.out)|refine below_set ?_ GE311.out)|exact HB.out)),fun _ h1_=>absurd ((hon 4 (by kernel_rfl)).symm.trans h1_) (by decide),fun _=>(by (with_reducible repeat (first|apply Kd.R_alloc|apply Kd.R_drewN|apply Kd.R_drew));exact Kd.R_mono (Kd.R_far (p:=⟨gb311,4,none⟩) (Kd.R_far (p:=⟨gb311,3,none⟩) (Kd.R_far (p:=⟨gb311,2,none⟩) (Kd.R_far (p:=⟨gb311,1,none⟩) (Kd.R_far (p:=⟨gb311,0,none⟩) (Kd.R_types HO316.out BK311.out (by decide)) (fun _ hk=>hk.2) (.int .i64 t312)) (fun _ hk=>hk.2) (.int .i64 (rd y314 t317))) (fun _ hk=>hk.2) (.int .i64 t320)) (fun _ hk=>hk.2) (.int .i64 t321)) (fun _ hk=>hk.2) (.int .i64 (rd y323 t326))) (fun _ hk=>hk.1)),fun _=>⟨_,rfl⟩,fun _ h1_=>absurd ((hon 8 (by kernel_rfl)).symm.trans h1_) (by decide),fun _ h1_=>absurd ((hon 11 (by kernel_rfl)).symm.trans h1_) (by decide),fun _=>(by (with_reducible repeat (first|apply Kd.R_alloc|apply Kd.R_drewN|apply Kd.R_drew));exact Kd.R_mono (Kd.R_far (p:=⟨gb311,4,none⟩) (Kd.R_far (p:=⟨gb311,3,none⟩) (Kd.R_far (p:=⟨gb311,2,none⟩) (Kd.R_far (p:=⟨gb311,1,none⟩) (Kd.R_far (p:=⟨gb311,0,none⟩) (Kd.R_types HO325.out BK311.out (by decide)) (fun _ hk=>hk.2) (.int .i64 t312)) (fun _ hk=>hk.2) (.int .i64 (rd y314 t317))) (fun _ hk=>hk.2) (.int .i64 t320)) (fun _ hk=>hk.2) (.int .i64 t321)) (fun _ hk=>hk.2) (.int .i64 (rd y323 t326))) (fun _ hk=>hk.1)),fun _=>⟨_,rfl⟩,fun _=>(by repeat (first|(with_reducible first|exact HI0.out|apply IsS86.alloc|apply IsS86.drewN|apply IsS86.drew|apply IsS86.set_1|refine IsS86.far ?_ NB0_311.out _)|exact HI0.out)),fun _=>(by (with_reducible repeat (first|refine blk_drewN ?_ _|refine blk_drew ?_|refine blk_alloc ?_ _));refine blk_put (cs:=#[.int .i64 t312,.int .i64 (rd y314 t317),.int .i64 t320,.int .i64 t321,.int .i64 0]) ?_ 4 _ rfl;(with_reducible repeat (first|refine blk_drewN ?_ _|refine blk_drew ?_|refine blk_alloc ?_ _));refine blk_put (cs:=#[.int .i64 t312,.int .i64 (rd y314 t317),.int .i64 t320,.int .i64 0,.int .i64 0]) ?_ 3 _ rfl;(with_reducible repeat (first|refine blk_drewN ?_ _|refine blk_drew ?_|refine blk_alloc ?_ _));refine blk_put (cs:=#[.int .i64 t312,.int .i64 (rd y314 t317),.int .i64 0,.int .i64 0,.int .i64 0]) ?_ 2 _ rfl;(with_reducible repeat (first|refine blk_drewN ?_ _|refine blk_drew ?_|refine blk_alloc ?_ _));refine blk_put (cs:=#[.int .i64 t312,.int .i64 0,.int .i64 0,.int .i64 0,.int .i64 0]) ?_ 1 _ rfl;(with_reducible repeat (first|refine blk_drewN ?_ _|refine blk_drew ?_|refine blk_alloc ?_ _));refine blk_put (cs:=#[.int .i64 0,.int .i64 0,.int .i64 0,.int .i64 0,.int .i64 0]) ?_ 0 _ rfl;(with_reducible repeat (first|refine blk_drewN ?_ _|refine blk_drew ?_|refine blk_alloc ?_ _));exact BK311.out),Q_X5_,Q_X12_⟩
      exact steps_nil
     rintro b a w27 hall ⟨v315,adz_v315,v324,adz_v324,m5_,m12_,ha,Q_BK311,Q_HI0,Q_HK,Q_HB,Q_HI0_e1,Q_HO316,Q_HA_HO316,Q_HI0_e4,Q_HI0_e8,Q_HO325,Q_HA_HO325,Q_HI0_e11,Q_BK311_e15,Q_X5_,Q_X12_⟩
     clear BK311 HB HI0 HK
     have hb1_:=hall 1 (by kernel_rfl)
     have hb2_:=hall 2 (by kernel_rfl)
     have hb4_:=hall 4 (by kernel_rfl)
     have hb5_:=hall 5 (by kernel_rfl)
     have hb6_:=hall 6 (by kernel_rfl)
     have hb8_:=hall 8 (by kernel_rfl)
     have hb9_:=hall 9 (by kernel_rfl)
     have hb11_:=hall 11 (by kernel_rfl)
     have hb12_:=hall 12 (by kernel_rfl)
     have hb13_:=hall 13 (by kernel_rfl)
     have hb14_:=hall 14 (by kernel_rfl)
     have hb15_:=hall 15 (by kernel_rfl)
     subst ha
     obtain rfl:=Q_X5_ hb5_
     obtain rfl:=Q_X12_ hb12_
     simp only [putSel,hb1_,hb2_,hb4_,hb5_,hb6_,hb8_,hb9_,hb11_,hb12_,hb13_,hb14_,hb15_,if_true,Act.put,sA_,sZ_,sS_]
     clear Q_BK311
     clear Q_HI0
     have HK:=Aside0.mk Q_HK
     clear Q_HK
     have HB:=Aside0.mk Q_HB
     clear Q_HB
     clear Q_HI0_e1
     have HO316:=Aside0.mk (Q_HO316 hb2_)
     clear Q_HO316
     have HA_HO316:=Aside0.mk (Q_HA_HO316 hb2_)
     clear Q_HA_HO316
     clear Q_HI0_e4
     clear Q_HI0_e8
     have HO325:=Aside0.mk (Q_HO325 hb9_)
     clear Q_HO325
     have HA_HO325:=Aside0.mk (Q_HA_HO325 hb9_)
     clear Q_HA_HO325
     have HI0:=Aside0.mk (Q_HI0_e11 hb11_)
     clear Q_HI0_e11
     have BK311:=Aside0.mk (Q_BK311_e15 hb15_)
     clear Q_BK311_e15
     clear hall hb1_ hb2_ hb4_ hb5_ hb6_ hb8_ hb9_ hb11_ hb12_ hb13_ hb14_ hb15_
     obtain ⟨co28,eo28⟩:=HA_HO316.out
     clear HA_HO316
     subst eo28
     obtain ⟨co29,eo29⟩:=HA_HO325.out
     clear HA_HO325
     subst eo29
     try go_wp2
     refine bodyPost_ret (results_cell_row rfl _ _ gb311 67 #[.int .i64 t312,.int .i64 (rd y314 t317),.int .i64 t320,.int .i64 t321,.int .i64 (rd y323 t326)] (0,0) _ rfl (by (with_reducible repeat (first|refine blk_drewN ?_ _|refine blk_drew ?_|refine blk_alloc ?_ _));exact BK311.out) Try.underlying67 rfl (by kernel_rfl)) rfl ?_
     exact ⟨by first|rfl|(simp [errW_none,errW_some] <;> rfl)|(simp [*,errW_none,errW_some] <;> rfl),by repeat (first|(with_reducible first|exact HI0.out|apply IsS86.alloc|apply IsS86.drewN|apply IsS86.drew|apply IsS86.set_1|refine IsS86.far ?_ NB0_311.out _)|exact HI0.out),by repeat (first|(with_reducible first|exact HB.out|apply below_alloc|apply pw_below_drewN|apply below_drew1|refine below_set ?_ (IsS86.ge HI0.out)|refine below_set ?_ GE311.out)|exact HB.out),by repeat (first|(with_reducible first|exact HK.out|apply KeepBut.set_|apply keep_drewN|apply keep_drew|apply keep_alloc|refine keep_far ?_ GW311.out _)|exact HK.out)⟩
    ·rw [if_neg c9] at H
     exact absurd H (by simp)
   ·rw [if_neg c8] at H
    exact absurd H (by simp)
  ·rw [if_neg c5] at H
   exact absurd H (by simp)
 ·rw [if_neg c4] at H
  exact absurd H (by simp)
mutual
def spec_l71Rows.l0 : Nat → List (S67) → Int → List Int → Int → Option ((List (S67)) × Int)
 | 0, _, _, _, _ => none
 | k + 1, x5, x6, x1000, x1001 => if x6 > 0 then ((spec_l71Row.f k x1000 x1001).bind fun bt334 => (if (x5.length : Int) > 0 then ((spec_l6Rd_pick.f k x1000 bt334.2.2.2.2.2 3).bind fun bt341 => (spec_l71Rows.j1 k x5 x6 (bt341.1 == 0) x1000 bt341.2 bt334.1 bt334.2.1 bt334.2.2.1 bt334.2.2.2.1 bt334.2.2.2.2.1)) else (spec_l71Rows.j1 k x5 x6 false x1000 bt334.2.2.2.2.2 bt334.1 bt334.2.1 bt334.2.2.1 bt334.2.2.2.1 bt334.2.2.2.2.1))) else (some (x5, x1001))
def spec_l71Rows.j1 : Nat → List (S67) → Int → Bool → List Int → Int → Int → Int → Int → Int → Int → Option ((List (S67)) × Int)
 | 0, _, _, _, _, _, _, _, _, _, _ => none
 | k + 1, x5, x6, x27, x1000, x1001, x341000, x341001, x341002, x341003, x341004 => if x27 = true then ((spec_l6Rd_pick.f k x1000 x1001 (x5.length : Int)).bind fun bt343 => (if 0 ≤ bt343.1 then (if bt343.1 < (x5.length : Int) then ((spec_l6Rd_pick.f k x1000 bt343.2 2).bind fun bt347 => (if bt347.1 = 0 then (if x5.length < 3518437208883 then (spec_l71Rows.l0 k (x5 ++ [(⟨(rd_T67 x5 bt343.1).f0, (rd_T67 x5 bt343.1).f1, (⟨x341002, x341003⟩ : S26), wrap64 (-((rd_T67 x5 bt343.1).f3))⟩ : S67)]) (wrap64 (x6 - 1)) x1000 bt347.2) else (none)) else (if x5.length < 3518437208883 then (spec_l71Rows.l0 k (x5 ++ [(⟨(rd_T67 x5 bt343.1).f0, (rd_T67 x5 bt343.1).f1, (⟨x341002, x341003⟩ : S26), x341004⟩ : S67)]) (wrap64 (x6 - 1)) x1000 bt347.2) else (none)))) else (none)) else (none))) else (if x5.length < 3518437208883 then (spec_l71Rows.l0 k (x5 ++ [(⟨x341000, x341001, (⟨x341002, x341003⟩ : S26), x341004⟩ : S67)]) (wrap64 (x6 - 1)) x1000 x1001) else (none))
end
def spec_l71Rows.f (k : Nat) (s0_0 : List Int) (s0_1 : Int) (a1 : Int) : Option ((List (S67)) × Int) := (spec_l6Rd_pick.f k s0_0 s0_1 (wrap64 (a1 + 1))).bind fun bt332 => (spec_l71Rows.l0 k (([] : List (S67))) bt332.1 s0_0 bt332.2)
theorem spec_l71Rows.mono_l : ∀ k,(∀ y0 y1 y2 y3,LeO (spec_l71Rows.l0 k y0 y1 y2 y3) (spec_l71Rows.l0 (k + 1) y0 y1 y2 y3)) ∧ (∀ y0 y1 y2 y3 y4 y5 y6 y7 y8 y9,LeO (spec_l71Rows.j1 k y0 y1 y2 y3 y4 y5 y6 y7 y8 y9) (spec_l71Rows.j1 (k + 1) y0 y1 y2 y3 y4 y5 y6 y7 y8 y9))
 | 0=>⟨fun _ _ _ _ r h=>by simp [spec_l71Rows.l0] at h,fun _ _ _ _ _ _ _ _ _ _ r h=>by simp [spec_l71Rows.j1] at h⟩
 | k + 1=>by
  obtain ⟨ih0,ih1⟩:=spec_l71Rows.mono_l k
  refine ⟨?_,?_⟩
  ·intro y0 y1 y2 y3
   unfold spec_l71Rows.l0
   repeat' first
   | (with_reducible exact ih0 _ _ _ _)
   | (with_reducible exact ih1 _ _ _ _ _ _ _ _ _ _)
   | (with_reducible exact spec_l6Rd_pick.mono _ _ _ _)
   | (with_reducible exact spec_l71Row.mono _ _ _)
   | (with_reducible exact LeO.refl _)
   | (with_reducible exact LeO.none _)
   | (with_reducible refine LeO.ite ?_ ?_)
   | (with_reducible refine LeO.bind ?_ (fun _=>?_))
   | exact ih0 _ _ _ _
   | exact ih1 _ _ _ _ _ _ _ _ _ _
   | exact spec_l6Rd_pick.mono _ _ _ _
   | exact spec_l71Row.mono _ _ _
   | exact LeO.none _
   | refine LeO.ite ?_ ?_
   | refine LeO.bind ?_ (fun _=>?_)
  ·intro y0 y1 y2 y3 y4 y5 y6 y7 y8 y9
   unfold spec_l71Rows.j1
   repeat' first
   | (with_reducible exact ih0 _ _ _ _)
   | (with_reducible exact ih1 _ _ _ _ _ _ _ _ _ _)
   | (with_reducible exact spec_l6Rd_pick.mono _ _ _ _)
   | (with_reducible exact spec_l71Row.mono _ _ _)
   | (with_reducible exact LeO.refl _)
   | (with_reducible exact LeO.none _)
   | (with_reducible refine LeO.ite ?_ ?_)
   | (with_reducible refine LeO.bind ?_ (fun _=>?_))
   | exact ih0 _ _ _ _
   | exact ih1 _ _ _ _ _ _ _ _ _ _
   | exact spec_l6Rd_pick.mono _ _ _ _
   | exact spec_l71Row.mono _ _ _
   | exact LeO.none _
   | refine LeO.ite ?_ ?_
   | refine LeO.bind ?_ (fun _=>?_)
theorem spec_l71Rows.mono : ∀ a0 a1 a2 k,LeO (spec_l71Rows.f k a0 a1 a2) (spec_l71Rows.f (k + 1) a0 a1 a2):=by
 intro a0 a1 a2 k
 obtain ⟨ih0,ih1⟩:=spec_l71Rows.mono_l k
 unfold spec_l71Rows.f
 repeat' first
   | (with_reducible exact ih0 _ _ _ _)
   | (with_reducible exact ih1 _ _ _ _ _ _ _ _ _ _)
   | (with_reducible exact spec_l6Rd_pick.mono _ _ _ _)
   | (with_reducible exact spec_l71Row.mono _ _ _)
   | (with_reducible exact LeO.refl _)
   | (with_reducible exact LeO.none _)
   | (with_reducible refine LeO.ite ?_ ?_)
   | (with_reducible refine LeO.bind ?_ (fun _=>?_))
   | exact ih0 _ _ _ _
   | exact ih1 _ _ _ _ _ _ _ _ _ _
   | exact spec_l6Rd_pick.mono _ _ _ _
   | exact spec_l71Row.mono _ _ _
   | exact LeO.none _
   | refine LeO.ite ?_ ?_
   | refine LeO.bind ?_ (fun _=>?_)
end Go.Proofs.Ytiegpijhkhopgaa.PFnSetLeast
