/- Functions that the law comes to: each as a plain Lean function, with the contract of the Go function. -/
import Derived.Test.YtjlkffmdmifahaaVFnBatchMovew
import Derived.Test.YtjlkffmdmifahaaVFnBatchMovep0
import Derived.Test.YtjlkffmdmifahaaVFnBatchMovep2
import Derived.Test.YtjlkffmdmifahaaVFnBatchMovep3
namespace Go.Proofs.Ytjlkffmdmifahaa.PFnBatchMove
open Go.RowKit Go.Proofs.YtjlkffmdmifahaaW.PrintWords Go.Proofs.YtjlkffmdmifahaaW.PrintLast Go.Proofs.YtjlkffmdmifahaaW.PrintMore
attribute [local go_sem] max2_int min2_int max_two min_two max_three min_three max_four min_four
set_option linter.unusedVariables false
set_option linter.unusedSimpArgs false
attribute [local go_sem high] eqA36 eqA38 eqA83
set_option maxHeartbeats 8000000 in
set_option maxRecDepth 100000 in
theorem spec_FrontOk.calls (k : Nat) (A0 : Option Addr) (c0 : Nat) (l0 : List (S36)) (r : Bool) (w : World) (hr0 : Kd.C k36 w A0 l0.length l0) (hc0 : l0.length ≤ c0) (h : spec_FrontOk.f k l0 = some r) :
  Calls Try.prog 21 #[.slice A0 l0.length c0] w fun e w'=>e = .returned (.bool r) ∧ Below w.heap.size w w':=by
 have hu36:=Try.underlying36
 have HR0:=Aside0.mk hr0
 have HC0:=Aside0.mk hc0
 clear hr0 hc0
 have HB:=am (Below.refl w.heap.size w)
 have H : (spec_FrontOk.l0 k l0 0) = some r:=h
 clear h
 have H':=Aside0.mk H
 clear H
 go_enter Try.func21,Try.ntmps21
 go_wp2
 go_loopg [3] k (fun kq v3 w'=>∃ (x3_1 : Int),v3 = .int .i64 x3_1 ∧ Aside0 (spec_FrontOk.l0 kq l0 x3_1 = some r) ∧ Aside0 (kq ≤ k) ∧ Aside0 (Below w.heap.size w w'))
 case atStart=>exact ⟨(0),Q7,H',⟨Nat.le_refl _⟩,⟨Q80⟩⟩
 case round =>
  clear H'
  obtain ⟨x3_1,rfl,HA,HK1,HB⟩:=hrel
  cases gk with
  | zero=>exact absurd HA.out (by simp [spec_FrontOk.l0])
  | succ k1 =>
   have H:=HA.out
   clear HA
   simp only [spec_FrontOk.l0] at H
   by_cases c2 : x3_1 < (l0.length : Int)
   ·rw [if_pos c2] at H
    have c2b0 : decide (x3_1 < (l0.length : Int)) = true:=decide_eq_true c2
    clear c2
    have c3 : 0 ≤ x3_1:=nn_ H
    rw [if_pos c3] at H
    have c3b0 : decide (0 ≤ x3_1) = true:=decide_eq_true c3
    clear c3
    replace H:=Option.bind_eq_some_iff.mp H
    obtain ⟨t419,A40,H⟩:=H
    replace H : (if t419 = true then (if x3_1 > 0 then (if 0 ≤ (wrap64 (x3_1 - 1)) then (if (wrap64 (x3_1 - 1)) < (l0.length : Int) then (if ((rd_T36 l0 (wrap64 (x3_1 - 1))).f0) ≥ ((rd_T36 l0 x3_1).f0) then (some false) else (if ((rd_T36 l0 (wrap64 (x3_1 - 1))).f1) ≤ ((rd_T36 l0 x3_1).f1) then (some false) else (spec_FrontOk.l0 k1 l0 (wrap64 (x3_1 + 1))))) else (none)) else (none)) else (spec_FrontOk.l0 k1 l0 (wrap64 (x3_1 + 1)))) else (some false)) = some r:=H
    have A4:=Aside0.mk A40
    clear A40
    by_cases c5 : t419 = true
    ·subst c5
     have H1 : (if x3_1 > 0 then (if 0 ≤ (wrap64 (x3_1 - 1)) then (if (wrap64 (x3_1 - 1)) < (l0.length : Int) then (if ((rd_T36 l0 (wrap64 (x3_1 - 1))).f0) ≥ ((rd_T36 l0 x3_1).f0) then (some false) else (if ((rd_T36 l0 (wrap64 (x3_1 - 1))).f1) ≤ ((rd_T36 l0 x3_1).f1) then (some false) else (spec_FrontOk.l0 k1 l0 (wrap64 (x3_1 + 1))))) else (none)) else (none)) else (spec_FrontOk.l0 k1 l0 (wrap64 (x3_1 + 1)))) = some r:=by rw [if_pos rfl] at H;exact H
     clear H
     have H:=H1
     clear H1
     by_cases c6 : x3_1 > 0
     ·rw [if_pos c6] at H
      have c6b0 : decide (0 < x3_1) = true:=decide_eq_true c6
      clear c6
      obtain ⟨ji7,hji7⟩ : ∃ j_ : Int,(wrap64 (x3_1 - 1)) = j_:=⟨_,rfl⟩
      replace H : (if 0 ≤ (ji7) then (if (ji7) < (l0.length : Int) then (if ((rd_T36 l0 (ji7)).f0) ≥ ((rd_T36 l0 x3_1).f0) then (some false) else (if ((rd_T36 l0 (ji7)).f1) ≤ ((rd_T36 l0 x3_1).f1) then (some false) else (spec_FrontOk.l0 k1 l0 (wrap64 (x3_1 + 1))))) else (none)) else (none)) = some r:=Q12
      (try rw [hji7] at A4)
      have hji7w : (IntKind.i64.wrap (x3_1 - 1)) = ji7:=(i64_w _).trans hji7
      have c8 : 0 ≤ (ji7):=nn_ H
      rw [if_pos c8] at H
      have c8b0 : decide (0 ≤ (ji7)) = true:=decide_eq_true c8
      clear c8
      have c9 : (ji7) < (l0.length : Int):=nn_ H
      rw [if_pos c9] at H
      have c9b0 : decide ((ji7) < (l0.length : Int)) = true:=decide_eq_true c9
      clear c9
      by_cases c10 : ((rd_T36 l0 (ji7)).f0) ≥ ((rd_T36 l0 x3_1).f0)
      ·rw [if_pos c10] at H
       have c10b0 : decide (((rd_T36 l0 x3_1).f0) ≤ ((rd_T36 l0 (ji7)).f0)) = true:=decide_eq_true c10
       clear c10
       obtain rfl:=Option.some.inj H
       try go_wp2
       replace HB:=am (below_drew1 HB.out)
       have p418 : 0 ≤ (x3_1 : Int):=of_decide_eq_true Q8
       have q418 : x3_1 < (l0.length : Int):=of_decide_eq_true Q8
       obtain ⟨ad418,e418,hx418_0,hx418_1⟩:=at_T36 HR0.out x3_1 p418 q418
       have hw418_1:=hx418_1
       have hw418_0:=hx418_0
       cases e418
       replace hx418_0:=cb_ HB hx418_0
       replace hx418_1:=cb_ HB hx418_1
       replace p418:=eq_true p418
       replace q418:=eq_true q418
       have p420 : 0 ≤ ((ji7) : Int):=of_decide_eq_true Q8
       have q420 : (ji7) < (l0.length : Int):=of_decide_eq_true Q8
       obtain ⟨ad420,e420,hx420_0,hx420_1⟩:=at_T36 HR0.out (ji7) p420 q420
       have hw420_1:=hx420_1
       have hw420_0:=hx420_0
       obtain rfl : ad418 = ad420:=(by injection e420)
       replace hx420_0:=cb_ HB hx420_0
       replace hx420_1:=cb_ HB hx420_1
       replace p420:=eq_true p420
       replace q420:=eq_true q420
       have p421 : 0 ≤ (x3_1 : Int):=of_decide_eq_true Q8
       have q421 : x3_1 < (l0.length : Int):=of_decide_eq_true Q8
       obtain ⟨ad421,e421,hx421_0,hx421_1⟩:=at_T36 HR0.out x3_1 p421 q421
       have hw421_1:=hx421_1
       have hw421_0:=hx421_0
       obtain rfl : ad418 = ad421:=(by injection e421)
       replace hx421_0:=cb_ HB hx421_0
       replace hx421_1:=cb_ HB hx421_1
       replace p421:=eq_true p421
       replace q421:=eq_true q421
       refine start_ (n:=38) (S:=fun w'=>w'.cell? (ad418.add ((x3_1).toNat * 2)) = some (.int .i64 ((rd_T36 l0 x3_1).f0)) ∧ w'.cell? ⟨(ad418.add ((x3_1).toNat * 2)).block,(ad418.add ((x3_1).toNat * 2)).off + 1,none⟩ = some (.int .i64 ((rd_T36 l0 x3_1).f1)) ∧ w'.cell? (ad418.add (((ji7)).toNat * 2)) = some (.int .i64 ((rd_T36 l0 (ji7)).f0)) ∧ w'.cell? ⟨(ad418.add (((ji7)).toNat * 2)).block,(ad418.add (((ji7)).toNat * 2)).off + 1,none⟩ = some (.int .i64 ((rd_T36 l0 (ji7)).f1)) ∧ w'.cell? (ad418.add ((x3_1).toNat * 2)) = some (.int .i64 ((rd_T36 l0 x3_1).f0)) ∧ w'.cell? ⟨(ad418.add ((x3_1).toNat * 2)).block,(ad418.add ((x3_1).toNat * 2)).off + 1,none⟩ = some (.int .i64 ((rd_T36 l0 x3_1).f1))) (ds:=[]) b38_0 Q1 rfl rfl ⟨(cb_ HB hw418_0:),(cb_ HB hw418_1:),(cb_ HB hw420_0:),(cb_ HB hw420_1:),(cb_ HB hw421_0:),(cb_ HB hw421_1:)⟩ (fun hHeld=>?_);refine with_tabW spec_FrontOk.tab4 spec_FrontOk.bits4 (fun HT_ HW_=>?_)
       generalize wr.drew = w11 at HB hx418_0 hx418_1 hx420_0 hx420_1 hx421_0 hx421_1 hHeld ⊢
       refine pU_ 0 10 b38_1 ?_
       refine pU_ 1 11 b38_2 ?_
       refine pU_ 2 12 b38_3 ?_
       refine tU_ 3 13 b38_4 hHeld ?_
       refine one_ (i:=4) (N:=some 14) b38_5 rfl rfl (one_of HT_.out Q1) Q0 (fun K hK=>?_)
       refine goes_ Try.func60 Q1 rfl #[.agg #[.int .i64 ((rd_T36 l0 x3_1).f0),.int .i64 ((rd_T36 l0 x3_1).f1)]] (by rfl) rfl rfl Q84 ?_
       with_reducible refine (spec_TimeOk.calls ((rd_T36 l0 x3_1).f0) ((rd_T36 l0 x3_1).f1) true _ A4.out).mono ?_
       rintro e w12 ⟨rfl,hb⟩
       refine ⟨_,rfl,?_⟩
       replace HB:=am (below_step Q80 hb)
       (try clear hb)
       (try clear hb2)
       (try clear hk)
       (try clear hi)
       refine hK.out _ _ ⟨(cb_ HB hw418_0:),(cb_ HB hw418_1:),(cb_ HB hw420_0:),(cb_ HB hw420_1:),(cb_ HB hw421_0:),(cb_ HB hw421_1:)⟩ (fun hHeld=>?_)
       clear hK K
       refine norm_ (a':=?_) ?_ ?_
       rotate_left
       ·show Act.put _ (some 14) _ = _
        simp only [Act.put,sA_,sZ_,sS_,i64_w,i32_w]
        rfl
       refine pU_ 5 15 b38_6 ?_
       refine pU_ 6 16 b38_7 ?_
       refine pU_ 7 17 b38_8 ?_
       refine pU_ 8 18 b38_9 ?_
       refine pU_ 9 19 b38_10 ?_
       refine pU_ 10 20 b38_11 ?_
       refine pU_ 11 21 b38_12 ?_
       refine pU_ 12 22 b38_13 ?_
       refine pU_ 13 23 b38_14 ?_
       refine pU_ 14 24 b38_15 ?_
       refine pU_ 16 26 c107 ?_
       refine pU_ 17 27 c108 ?_
       refine pU_ 18 28 c109 ?_
       refine pU_ 19 29 c110 ?_
       refine tU_ 15 25 b38_20 hHeld ?_
       refine tU_ 20 30 b38_21 hHeld ?_
       refine pU_ 21 31 b38_22 ?_
       refine pU_ 22 32 b38_23 ?_
       refine pV_ 23 33 b38_24 ?_
       refine pV_ 24 34 b38_25 ?_
       refine pV_ 25 35 b38_26 ?_
       refine pV_ 26 36 b38_27 ?_
       refine pV_ 27 37 b38_28 ?_
       refine pV_ 28 38 b38_29 ?_
       refine pV_ 29 39 b38_30 ?_
       refine pV_ 30 40 b38_31 ?_
       refine pV_ 31 41 b38_32 ?_
       refine pV_ 32 42 b38_33 ?_
       refine pV_ 33 43 b38_34 ?_
       refine pV_ 34 44 b38_35 ?_
       refine pU_ 35 45 b38_36 ?_
       refine pU_ 36 46 b38_37 ?_
       refine pU_ 37 47 b38_38 ?_
       refine done_ (done_of HT_.out Q1) ?_
       try go_wp2
       go_ret
       exact ⟨by first|rfl|(simp [errW_none,errW_some] <;> rfl)|(simp only [← hji7];first|rfl|(simp [errW_none,errW_some] <;> rfl))|(simp [*,errW_none,errW_some] <;> rfl),Q80⟩
      ·rw [if_neg c10] at H
       have c10b0 : decide (((rd_T36 l0 x3_1).f0) ≤ ((rd_T36 l0 (ji7)).f0)) = false:=decide_eq_false c10
       clear c10
       by_cases c13 : ((rd_T36 l0 (ji7)).f1) ≤ ((rd_T36 l0 x3_1).f1)
       ·rw [if_pos c13] at H
        have c13b0 : decide (((rd_T36 l0 (ji7)).f1) ≤ ((rd_T36 l0 x3_1).f1)) = true:=decide_eq_true c13
        clear c13
        obtain rfl:=Option.some.inj H
        try go_wp2
        replace HB:=am (below_drew1 HB.out)
        have p418 : 0 ≤ (x3_1 : Int):=of_decide_eq_true Q8
        have q418 : x3_1 < (l0.length : Int):=of_decide_eq_true Q8
        obtain ⟨ad418,e418,hx418_0,hx418_1⟩:=at_T36 HR0.out x3_1 p418 q418
        have hw418_1:=hx418_1
        have hw418_0:=hx418_0
        cases e418
        replace hx418_0:=cb_ HB hx418_0
        replace hx418_1:=cb_ HB hx418_1
        replace p418:=eq_true p418
        replace q418:=eq_true q418
        have p420 : 0 ≤ ((ji7) : Int):=of_decide_eq_true Q8
        have q420 : (ji7) < (l0.length : Int):=of_decide_eq_true Q8
        obtain ⟨ad420,e420,hx420_0,hx420_1⟩:=at_T36 HR0.out (ji7) p420 q420
        have hw420_1:=hx420_1
        have hw420_0:=hx420_0
        obtain rfl : ad418 = ad420:=(by injection e420)
        replace hx420_0:=cb_ HB hx420_0
        replace hx420_1:=cb_ HB hx420_1
        replace p420:=eq_true p420
        replace q420:=eq_true q420
        have p421 : 0 ≤ (x3_1 : Int):=of_decide_eq_true Q8
        have q421 : x3_1 < (l0.length : Int):=of_decide_eq_true Q8
        obtain ⟨ad421,e421,hx421_0,hx421_1⟩:=at_T36 HR0.out x3_1 p421 q421
        have hw421_1:=hx421_1
        have hw421_0:=hx421_0
        obtain rfl : ad418 = ad421:=(by injection e421)
        replace hx421_0:=cb_ HB hx421_0
        replace hx421_1:=cb_ HB hx421_1
        replace p421:=eq_true p421
        replace q421:=eq_true q421
        have p422 : 0 ≤ ((ji7) : Int):=of_decide_eq_true Q8
        have q422 : (ji7) < (l0.length : Int):=of_decide_eq_true Q8
        obtain ⟨ad422,e422,hx422_0,hx422_1⟩:=at_T36 HR0.out (ji7) p422 q422
        have hw422_1:=hx422_1
        have hw422_0:=hx422_0
        obtain rfl : ad418 = ad422:=(by injection e422)
        replace hx422_0:=cb_ HB hx422_0
        replace hx422_1:=cb_ HB hx422_1
        replace p422:=eq_true p422
        replace q422:=eq_true q422
        have p423 : 0 ≤ (x3_1 : Int):=of_decide_eq_true Q8
        have q423 : x3_1 < (l0.length : Int):=of_decide_eq_true Q8
        obtain ⟨ad423,e423,hx423_0,hx423_1⟩:=at_T36 HR0.out x3_1 p423 q423
        have hw423_1:=hx423_1
        have hw423_0:=hx423_0
        obtain rfl : ad418 = ad423:=(by injection e423)
        replace hx423_0:=cb_ HB hx423_0
        replace hx423_1:=cb_ HB hx423_1
        replace p423:=eq_true p423
        replace q423:=eq_true q423
        refine start_ (n:=38) (S:=fun w'=>w'.cell? (ad418.add ((x3_1).toNat * 2)) = some (.int .i64 ((rd_T36 l0 x3_1).f0)) ∧ w'.cell? ⟨(ad418.add ((x3_1).toNat * 2)).block,(ad418.add ((x3_1).toNat * 2)).off + 1,none⟩ = some (.int .i64 ((rd_T36 l0 x3_1).f1)) ∧ w'.cell? (ad418.add (((ji7)).toNat * 2)) = some (.int .i64 ((rd_T36 l0 (ji7)).f0)) ∧ w'.cell? ⟨(ad418.add (((ji7)).toNat * 2)).block,(ad418.add (((ji7)).toNat * 2)).off + 1,none⟩ = some (.int .i64 ((rd_T36 l0 (ji7)).f1)) ∧ w'.cell? (ad418.add ((x3_1).toNat * 2)) = some (.int .i64 ((rd_T36 l0 x3_1).f0)) ∧ w'.cell? ⟨(ad418.add ((x3_1).toNat * 2)).block,(ad418.add ((x3_1).toNat * 2)).off + 1,none⟩ = some (.int .i64 ((rd_T36 l0 x3_1).f1)) ∧ w'.cell? (ad418.add (((ji7)).toNat * 2)) = some (.int .i64 ((rd_T36 l0 (ji7)).f0)) ∧ w'.cell? ⟨(ad418.add (((ji7)).toNat * 2)).block,(ad418.add (((ji7)).toNat * 2)).off + 1,none⟩ = some (.int .i64 ((rd_T36 l0 (ji7)).f1)) ∧ w'.cell? (ad418.add ((x3_1).toNat * 2)) = some (.int .i64 ((rd_T36 l0 x3_1).f0)) ∧ w'.cell? ⟨(ad418.add ((x3_1).toNat * 2)).block,(ad418.add ((x3_1).toNat * 2)).off + 1,none⟩ = some (.int .i64 ((rd_T36 l0 x3_1).f1))) (ds:=[]) b38_0 Q1 rfl rfl ⟨(cb_ HB hw418_0:),(cb_ HB hw418_1:),(cb_ HB hw420_0:),(cb_ HB hw420_1:),(cb_ HB hw421_0:),(cb_ HB hw421_1:),(cb_ HB hw422_0:),(cb_ HB hw422_1:),(cb_ HB hw423_0:),(cb_ HB hw423_1:)⟩ (fun hHeld=>?_);refine with_tabW spec_FrontOk.tab4 spec_FrontOk.bits4 (fun HT_ HW_=>?_)
        generalize wr.drew = w14 at HB hx418_0 hx418_1 hx420_0 hx420_1 hx421_0 hx421_1 hx422_0 hx422_1 hx423_0 hx423_1 hHeld ⊢
        refine pU_ 0 10 b38_1 ?_
        refine pU_ 1 11 b38_2 ?_
        refine pU_ 2 12 b38_3 ?_
        refine tU_ 3 13 b38_4 hHeld ?_
        refine one_ (i:=4) (N:=some 14) b38_5 rfl rfl (one_of HT_.out Q1) Q0 (fun K hK=>?_)
        refine goes_ Try.func60 Q1 rfl #[.agg #[.int .i64 ((rd_T36 l0 x3_1).f0),.int .i64 ((rd_T36 l0 x3_1).f1)]] (by rfl) rfl rfl Q84 ?_
        with_reducible refine (spec_TimeOk.calls ((rd_T36 l0 x3_1).f0) ((rd_T36 l0 x3_1).f1) true _ A4.out).mono ?_
        rintro e w15 ⟨rfl,hb⟩
        refine ⟨_,rfl,?_⟩
        replace HB:=am (below_step Q80 hb)
        (try clear hb)
        (try clear hb2)
        (try clear hk)
        (try clear hi)
        refine hK.out _ _ ⟨(cb_ HB hw418_0:),(cb_ HB hw418_1:),(cb_ HB hw420_0:),(cb_ HB hw420_1:),(cb_ HB hw421_0:),(cb_ HB hw421_1:),(cb_ HB hw422_0:),(cb_ HB hw422_1:),(cb_ HB hw423_0:),(cb_ HB hw423_1:)⟩ (fun hHeld=>?_)
        clear hK K
        refine norm_ (a':=?_) ?_ ?_
        rotate_left
        ·show Act.put _ (some 14) _ = _
         simp only [Act.put,sA_,sZ_,sS_,i64_w,i32_w]
         rfl
        refine pU_ 5 15 b38_6 ?_
        refine pU_ 6 16 b38_7 ?_
        refine pU_ 7 17 b38_8 ?_
        refine pU_ 8 18 b38_9 ?_
        refine pU_ 9 19 b38_10 ?_
        refine pU_ 10 20 b38_11 ?_
        refine pU_ 11 21 b38_12 ?_
        refine pU_ 12 22 b38_13 ?_
        refine pU_ 13 23 b38_14 ?_
        refine pU_ 14 24 b38_15 ?_
        refine pU_ 16 26 c107 ?_
        refine pU_ 17 27 c108 ?_
        refine pU_ 18 28 c109 ?_
        refine pU_ 19 29 c110 ?_
        refine tU_ 15 25 b38_20 hHeld ?_
        refine tU_ 20 30 b38_21 hHeld ?_
        refine pU_ 21 31 b38_22 ?_
        refine pU_ 22 32 b38_23 ?_
        refine pU_ 23 33 b38_24 ?_
        refine pU_ 24 34 b38_25 ?_
        refine pU_ 25 35 b38_26 ?_
        refine pU_ 26 36 b38_27 ?_
        refine pU_ 27 37 b38_28 ?_
        refine pU_ 29 39 c130 ?_
        refine pU_ 30 40 c131 ?_
        refine pU_ 31 41 c132 ?_
        refine pU_ 32 42 c133 ?_
        refine tU_ 28 38 b38_33 hHeld ?_
        refine tU_ 33 43 b38_34 hHeld ?_
        refine pU_ 34 44 b38_35 ?_
        refine pU_ 35 45 b38_36 ?_
        refine pU_ 36 46 b38_37 ?_
        refine pU_ 37 47 b38_38 ?_
        refine done_ (done_of HT_.out Q1) ?_
        try go_wp2
        go_ret
        exact ⟨by first|rfl|(simp [errW_none,errW_some] <;> rfl)|(simp only [← hji7];first|rfl|(simp [errW_none,errW_some] <;> rfl))|(simp [*,errW_none,errW_some] <;> rfl),Q80⟩
       ·rw [if_neg c13] at H
        have c13b0 : decide (((rd_T36 l0 (ji7)).f1) ≤ ((rd_T36 l0 x3_1).f1)) = false:=decide_eq_false c13
        clear c13
        have H':=Aside0.mk H
        clear H
        try go_wp2
        replace HB:=am (below_drew1 HB.out)
        have p418 : 0 ≤ (x3_1 : Int):=of_decide_eq_true Q8
        have q418 : x3_1 < (l0.length : Int):=of_decide_eq_true Q8
        obtain ⟨ad418,e418,hx418_0,hx418_1⟩:=at_T36 HR0.out x3_1 p418 q418
        have hw418_1:=hx418_1
        have hw418_0:=hx418_0
        cases e418
        replace hx418_0:=cb_ HB hx418_0
        replace hx418_1:=cb_ HB hx418_1
        replace p418:=eq_true p418
        replace q418:=eq_true q418
        have p420 : 0 ≤ ((ji7) : Int):=of_decide_eq_true Q8
        have q420 : (ji7) < (l0.length : Int):=of_decide_eq_true Q8
        obtain ⟨ad420,e420,hx420_0,hx420_1⟩:=at_T36 HR0.out (ji7) p420 q420
        have hw420_1:=hx420_1
        have hw420_0:=hx420_0
        obtain rfl : ad418 = ad420:=(by injection e420)
        replace hx420_0:=cb_ HB hx420_0
        replace hx420_1:=cb_ HB hx420_1
        replace p420:=eq_true p420
        replace q420:=eq_true q420
        have p421 : 0 ≤ (x3_1 : Int):=of_decide_eq_true Q8
        have q421 : x3_1 < (l0.length : Int):=of_decide_eq_true Q8
        obtain ⟨ad421,e421,hx421_0,hx421_1⟩:=at_T36 HR0.out x3_1 p421 q421
        have hw421_1:=hx421_1
        have hw421_0:=hx421_0
        obtain rfl : ad418 = ad421:=(by injection e421)
        replace hx421_0:=cb_ HB hx421_0
        replace hx421_1:=cb_ HB hx421_1
        replace p421:=eq_true p421
        replace q421:=eq_true q421
        have p422 : 0 ≤ ((ji7) : Int):=of_decide_eq_true Q8
        have q422 : (ji7) < (l0.length : Int):=of_decide_eq_true Q8
        obtain ⟨ad422,e422,hx422_0,hx422_1⟩:=at_T36 HR0.out (ji7) p422 q422
        have hw422_1:=hx422_1
        have hw422_0:=hx422_0
        obtain rfl : ad418 = ad422:=(by injection e422)
        replace hx422_0:=cb_ HB hx422_0
        replace hx422_1:=cb_ HB hx422_1
        replace p422:=eq_true p422
        replace q422:=eq_true q422
        have p423 : 0 ≤ (x3_1 : Int):=of_decide_eq_true Q8
        have q423 : x3_1 < (l0.length : Int):=of_decide_eq_true Q8
        obtain ⟨ad423,e423,hx423_0,hx423_1⟩:=at_T36 HR0.out x3_1 p423 q423
        have hw423_1:=hx423_1
        have hw423_0:=hx423_0
        obtain rfl : ad418 = ad423:=(by injection e423)
        replace hx423_0:=cb_ HB hx423_0
        replace hx423_1:=cb_ HB hx423_1
        replace p423:=eq_true p423
        replace q423:=eq_true q423
        refine start_ (n:=38) (S:=fun w'=>w'.cell? (ad418.add ((x3_1).toNat * 2)) = some (.int .i64 ((rd_T36 l0 x3_1).f0)) ∧ w'.cell? ⟨(ad418.add ((x3_1).toNat * 2)).block,(ad418.add ((x3_1).toNat * 2)).off + 1,none⟩ = some (.int .i64 ((rd_T36 l0 x3_1).f1)) ∧ w'.cell? (ad418.add (((ji7)).toNat * 2)) = some (.int .i64 ((rd_T36 l0 (ji7)).f0)) ∧ w'.cell? ⟨(ad418.add (((ji7)).toNat * 2)).block,(ad418.add (((ji7)).toNat * 2)).off + 1,none⟩ = some (.int .i64 ((rd_T36 l0 (ji7)).f1)) ∧ w'.cell? (ad418.add ((x3_1).toNat * 2)) = some (.int .i64 ((rd_T36 l0 x3_1).f0)) ∧ w'.cell? ⟨(ad418.add ((x3_1).toNat * 2)).block,(ad418.add ((x3_1).toNat * 2)).off + 1,none⟩ = some (.int .i64 ((rd_T36 l0 x3_1).f1)) ∧ w'.cell? (ad418.add (((ji7)).toNat * 2)) = some (.int .i64 ((rd_T36 l0 (ji7)).f0)) ∧ w'.cell? ⟨(ad418.add (((ji7)).toNat * 2)).block,(ad418.add (((ji7)).toNat * 2)).off + 1,none⟩ = some (.int .i64 ((rd_T36 l0 (ji7)).f1)) ∧ w'.cell? (ad418.add ((x3_1).toNat * 2)) = some (.int .i64 ((rd_T36 l0 x3_1).f0)) ∧ w'.cell? ⟨(ad418.add ((x3_1).toNat * 2)).block,(ad418.add ((x3_1).toNat * 2)).off + 1,none⟩ = some (.int .i64 ((rd_T36 l0 x3_1).f1))) (ds:=[]) b38_0 Q1 rfl rfl ⟨(cb_ HB hw418_0:),(cb_ HB hw418_1:),(cb_ HB hw420_0:),(cb_ HB hw420_1:),(cb_ HB hw421_0:),(cb_ HB hw421_1:),(cb_ HB hw422_0:),(cb_ HB hw422_1:),(cb_ HB hw423_0:),(cb_ HB hw423_1:)⟩ (fun hHeld=>?_);refine with_tabW spec_FrontOk.tab4 spec_FrontOk.bits4 (fun HT_ HW_=>?_)
        generalize wr.drew = w16 at HB hx418_0 hx418_1 hx420_0 hx420_1 hx421_0 hx421_1 hx422_0 hx422_1 hx423_0 hx423_1 hHeld ⊢
        refine pU_ 0 10 b38_1 ?_
        refine pU_ 1 11 b38_2 ?_
        refine pU_ 2 12 b38_3 ?_
        refine tU_ 3 13 b38_4 hHeld ?_
        refine one_ (i:=4) (N:=some 14) b38_5 rfl rfl (one_of HT_.out Q1) Q0 (fun K hK=>?_)
        refine goes_ Try.func60 Q1 rfl #[.agg #[.int .i64 ((rd_T36 l0 x3_1).f0),.int .i64 ((rd_T36 l0 x3_1).f1)]] (by rfl) rfl rfl Q84 ?_
        with_reducible refine (spec_TimeOk.calls ((rd_T36 l0 x3_1).f0) ((rd_T36 l0 x3_1).f1) true _ A4.out).mono ?_
        rintro e w17 ⟨rfl,hb⟩
        refine ⟨_,rfl,?_⟩
        replace HB:=am (below_step Q80 hb)
        (try clear hb)
        (try clear hb2)
        (try clear hk)
        (try clear hi)
        refine hK.out _ _ ⟨(cb_ HB hw418_0:),(cb_ HB hw418_1:),(cb_ HB hw420_0:),(cb_ HB hw420_1:),(cb_ HB hw421_0:),(cb_ HB hw421_1:),(cb_ HB hw422_0:),(cb_ HB hw422_1:),(cb_ HB hw423_0:),(cb_ HB hw423_1:)⟩ (fun hHeld=>?_)
        clear hK K
        refine norm_ (a':=?_) ?_ ?_
        rotate_left
        ·show Act.put _ (some 14) _ = _
         simp only [Act.put,sA_,sZ_,sS_,i64_w,i32_w]
         rfl
        refine pU_ 5 15 b38_6 ?_
        refine pU_ 6 16 b38_7 ?_
        refine pU_ 7 17 b38_8 ?_
        refine pU_ 8 18 b38_9 ?_
        refine pU_ 9 19 b38_10 ?_
        refine pU_ 10 20 b38_11 ?_
        refine pU_ 11 21 b38_12 ?_
        refine pU_ 12 22 b38_13 ?_
        refine pU_ 13 23 b38_14 ?_
        refine pU_ 14 24 b38_15 ?_
        refine pU_ 16 26 c107 ?_
        refine pU_ 17 27 c108 ?_
        refine pU_ 18 28 c109 ?_
        refine pU_ 19 29 c110 ?_
        refine tU_ 15 25 b38_20 hHeld ?_
        refine tU_ 20 30 b38_21 hHeld ?_
        refine pU_ 21 31 b38_22 ?_
        refine pU_ 22 32 b38_23 ?_
        refine pU_ 23 33 b38_24 ?_
        refine pU_ 24 34 b38_25 ?_
        refine pU_ 25 35 b38_26 ?_
        refine pU_ 26 36 b38_27 ?_
        refine pU_ 27 37 b38_28 ?_
        refine pU_ 29 39 c130 ?_
        refine pU_ 30 40 c131 ?_
        refine pU_ 31 41 c132 ?_
        refine pU_ 32 42 c133 ?_
        refine tU_ 28 38 b38_33 hHeld ?_
        refine tU_ 33 43 b38_34 hHeld ?_
        refine pU_ 34 44 b38_35 ?_
        refine pU_ 35 45 b38_36 ?_
        refine pU_ 36 46 b38_37 ?_
        refine pU_ 37 47 b38_38 ?_
        refine done_ (done_of HT_.out Q1) ?_
        try go_wp2
        go_roundg k1
        case measure=>have:=HK1.out;omega
        case rel=>exact ⟨(wrap64 (x3_1 + 1)),Q7,H',⟨Q3⟩,⟨Q80⟩⟩
     ·rw [if_neg c6] at H
      have c6b0 : decide (0 < x3_1) = false:=decide_eq_false c6
      clear c6
      have H':=Aside0.mk H
      clear H
      try go_wp2
      replace HB:=am (below_drew1 HB.out)
      have p418 : 0 ≤ (x3_1 : Int):=of_decide_eq_true Q8
      have q418 : x3_1 < (l0.length : Int):=of_decide_eq_true Q8
      obtain ⟨ad418,e418,hx418_0,hx418_1⟩:=at_T36 HR0.out x3_1 p418 q418
      have hw418_1:=hx418_1
      have hw418_0:=hx418_0
      cases e418
      replace hx418_0:=cb_ HB hx418_0
      replace hx418_1:=cb_ HB hx418_1
      replace p418:=eq_true p418
      replace q418:=eq_true q418
      refine start_ (n:=38) (S:=fun w'=>w'.cell? (ad418.add ((x3_1).toNat * 2)) = some (.int .i64 ((rd_T36 l0 x3_1).f0)) ∧ w'.cell? ⟨(ad418.add ((x3_1).toNat * 2)).block,(ad418.add ((x3_1).toNat * 2)).off + 1,none⟩ = some (.int .i64 ((rd_T36 l0 x3_1).f1))) (ds:=[]) b38_0 Q1 rfl rfl ⟨(cb_ HB hw418_0:),(cb_ HB hw418_1:)⟩ (fun hHeld=>?_);refine with_tabW spec_FrontOk.tab4 spec_FrontOk.bits4 (fun HT_ HW_=>?_)
      generalize wr.drew = w18 at HB hx418_0 hx418_1 hHeld ⊢
      refine pU_ 0 10 b38_1 ?_
      refine pU_ 1 11 b38_2 ?_
      refine pU_ 2 12 b38_3 ?_
      refine tU_ 3 13 b38_4 hHeld ?_
      refine one_ (i:=4) (N:=some 14) b38_5 rfl rfl (one_of HT_.out Q1) Q0 (fun K hK=>?_)
      refine goes_ Try.func60 Q1 rfl #[.agg #[.int .i64 ((rd_T36 l0 x3_1).f0),.int .i64 ((rd_T36 l0 x3_1).f1)]] (by rfl) rfl rfl Q84 ?_
      with_reducible refine (spec_TimeOk.calls ((rd_T36 l0 x3_1).f0) ((rd_T36 l0 x3_1).f1) true _ A4.out).mono ?_
      rintro e w19 ⟨rfl,hb⟩
      refine ⟨_,rfl,?_⟩
      replace HB:=am (below_step Q80 hb)
      (try clear hb)
      (try clear hb2)
      (try clear hk)
      (try clear hi)
      refine hK.out _ _ ⟨(cb_ HB hw418_0:),(cb_ HB hw418_1:)⟩ (fun hHeld=>?_)
      clear hK K
      refine norm_ (a':=?_) ?_ ?_
      rotate_left
      ·show Act.put _ (some 14) _ = _
       simp only [Act.put,sA_,sZ_,sS_,i64_w,i32_w]
       rfl
      refine pU_ 5 15 b38_6 ?_
      refine pU_ 6 16 b38_7 ?_
      refine pU_ 7 17 b38_8 ?_
      refine pU_ 8 18 b38_9 ?_
      refine pU_ 9 19 b38_10 ?_
      refine pV_ 10 20 b38_11 ?_
      refine pV_ 11 21 b38_12 ?_
      refine pV_ 12 22 b38_13 ?_
      refine pV_ 13 23 b38_14 ?_
      refine pV_ 14 24 b38_15 ?_
      refine pV_ 15 25 b38_16 ?_
      refine pV_ 16 26 b38_17 ?_
      refine pV_ 17 27 b38_18 ?_
      refine pV_ 18 28 b38_19 ?_
      refine pV_ 19 29 b38_20 ?_
      refine pV_ 20 30 b38_21 ?_
      refine pV_ 21 31 b38_22 ?_
      refine pV_ 22 32 b38_23 ?_
      refine pV_ 23 33 b38_24 ?_
      refine pV_ 24 34 b38_25 ?_
      refine pV_ 25 35 b38_26 ?_
      refine pV_ 26 36 b38_27 ?_
      refine pV_ 27 37 b38_28 ?_
      refine pV_ 28 38 b38_29 ?_
      refine pV_ 29 39 b38_30 ?_
      refine pV_ 30 40 b38_31 ?_
      refine pV_ 31 41 b38_32 ?_
      refine pV_ 32 42 b38_33 ?_
      refine pV_ 33 43 b38_34 ?_
      refine pV_ 34 44 b38_35 ?_
      refine pV_ 35 45 b38_36 ?_
      refine pU_ 36 46 b38_37 ?_
      refine pU_ 37 47 b38_38 ?_
      refine done_ (done_of HT_.out Q1) ?_
      try go_wp2
      go_roundg k1
      case measure=>have:=HK1.out;omega
      case rel=>exact ⟨(wrap64 (x3_1 + 1)),Q7,H',⟨Q3⟩,⟨Q80⟩⟩
    ·replace c5:=Bool.eq_false_iff.mpr c5
     subst c5
     have H1 : (some false) = some r:=by rw [if_neg (show ¬ (false = true) by decide)] at H;exact H
     clear H
     have H:=H1
     clear H1
     obtain rfl:=Option.some.inj H
     try go_wp2
     replace HB:=am (below_drew1 HB.out)
     have p418 : 0 ≤ (x3_1 : Int):=of_decide_eq_true Q8
     have q418 : x3_1 < (l0.length : Int):=of_decide_eq_true Q8
     obtain ⟨ad418,e418,hx418_0,hx418_1⟩:=at_T36 HR0.out x3_1 p418 q418
     have hw418_1:=hx418_1
     have hw418_0:=hx418_0
     cases e418
     replace hx418_0:=cb_ HB hx418_0
     replace hx418_1:=cb_ HB hx418_1
     replace p418:=eq_true p418
     replace q418:=eq_true q418
     refine start_ (n:=38) (S:=fun w'=>w'.cell? (ad418.add ((x3_1).toNat * 2)) = some (.int .i64 ((rd_T36 l0 x3_1).f0)) ∧ w'.cell? ⟨(ad418.add ((x3_1).toNat * 2)).block,(ad418.add ((x3_1).toNat * 2)).off + 1,none⟩ = some (.int .i64 ((rd_T36 l0 x3_1).f1))) (ds:=[]) b38_0 Q1 rfl rfl ⟨(cb_ HB hw418_0:),(cb_ HB hw418_1:)⟩ (fun hHeld=>?_);refine with_tabW spec_FrontOk.tab4 spec_FrontOk.bits4 (fun HT_ HW_=>?_)
     generalize wr.drew = w20 at HB hx418_0 hx418_1 hHeld ⊢
     refine pU_ 0 10 b38_1 ?_
     refine pU_ 1 11 b38_2 ?_
     refine pU_ 2 12 b38_3 ?_
     refine tU_ 3 13 b38_4 hHeld ?_
     refine one_ (i:=4) (N:=some 14) b38_5 rfl rfl (one_of HT_.out Q1) Q0 (fun K hK=>?_)
     refine goes_ Try.func60 Q1 rfl #[.agg #[.int .i64 ((rd_T36 l0 x3_1).f0),.int .i64 ((rd_T36 l0 x3_1).f1)]] (by rfl) rfl rfl Q84 ?_
     with_reducible refine (spec_TimeOk.calls ((rd_T36 l0 x3_1).f0) ((rd_T36 l0 x3_1).f1) false _ A4.out).mono ?_
     rintro e w21 ⟨rfl,hb⟩
     refine ⟨_,rfl,?_⟩
     replace HB:=am (below_step Q80 hb)
     (try clear hb)
     (try clear hb2)
     (try clear hk)
     (try clear hi)
     refine hK.out _ _ ⟨(cb_ HB hw418_0:),(cb_ HB hw418_1:)⟩ (fun hHeld=>?_)
     clear hK K
     refine norm_ (a':=?_) ?_ ?_
     rotate_left
     ·show Act.put _ (some 14) _ = _
      simp only [Act.put,sA_,sZ_,sS_,i64_w,i32_w]
      rfl
     refine pU_ 5 15 b38_6 ?_
     refine pU_ 6 16 b38_7 ?_
     refine pV_ 7 17 b38_8 ?_
     refine pV_ 8 18 b38_9 ?_
     refine pV_ 9 19 b38_10 ?_
     refine pV_ 10 20 b38_11 ?_
     refine pV_ 11 21 b38_12 ?_
     refine pV_ 12 22 b38_13 ?_
     refine pV_ 13 23 b38_14 ?_
     refine pV_ 14 24 b38_15 ?_
     refine pV_ 15 25 b38_16 ?_
     refine pV_ 16 26 b38_17 ?_
     refine pV_ 17 27 b38_18 ?_
     refine pV_ 18 28 b38_19 ?_
     refine pV_ 19 29 b38_20 ?_
     refine pV_ 20 30 b38_21 ?_
     refine pV_ 21 31 b38_22 ?_
     refine pV_ 22 32 b38_23 ?_
     refine pV_ 23 33 b38_24 ?_
     refine pV_ 24 34 b38_25 ?_
     refine pV_ 25 35 b38_26 ?_
     refine pV_ 26 36 b38_27 ?_
     refine pV_ 27 37 b38_28 ?_
     refine pV_ 28 38 b38_29 ?_
     refine pV_ 29 39 b38_30 ?_
     refine pV_ 30 40 b38_31 ?_
     refine pV_ 31 41 b38_32 ?_
     refine pV_ 32 42 b38_33 ?_
     refine pV_ 33 43 b38_34 ?_
     refine pV_ 34 44 b38_35 ?_
     refine pV_ 35 45 b38_36 ?_
     refine pV_ 36 46 b38_37 ?_
     refine pU_ 37 47 b38_38 ?_
     refine done_ (done_of HT_.out Q1) ?_
     try go_wp2
     go_ret
     exact ⟨Q18,Q80⟩
   ·rw [if_neg c2] at H
    have c2b0 : decide (x3_1 < (l0.length : Int)) = false:=decide_eq_false c2
    clear c2
    obtain rfl:=Option.some.inj H
    go_wp2
    go_ret
    exact ⟨Q18,Q80⟩
def spec_TimeJoin.f (a0_0 : Int) (a0_1 : Int) (a1_0 : Int) (a1_1 : Int) : Option (Int × Int) := (spec_TimeOk.f a0_0 a0_1).bind fun t427 => (if t427 = true then ((spec_TimeOk.f a1_0 a1_1).bind fun t428 => (if t428 = true then (some (mx a0_0 a1_0, mx a0_1 a1_1)) else (some (0, 0)))) else (some (0, 0)))
set_option maxHeartbeats 8000000 in
set_option maxRecDepth 100000 in
theorem spec_TimeJoin.calls (a0_0 : Int) (a0_1 : Int) (a1_0 : Int) (a1_1 : Int) (r1 : Int) (r2 : Int) (w : World) (h : spec_TimeJoin.f a0_0 a0_1 a1_0 a1_1 = some (r1,r2)) :
  Calls Try.prog 86 #[.agg #[.int .i64 a0_0,.int .i64 a0_1],.agg #[.int .i64 a1_0,.int .i64 a1_1]] w fun e w'=>e = .returned (.agg #[.int .i64 r1,.int .i64 r2]) ∧ Below w.heap.size w w':=by
 have hu36:=Try.underlying36
 have HB:=am (Below.refl w.heap.size w)
 have H : ((spec_TimeOk.f a0_0 a0_1).bind fun t427=>(if t427 = true then ((spec_TimeOk.f a1_0 a1_1).bind fun t428=>(if t428 = true then (some (mx a0_0 a1_0,mx a0_1 a1_1)) else (some (0,0)))) else (some (0,0)))) = some (r1,r2):=h
 clear h
 replace H:=Option.bind_eq_some_iff.mp H
 obtain ⟨t427,A30,H⟩:=H
 replace H : (if t427 = true then ((spec_TimeOk.f a1_0 a1_1).bind fun t428=>(if t428 = true then (some (mx a0_0 a1_0,mx a0_1 a1_1)) else (some (0,0)))) else (some (0,0))) = some (r1,r2):=H
 have A3:=Aside0.mk A30
 clear A30
 by_cases c4 : t427 = true
 ·subst c4
  have H1 : ((spec_TimeOk.f a1_0 a1_1).bind fun t428=>(if t428 = true then (some (mx a0_0 a1_0,mx a0_1 a1_1)) else (some (0,0)))) = some (r1,r2):=by rw [if_pos rfl] at H;exact H
  clear H
  have H:=H1
  clear H1
  replace H:=Option.bind_eq_some_iff.mp H
  obtain ⟨t428,A50,H⟩:=H
  replace H : (if t428 = true then (some (mx a0_0 a1_0,mx a0_1 a1_1)) else (some (0,0))) = some (r1,r2):=H
  have A5:=Aside0.mk A50
  clear A50
  by_cases c6 : t428 = true
  ·subst c6
   have H1 : (some (mx a0_0 a1_0,mx a0_1 a1_1)) = some (r1,r2):=by rw [if_pos rfl] at H;exact H
   clear H
   have H:=H1
   clear H1
   obtain ⟨ji7,hji7⟩ : ∃ j_ : Int,(mx a0_0 a1_0) = j_:=⟨_,rfl⟩
   replace H : (some (ji7,mx a0_1 a1_1)) = some (r1,r2):=Q12
   (try rw [hji7] at A3)
   (try rw [hji7] at A5)
   have hji7_ : (if a0_0 < a1_0 then a1_0 else a0_0) = ji7:=hji7
   obtain ⟨ji8,hji8⟩ : ∃ j_ : Int,(mx a0_1 a1_1) = j_:=⟨_,rfl⟩
   replace H : (some (ji7,ji8)) = some (r1,r2):=Q11
   (try rw [hji8] at A3)
   (try rw [hji8] at A5)
   have hji8_ : (if a0_1 < a1_1 then a1_1 else a0_1) = ji8:=hji8
   simp only [Option.some.injEq,Prod.mk.injEq] at H
   obtain ⟨rfl,rfl⟩:=H
   go_enter Try.func86,Try.ntmps86
   go_wp2_with (first|((with_reducible refine gate_dst (N:=2) rfl ?_);refine bE_ 2 #[.int .i64 a0_0,.int .i64 a0_1] 36 ?_;intro gb424 hg w9 hbox hb;have BK424:=am (hbox);have GW424:=am ((Q173 : w.heap.size ≤ gb424));replace HB:=am (below_step Q80 hb);have GE424:=GW424;clear hb hbox hg)|((with_reducible refine gate_dst (N:=3) rfl ?_);refine bE_ 3 #[.int .i64 a1_0,.int .i64 a1_1] 36 ?_;intro gb425 hg w10 hbox hb;have BK425:=am (hbox);have GW425:=am ((by rw [hg];exact (below_size Q103) : w.heap.size ≤ gb425));replace HB:=am (below_step Q103 hb);have NB424_425:=am ((Q195 : gb424 ≠ gb425));have NB425_424:=am ((Q196 : gb425 ≠ gb424));replace BK424:=am (blk_below (g:=gb424) (o:=.cells #[.int .i64 a0_0,.int .i64 a0_1] 36 (0,0)) Q62 hb);have GE425:=GW425;clear hb hbox hg)|((with_reducible refine gate_dst (N:=4) rfl ?_);refine bE_ 4 #[.int .i64 0,.int .i64 0] 36 ?_;intro gb426 hg w11 hbox hb;have BK426:=am (hbox);have GW426:=am ((by rw [hg];exact (below_size Q139) : w.heap.size ≤ gb426));replace HB:=am (below_step Q139 hb);have NB424_426:=am ((Q195 : gb424 ≠ gb426));have NB426_424:=am ((Q196 : gb426 ≠ gb424));replace BK424:=am (blk_below (g:=gb424) (o:=.cells #[.int .i64 a0_0,.int .i64 a0_1] 36 (0,0)) Q62 hb);have NB425_426:=am ((Q197 : gb425 ≠ gb426));have NB426_425:=am ((Q198 : gb426 ≠ gb425));replace BK425:=am (blk_below (g:=gb425) (o:=.cells #[.int .i64 a1_0,.int .i64 a1_1] 36 (0,0)) Q63 hb);have GE426:=GW426;clear hb hbox hg;have hnb12:=NB424_425.out;have hnc12:=NB425_424.out;have hnb13:=NB424_426.out;have hnc13:=NB426_424.out;obtain ⟨hcz14_0,hcz14_1,hfz14_0,hfz14_1⟩:=bx2_ BK424)|((with_reducible refine gate_callee (f:=60) rfl ?_);refine goesL_ (some 6) rfl rfl Try.func60 Q1 rfl #[.agg #[.int .i64 a0_0,.int .i64 a0_1]] rfl Q84 ?_;(with_reducible refine (spec_TimeOk.calls a0_0 a0_1 true _ A3.out).mono ?_);rintro e w15 ⟨rfl,hb⟩;refine ⟨_,rfl,?_⟩;replace BK424:=am (blk_below (g:=gb424) (o:=.cells #[.int .i64 a0_0,.int .i64 a0_1] 36 (0,0)) Q62 hb);replace BK425:=am (blk_below (g:=gb425) (o:=.cells #[.int .i64 a1_0,.int .i64 a1_1] 36 (0,0)) Q63 hb);replace BK426:=am (blk_below (g:=gb426) (o:=.cells #[.int .i64 0,.int .i64 0] 36 (0,0)) Q64 hb);replace HB:=am (below_step Q156 hb);(try clear hb);have hnb16:=NB425_426.out;have hnc16:=NB426_425.out;obtain ⟨hcz17_0,hcz17_1,hfz17_0,hfz17_1⟩:=bx2_ BK425)|(go_at_call 60;(with_reducible refine (spec_TimeOk.calls a1_0 a1_1 true _ A5.out).mono ?_);rintro e w18 ⟨rfl,hb⟩;replace BK424:=am (blk_below (g:=gb424) (o:=.cells #[.int .i64 a0_0,.int .i64 a0_1] 36 (0,0)) Q62 hb);replace BK425:=am (blk_below (g:=gb425) (o:=.cells #[.int .i64 a1_0,.int .i64 a1_1] 36 (0,0)) Q63 hb);replace BK426:=am (blk_below (g:=gb426) (o:=.cells #[.int .i64 0,.int .i64 0] 36 (0,0)) Q64 hb);replace HB:=am (below_step Q156 hb);(try clear hb);obtain ⟨hcz19_0,hcz19_1,hfz19_0,hfz19_1⟩:=bx2_ BK424;obtain ⟨hcz20_0,hcz20_1,hfz20_0,hfz20_1⟩:=bx2_ BK425;obtain ⟨hcz21_0,hcz21_1,hfz21_0,hfz21_1⟩:=bx2_ BK426))
   refine bodyPost_ret (results_cell_row rfl _ _ gb426 36 #[.int .i64 ji7,.int .i64 ji8] (0,0) _ rfl (by (with_reducible repeat (first|refine blk_drewN ?_ _|refine blk_drew ?_|refine blk_alloc ?_ _));refine blk_put (cs:=#[.int .i64 ji7,.int .i64 0]) ?_ 1 _ rfl;(with_reducible repeat (first|refine blk_drewN ?_ _|refine blk_drew ?_|refine blk_alloc ?_ _));refine blk_put (cs:=#[.int .i64 0,.int .i64 0]) ?_ 0 _ rfl;(with_reducible repeat (first|refine blk_drewN ?_ _|refine blk_drew ?_|refine blk_alloc ?_ _));exact BK426.out) Try.underlying36 rfl Q1) rfl ?_
   exact ⟨Q122,Q156⟩
  ·replace c6:=Bool.eq_false_iff.mpr c6
   subst c6
   have H1 : (some (0,0)) = some (r1,r2):=by rw [if_neg (show ¬ (false = true) by decide)] at H;exact H
   clear H
   have H:=H1
   clear H1
   simp only [Option.some.injEq,Prod.mk.injEq] at H
   obtain ⟨rfl,rfl⟩:=H
   go_enter Try.func86,Try.ntmps86
   go_wp2_with (first|((with_reducible refine gate_dst (N:=2) rfl ?_);refine bE_ 2 #[.int .i64 a0_0,.int .i64 a0_1] 36 ?_;intro gb424 hg w22 hbox hb;have BK424:=am (hbox);have GW424:=am ((Q173 : w.heap.size ≤ gb424));replace HB:=am (below_step Q80 hb);have GE424:=GW424;clear hb hbox hg)|((with_reducible refine gate_dst (N:=3) rfl ?_);refine bE_ 3 #[.int .i64 a1_0,.int .i64 a1_1] 36 ?_;intro gb425 hg w23 hbox hb;have BK425:=am (hbox);have GW425:=am ((by rw [hg];exact (below_size Q103) : w.heap.size ≤ gb425));replace HB:=am (below_step Q103 hb);have NB424_425:=am ((Q195 : gb424 ≠ gb425));have NB425_424:=am ((Q196 : gb425 ≠ gb424));replace BK424:=am (blk_below (g:=gb424) (o:=.cells #[.int .i64 a0_0,.int .i64 a0_1] 36 (0,0)) Q62 hb);have GE425:=GW425;clear hb hbox hg)|((with_reducible refine gate_dst (N:=4) rfl ?_);refine bE_ 4 #[.int .i64 0,.int .i64 0] 36 ?_;intro gb426 hg w24 hbox hb;have BK426:=am (hbox);have GW426:=am ((by rw [hg];exact (below_size Q139) : w.heap.size ≤ gb426));replace HB:=am (below_step Q139 hb);have NB424_426:=am ((Q195 : gb424 ≠ gb426));have NB426_424:=am ((Q196 : gb426 ≠ gb424));replace BK424:=am (blk_below (g:=gb424) (o:=.cells #[.int .i64 a0_0,.int .i64 a0_1] 36 (0,0)) Q62 hb);have NB425_426:=am ((Q197 : gb425 ≠ gb426));have NB426_425:=am ((Q198 : gb426 ≠ gb425));replace BK425:=am (blk_below (g:=gb425) (o:=.cells #[.int .i64 a1_0,.int .i64 a1_1] 36 (0,0)) Q63 hb);have GE426:=GW426;clear hb hbox hg;have hnb25:=NB424_425.out;have hnc25:=NB425_424.out;have hnb26:=NB424_426.out;have hnc26:=NB426_424.out;obtain ⟨hcz27_0,hcz27_1,hfz27_0,hfz27_1⟩:=bx2_ BK424)|((with_reducible refine gate_callee (f:=60) rfl ?_);refine goesL_ (some 6) rfl rfl Try.func60 Q1 rfl #[.agg #[.int .i64 a0_0,.int .i64 a0_1]] rfl Q84 ?_;(with_reducible refine (spec_TimeOk.calls a0_0 a0_1 true _ A3.out).mono ?_);rintro e w28 ⟨rfl,hb⟩;refine ⟨_,rfl,?_⟩;replace BK424:=am (blk_below (g:=gb424) (o:=.cells #[.int .i64 a0_0,.int .i64 a0_1] 36 (0,0)) Q62 hb);replace BK425:=am (blk_below (g:=gb425) (o:=.cells #[.int .i64 a1_0,.int .i64 a1_1] 36 (0,0)) Q63 hb);replace BK426:=am (blk_below (g:=gb426) (o:=.cells #[.int .i64 0,.int .i64 0] 36 (0,0)) Q64 hb);replace HB:=am (below_step Q156 hb);(try clear hb);have hnb29:=NB425_426.out;have hnc29:=NB426_425.out;obtain ⟨hcz30_0,hcz30_1,hfz30_0,hfz30_1⟩:=bx2_ BK425)|(go_at_call 60;(with_reducible refine (spec_TimeOk.calls a1_0 a1_1 false _ A5.out).mono ?_);rintro e w31 ⟨rfl,hb⟩;replace BK424:=am (blk_below (g:=gb424) (o:=.cells #[.int .i64 a0_0,.int .i64 a0_1] 36 (0,0)) Q62 hb);replace BK425:=am (blk_below (g:=gb425) (o:=.cells #[.int .i64 a1_0,.int .i64 a1_1] 36 (0,0)) Q63 hb);replace BK426:=am (blk_below (g:=gb426) (o:=.cells #[.int .i64 0,.int .i64 0] 36 (0,0)) Q64 hb);replace HB:=am (below_step Q156 hb);(try clear hb);obtain ⟨hcz32_0,hcz32_1,hfz32_0,hfz32_1⟩:=bx2_ BK426))
   refine bodyPost_ret (results_cell_row rfl _ _ gb426 36 #[.int .i64 0,.int .i64 0] (0,0) _ rfl (by (with_reducible repeat (first|refine blk_drewN ?_ _|refine blk_drew ?_|refine blk_alloc ?_ _));refine blk_put (cs:=#[.int .i64 0,.int .i64 0]) ?_ 1 _ rfl;(with_reducible repeat (first|refine blk_drewN ?_ _|refine blk_drew ?_|refine blk_alloc ?_ _));refine blk_put (cs:=#[.int .i64 0,.int .i64 0]) ?_ 0 _ rfl;(with_reducible repeat (first|refine blk_drewN ?_ _|refine blk_drew ?_|refine blk_alloc ?_ _));exact BK426.out) Try.underlying36 rfl Q1) rfl ?_
   exact ⟨Q18,Q156⟩
 ·replace c4:=Bool.eq_false_iff.mpr c4
  subst c4
  have H1 : (some (0,0)) = some (r1,r2):=by rw [if_neg (show ¬ (false = true) by decide)] at H;exact H
  clear H
  have H:=H1
  clear H1
  simp only [Option.some.injEq,Prod.mk.injEq] at H
  obtain ⟨rfl,rfl⟩:=H
  go_enter Try.func86,Try.ntmps86
  go_wp2_with (first|((with_reducible refine gate_dst (N:=2) rfl ?_);refine bE_ 2 #[.int .i64 a0_0,.int .i64 a0_1] 36 ?_;intro gb424 hg w33 hbox hb;have BK424:=am (hbox);have GW424:=am ((Q173 : w.heap.size ≤ gb424));replace HB:=am (below_step Q80 hb);have GE424:=GW424;clear hb hbox hg)|((with_reducible refine gate_dst (N:=3) rfl ?_);refine bE_ 3 #[.int .i64 a1_0,.int .i64 a1_1] 36 ?_;intro gb425 hg w34 hbox hb;have BK425:=am (hbox);have GW425:=am ((by rw [hg];exact (below_size Q103) : w.heap.size ≤ gb425));replace HB:=am (below_step Q103 hb);have NB424_425:=am ((Q195 : gb424 ≠ gb425));have NB425_424:=am ((Q196 : gb425 ≠ gb424));replace BK424:=am (blk_below (g:=gb424) (o:=.cells #[.int .i64 a0_0,.int .i64 a0_1] 36 (0,0)) Q62 hb);have GE425:=GW425;clear hb hbox hg)|((with_reducible refine gate_dst (N:=4) rfl ?_);refine bE_ 4 #[.int .i64 0,.int .i64 0] 36 ?_;intro gb426 hg w35 hbox hb;have BK426:=am (hbox);have GW426:=am ((by rw [hg];exact (below_size Q139) : w.heap.size ≤ gb426));replace HB:=am (below_step Q139 hb);have NB424_426:=am ((Q195 : gb424 ≠ gb426));have NB426_424:=am ((Q196 : gb426 ≠ gb424));replace BK424:=am (blk_below (g:=gb424) (o:=.cells #[.int .i64 a0_0,.int .i64 a0_1] 36 (0,0)) Q62 hb);have NB425_426:=am ((Q197 : gb425 ≠ gb426));have NB426_425:=am ((Q198 : gb426 ≠ gb425));replace BK425:=am (blk_below (g:=gb425) (o:=.cells #[.int .i64 a1_0,.int .i64 a1_1] 36 (0,0)) Q63 hb);have GE426:=GW426;clear hb hbox hg;have hnb36:=NB424_425.out;have hnc36:=NB425_424.out;have hnb37:=NB424_426.out;have hnc37:=NB426_424.out;obtain ⟨hcz38_0,hcz38_1,hfz38_0,hfz38_1⟩:=bx2_ BK424)|((with_reducible refine gate_callee (f:=60) rfl ?_);refine goesL_ (some 6) rfl rfl Try.func60 Q1 rfl #[.agg #[.int .i64 a0_0,.int .i64 a0_1]] rfl Q84 ?_;(with_reducible refine (spec_TimeOk.calls a0_0 a0_1 false _ A3.out).mono ?_);rintro e w39 ⟨rfl,hb⟩;refine ⟨_,rfl,?_⟩;replace BK424:=am (blk_below (g:=gb424) (o:=.cells #[.int .i64 a0_0,.int .i64 a0_1] 36 (0,0)) Q62 hb);replace BK425:=am (blk_below (g:=gb425) (o:=.cells #[.int .i64 a1_0,.int .i64 a1_1] 36 (0,0)) Q63 hb);replace BK426:=am (blk_below (g:=gb426) (o:=.cells #[.int .i64 0,.int .i64 0] 36 (0,0)) Q64 hb);replace HB:=am (below_step Q156 hb);(try clear hb);have hnb40:=NB426_425.out;have hnc40:=NB425_426.out;obtain ⟨hcz41_0,hcz41_1,hfz41_0,hfz41_1⟩:=bx2_ BK426))
  refine bodyPost_ret (results_cell_row rfl _ _ gb426 36 #[.int .i64 0,.int .i64 0] (0,0) _ rfl (by (with_reducible repeat (first|refine blk_drewN ?_ _|refine blk_drew ?_|refine blk_alloc ?_ _));refine blk_put (cs:=#[.int .i64 0,.int .i64 0]) ?_ 1 _ rfl;(with_reducible repeat (first|refine blk_drewN ?_ _|refine blk_drew ?_|refine blk_alloc ?_ _));refine blk_put (cs:=#[.int .i64 0,.int .i64 0]) ?_ 0 _ rfl;(with_reducible repeat (first|refine blk_drewN ?_ _|refine blk_drew ?_|refine blk_alloc ?_ _));exact BK426.out) Try.underlying36 rfl Q1) rfl ?_
  exact ⟨Q18,Q156⟩
def spec_TimeMeet.f (a0_0 : Int) (a0_1 : Int) (a1_0 : Int) (a1_1 : Int) : Option (Int × Int) := (spec_TimeOk.f a0_0 a0_1).bind fun t432 => (if t432 = true then ((spec_TimeOk.f a1_0 a1_1).bind fun t433 => (if t433 = true then (some (mn a0_0 a1_0, mn a0_1 a1_1)) else (some (0, 0)))) else (some (0, 0)))
set_option maxHeartbeats 8000000 in
set_option maxRecDepth 100000 in
theorem spec_TimeMeet.calls (a0_0 : Int) (a0_1 : Int) (a1_0 : Int) (a1_1 : Int) (r1 : Int) (r2 : Int) (w : World) (h : spec_TimeMeet.f a0_0 a0_1 a1_0 a1_1 = some (r1,r2)) :
  Calls Try.prog 87 #[.agg #[.int .i64 a0_0,.int .i64 a0_1],.agg #[.int .i64 a1_0,.int .i64 a1_1]] w fun e w'=>e = .returned (.agg #[.int .i64 r1,.int .i64 r2]) ∧ Below w.heap.size w w':=by
 have hu36:=Try.underlying36
 have HB:=am (Below.refl w.heap.size w)
 have H : ((spec_TimeOk.f a0_0 a0_1).bind fun t432=>(if t432 = true then ((spec_TimeOk.f a1_0 a1_1).bind fun t433=>(if t433 = true then (some (mn a0_0 a1_0,mn a0_1 a1_1)) else (some (0,0)))) else (some (0,0)))) = some (r1,r2):=h
 clear h
 replace H:=Option.bind_eq_some_iff.mp H
 obtain ⟨t432,A30,H⟩:=H
 replace H : (if t432 = true then ((spec_TimeOk.f a1_0 a1_1).bind fun t433=>(if t433 = true then (some (mn a0_0 a1_0,mn a0_1 a1_1)) else (some (0,0)))) else (some (0,0))) = some (r1,r2):=H
 have A3:=Aside0.mk A30
 clear A30
 by_cases c4 : t432 = true
 ·subst c4
  have H1 : ((spec_TimeOk.f a1_0 a1_1).bind fun t433=>(if t433 = true then (some (mn a0_0 a1_0,mn a0_1 a1_1)) else (some (0,0)))) = some (r1,r2):=by rw [if_pos rfl] at H;exact H
  clear H
  have H:=H1
  clear H1
  replace H:=Option.bind_eq_some_iff.mp H
  obtain ⟨t433,A50,H⟩:=H
  replace H : (if t433 = true then (some (mn a0_0 a1_0,mn a0_1 a1_1)) else (some (0,0))) = some (r1,r2):=H
  have A5:=Aside0.mk A50
  clear A50
  by_cases c6 : t433 = true
  ·subst c6
   have H1 : (some (mn a0_0 a1_0,mn a0_1 a1_1)) = some (r1,r2):=by rw [if_pos rfl] at H;exact H
   clear H
   have H:=H1
   clear H1
   obtain ⟨ji7,hji7⟩ : ∃ j_ : Int,(mn a0_0 a1_0) = j_:=⟨_,rfl⟩
   replace H : (some (ji7,mn a0_1 a1_1)) = some (r1,r2):=Q12
   (try rw [hji7] at A3)
   (try rw [hji7] at A5)
   have hji7_ : (if a1_0 < a0_0 then a1_0 else a0_0) = ji7:=hji7
   obtain ⟨ji8,hji8⟩ : ∃ j_ : Int,(mn a0_1 a1_1) = j_:=⟨_,rfl⟩
   replace H : (some (ji7,ji8)) = some (r1,r2):=Q11
   (try rw [hji8] at A3)
   (try rw [hji8] at A5)
   have hji8_ : (if a1_1 < a0_1 then a1_1 else a0_1) = ji8:=hji8
   simp only [Option.some.injEq,Prod.mk.injEq] at H
   obtain ⟨rfl,rfl⟩:=H
   go_enter Try.func87,Try.ntmps87
   go_wp2_with (first|((with_reducible refine gate_dst (N:=2) rfl ?_);refine bE_ 2 #[.int .i64 a0_0,.int .i64 a0_1] 36 ?_;intro gb429 hg w9 hbox hb;have BK429:=am (hbox);have GW429:=am ((Q173 : w.heap.size ≤ gb429));replace HB:=am (below_step Q80 hb);have GE429:=GW429;clear hb hbox hg)|((with_reducible refine gate_dst (N:=3) rfl ?_);refine bE_ 3 #[.int .i64 a1_0,.int .i64 a1_1] 36 ?_;intro gb430 hg w10 hbox hb;have BK430:=am (hbox);have GW430:=am ((by rw [hg];exact (below_size Q104) : w.heap.size ≤ gb430));replace HB:=am (below_step Q104 hb);have NB429_430:=am ((Q199 : gb429 ≠ gb430));have NB430_429:=am ((Q200 : gb430 ≠ gb429));replace BK429:=am (blk_below (g:=gb429) (o:=.cells #[.int .i64 a0_0,.int .i64 a0_1] 36 (0,0)) Q65 hb);have GE430:=GW430;clear hb hbox hg)|((with_reducible refine gate_dst (N:=4) rfl ?_);refine bE_ 4 #[.int .i64 0,.int .i64 0] 36 ?_;intro gb431 hg w11 hbox hb;have BK431:=am (hbox);have GW431:=am ((by rw [hg];exact (below_size Q140) : w.heap.size ≤ gb431));replace HB:=am (below_step Q140 hb);have NB429_431:=am ((Q199 : gb429 ≠ gb431));have NB431_429:=am ((Q200 : gb431 ≠ gb429));replace BK429:=am (blk_below (g:=gb429) (o:=.cells #[.int .i64 a0_0,.int .i64 a0_1] 36 (0,0)) Q65 hb);have NB430_431:=am ((Q201 : gb430 ≠ gb431));have NB431_430:=am ((Q202 : gb431 ≠ gb430));replace BK430:=am (blk_below (g:=gb430) (o:=.cells #[.int .i64 a1_0,.int .i64 a1_1] 36 (0,0)) Q66 hb);have GE431:=GW431;clear hb hbox hg;have hnb12:=NB429_430.out;have hnc12:=NB430_429.out;have hnb13:=NB429_431.out;have hnc13:=NB431_429.out;obtain ⟨hcz14_0,hcz14_1,hfz14_0,hfz14_1⟩:=bx2_ BK429)|((with_reducible refine gate_callee (f:=60) rfl ?_);refine goesL_ (some 6) rfl rfl Try.func60 Q1 rfl #[.agg #[.int .i64 a0_0,.int .i64 a0_1]] rfl Q84 ?_;(with_reducible refine (spec_TimeOk.calls a0_0 a0_1 true _ A3.out).mono ?_);rintro e w15 ⟨rfl,hb⟩;refine ⟨_,rfl,?_⟩;replace BK429:=am (blk_below (g:=gb429) (o:=.cells #[.int .i64 a0_0,.int .i64 a0_1] 36 (0,0)) Q65 hb);replace BK430:=am (blk_below (g:=gb430) (o:=.cells #[.int .i64 a1_0,.int .i64 a1_1] 36 (0,0)) Q66 hb);replace BK431:=am (blk_below (g:=gb431) (o:=.cells #[.int .i64 0,.int .i64 0] 36 (0,0)) Q67 hb);replace HB:=am (below_step Q157 hb);(try clear hb);have hnb16:=NB430_431.out;have hnc16:=NB431_430.out;obtain ⟨hcz17_0,hcz17_1,hfz17_0,hfz17_1⟩:=bx2_ BK430)|(go_at_call 60;(with_reducible refine (spec_TimeOk.calls a1_0 a1_1 true _ A5.out).mono ?_);rintro e w18 ⟨rfl,hb⟩;replace BK429:=am (blk_below (g:=gb429) (o:=.cells #[.int .i64 a0_0,.int .i64 a0_1] 36 (0,0)) Q65 hb);replace BK430:=am (blk_below (g:=gb430) (o:=.cells #[.int .i64 a1_0,.int .i64 a1_1] 36 (0,0)) Q66 hb);replace BK431:=am (blk_below (g:=gb431) (o:=.cells #[.int .i64 0,.int .i64 0] 36 (0,0)) Q67 hb);replace HB:=am (below_step Q157 hb);(try clear hb);obtain ⟨hcz19_0,hcz19_1,hfz19_0,hfz19_1⟩:=bx2_ BK429;obtain ⟨hcz20_0,hcz20_1,hfz20_0,hfz20_1⟩:=bx2_ BK430;obtain ⟨hcz21_0,hcz21_1,hfz21_0,hfz21_1⟩:=bx2_ BK431))
   refine bodyPost_ret (results_cell_row rfl _ _ gb431 36 #[.int .i64 ji7,.int .i64 ji8] (0,0) _ rfl (by (with_reducible repeat (first|refine blk_drewN ?_ _|refine blk_drew ?_|refine blk_alloc ?_ _));refine blk_put (cs:=#[.int .i64 ji7,.int .i64 0]) ?_ 1 _ rfl;(with_reducible repeat (first|refine blk_drewN ?_ _|refine blk_drew ?_|refine blk_alloc ?_ _));refine blk_put (cs:=#[.int .i64 0,.int .i64 0]) ?_ 0 _ rfl;(with_reducible repeat (first|refine blk_drewN ?_ _|refine blk_drew ?_|refine blk_alloc ?_ _));exact BK431.out) Try.underlying36 rfl Q1) rfl ?_
   exact ⟨Q122,Q157⟩
  ·replace c6:=Bool.eq_false_iff.mpr c6
   subst c6
   have H1 : (some (0,0)) = some (r1,r2):=by rw [if_neg (show ¬ (false = true) by decide)] at H;exact H
   clear H
   have H:=H1
   clear H1
   simp only [Option.some.injEq,Prod.mk.injEq] at H
   obtain ⟨rfl,rfl⟩:=H
   go_enter Try.func87,Try.ntmps87
   go_wp2_with (first|((with_reducible refine gate_dst (N:=2) rfl ?_);refine bE_ 2 #[.int .i64 a0_0,.int .i64 a0_1] 36 ?_;intro gb429 hg w22 hbox hb;have BK429:=am (hbox);have GW429:=am ((Q173 : w.heap.size ≤ gb429));replace HB:=am (below_step Q80 hb);have GE429:=GW429;clear hb hbox hg)|((with_reducible refine gate_dst (N:=3) rfl ?_);refine bE_ 3 #[.int .i64 a1_0,.int .i64 a1_1] 36 ?_;intro gb430 hg w23 hbox hb;have BK430:=am (hbox);have GW430:=am ((by rw [hg];exact (below_size Q104) : w.heap.size ≤ gb430));replace HB:=am (below_step Q104 hb);have NB429_430:=am ((Q199 : gb429 ≠ gb430));have NB430_429:=am ((Q200 : gb430 ≠ gb429));replace BK429:=am (blk_below (g:=gb429) (o:=.cells #[.int .i64 a0_0,.int .i64 a0_1] 36 (0,0)) Q65 hb);have GE430:=GW430;clear hb hbox hg)|((with_reducible refine gate_dst (N:=4) rfl ?_);refine bE_ 4 #[.int .i64 0,.int .i64 0] 36 ?_;intro gb431 hg w24 hbox hb;have BK431:=am (hbox);have GW431:=am ((by rw [hg];exact (below_size Q140) : w.heap.size ≤ gb431));replace HB:=am (below_step Q140 hb);have NB429_431:=am ((Q199 : gb429 ≠ gb431));have NB431_429:=am ((Q200 : gb431 ≠ gb429));replace BK429:=am (blk_below (g:=gb429) (o:=.cells #[.int .i64 a0_0,.int .i64 a0_1] 36 (0,0)) Q65 hb);have NB430_431:=am ((Q201 : gb430 ≠ gb431));have NB431_430:=am ((Q202 : gb431 ≠ gb430));replace BK430:=am (blk_below (g:=gb430) (o:=.cells #[.int .i64 a1_0,.int .i64 a1_1] 36 (0,0)) Q66 hb);have GE431:=GW431;clear hb hbox hg;have hnb25:=NB429_430.out;have hnc25:=NB430_429.out;have hnb26:=NB429_431.out;have hnc26:=NB431_429.out;obtain ⟨hcz27_0,hcz27_1,hfz27_0,hfz27_1⟩:=bx2_ BK429)|((with_reducible refine gate_callee (f:=60) rfl ?_);refine goesL_ (some 6) rfl rfl Try.func60 Q1 rfl #[.agg #[.int .i64 a0_0,.int .i64 a0_1]] rfl Q84 ?_;(with_reducible refine (spec_TimeOk.calls a0_0 a0_1 true _ A3.out).mono ?_);rintro e w28 ⟨rfl,hb⟩;refine ⟨_,rfl,?_⟩;replace BK429:=am (blk_below (g:=gb429) (o:=.cells #[.int .i64 a0_0,.int .i64 a0_1] 36 (0,0)) Q65 hb);replace BK430:=am (blk_below (g:=gb430) (o:=.cells #[.int .i64 a1_0,.int .i64 a1_1] 36 (0,0)) Q66 hb);replace BK431:=am (blk_below (g:=gb431) (o:=.cells #[.int .i64 0,.int .i64 0] 36 (0,0)) Q67 hb);replace HB:=am (below_step Q157 hb);(try clear hb);have hnb29:=NB430_431.out;have hnc29:=NB431_430.out;obtain ⟨hcz30_0,hcz30_1,hfz30_0,hfz30_1⟩:=bx2_ BK430)|(go_at_call 60;(with_reducible refine (spec_TimeOk.calls a1_0 a1_1 false _ A5.out).mono ?_);rintro e w31 ⟨rfl,hb⟩;replace BK429:=am (blk_below (g:=gb429) (o:=.cells #[.int .i64 a0_0,.int .i64 a0_1] 36 (0,0)) Q65 hb);replace BK430:=am (blk_below (g:=gb430) (o:=.cells #[.int .i64 a1_0,.int .i64 a1_1] 36 (0,0)) Q66 hb);replace BK431:=am (blk_below (g:=gb431) (o:=.cells #[.int .i64 0,.int .i64 0] 36 (0,0)) Q67 hb);replace HB:=am (below_step Q157 hb);(try clear hb);obtain ⟨hcz32_0,hcz32_1,hfz32_0,hfz32_1⟩:=bx2_ BK431))
   refine bodyPost_ret (results_cell_row rfl _ _ gb431 36 #[.int .i64 0,.int .i64 0] (0,0) _ rfl (by (with_reducible repeat (first|refine blk_drewN ?_ _|refine blk_drew ?_|refine blk_alloc ?_ _));refine blk_put (cs:=#[.int .i64 0,.int .i64 0]) ?_ 1 _ rfl;(with_reducible repeat (first|refine blk_drewN ?_ _|refine blk_drew ?_|refine blk_alloc ?_ _));refine blk_put (cs:=#[.int .i64 0,.int .i64 0]) ?_ 0 _ rfl;(with_reducible repeat (first|refine blk_drewN ?_ _|refine blk_drew ?_|refine blk_alloc ?_ _));exact BK431.out) Try.underlying36 rfl Q1) rfl ?_
   exact ⟨Q18,Q157⟩
 ·replace c4:=Bool.eq_false_iff.mpr c4
  subst c4
  have H1 : (some (0,0)) = some (r1,r2):=by rw [if_neg (show ¬ (false = true) by decide)] at H;exact H
  clear H
  have H:=H1
  clear H1
  simp only [Option.some.injEq,Prod.mk.injEq] at H
  obtain ⟨rfl,rfl⟩:=H
  go_enter Try.func87,Try.ntmps87
  go_wp2_with (first|((with_reducible refine gate_dst (N:=2) rfl ?_);refine bE_ 2 #[.int .i64 a0_0,.int .i64 a0_1] 36 ?_;intro gb429 hg w33 hbox hb;have BK429:=am (hbox);have GW429:=am ((Q173 : w.heap.size ≤ gb429));replace HB:=am (below_step Q80 hb);have GE429:=GW429;clear hb hbox hg)|((with_reducible refine gate_dst (N:=3) rfl ?_);refine bE_ 3 #[.int .i64 a1_0,.int .i64 a1_1] 36 ?_;intro gb430 hg w34 hbox hb;have BK430:=am (hbox);have GW430:=am ((by rw [hg];exact (below_size Q104) : w.heap.size ≤ gb430));replace HB:=am (below_step Q104 hb);have NB429_430:=am ((Q199 : gb429 ≠ gb430));have NB430_429:=am ((Q200 : gb430 ≠ gb429));replace BK429:=am (blk_below (g:=gb429) (o:=.cells #[.int .i64 a0_0,.int .i64 a0_1] 36 (0,0)) Q65 hb);have GE430:=GW430;clear hb hbox hg)|((with_reducible refine gate_dst (N:=4) rfl ?_);refine bE_ 4 #[.int .i64 0,.int .i64 0] 36 ?_;intro gb431 hg w35 hbox hb;have BK431:=am (hbox);have GW431:=am ((by rw [hg];exact (below_size Q140) : w.heap.size ≤ gb431));replace HB:=am (below_step Q140 hb);have NB429_431:=am ((Q199 : gb429 ≠ gb431));have NB431_429:=am ((Q200 : gb431 ≠ gb429));replace BK429:=am (blk_below (g:=gb429) (o:=.cells #[.int .i64 a0_0,.int .i64 a0_1] 36 (0,0)) Q65 hb);have NB430_431:=am ((Q201 : gb430 ≠ gb431));have NB431_430:=am ((Q202 : gb431 ≠ gb430));replace BK430:=am (blk_below (g:=gb430) (o:=.cells #[.int .i64 a1_0,.int .i64 a1_1] 36 (0,0)) Q66 hb);have GE431:=GW431;clear hb hbox hg;have hnb36:=NB429_430.out;have hnc36:=NB430_429.out;have hnb37:=NB429_431.out;have hnc37:=NB431_429.out;obtain ⟨hcz38_0,hcz38_1,hfz38_0,hfz38_1⟩:=bx2_ BK429)|((with_reducible refine gate_callee (f:=60) rfl ?_);refine goesL_ (some 6) rfl rfl Try.func60 Q1 rfl #[.agg #[.int .i64 a0_0,.int .i64 a0_1]] rfl Q84 ?_;(with_reducible refine (spec_TimeOk.calls a0_0 a0_1 false _ A3.out).mono ?_);rintro e w39 ⟨rfl,hb⟩;refine ⟨_,rfl,?_⟩;replace BK429:=am (blk_below (g:=gb429) (o:=.cells #[.int .i64 a0_0,.int .i64 a0_1] 36 (0,0)) Q65 hb);replace BK430:=am (blk_below (g:=gb430) (o:=.cells #[.int .i64 a1_0,.int .i64 a1_1] 36 (0,0)) Q66 hb);replace BK431:=am (blk_below (g:=gb431) (o:=.cells #[.int .i64 0,.int .i64 0] 36 (0,0)) Q67 hb);replace HB:=am (below_step Q157 hb);(try clear hb);have hnb40:=NB431_430.out;have hnc40:=NB430_431.out;obtain ⟨hcz41_0,hcz41_1,hfz41_0,hfz41_1⟩:=bx2_ BK431))
  refine bodyPost_ret (results_cell_row rfl _ _ gb431 36 #[.int .i64 0,.int .i64 0] (0,0) _ rfl (by (with_reducible repeat (first|refine blk_drewN ?_ _|refine blk_drew ?_|refine blk_alloc ?_ _));refine blk_put (cs:=#[.int .i64 0,.int .i64 0]) ?_ 1 _ rfl;(with_reducible repeat (first|refine blk_drewN ?_ _|refine blk_drew ?_|refine blk_alloc ?_ _));refine blk_put (cs:=#[.int .i64 0,.int .i64 0]) ?_ 0 _ rfl;(with_reducible repeat (first|refine blk_drewN ?_ _|refine blk_drew ?_|refine blk_alloc ?_ _));exact BK431.out) Try.underlying36 rfl Q1) rfl ?_
  exact ⟨Q18,Q157⟩
mutual
def spec_FrontMove.j0 : Nat → List (S36) → Bool → Int → Int → Option (Int × Int)
 | 0, _, _, _, _ => none
 | k + 1, x0, x14, x435000, x435001 => if x14 = true then (some (0, 0)) else (if (x0.length : Int) = 0 then (some (x435000, x435001)) else (if 0 < (x0.length : Int) then ((spec_TimeJoin.f ((rd_T36 x0 0).f0) ((rd_T36 x0 0).f1) x435000 x435001).bind fun bt439 => (spec_FrontMove.l0 k x0 1 x435000 x435001 bt439.1 bt439.2)) else (none)))
def spec_FrontMove.l0 : Nat → List (S36) → Int → Int → Int → Int → Int → Option (Int × Int)
 | 0, _, _, _, _, _, _ => none
 | k + 1, x0, x6, x435000, x435001, x442000, x442001 => if x6 < (x0.length : Int) then (if 0 ≤ x6 then ((spec_TimeJoin.f ((rd_T36 x0 x6).f0) ((rd_T36 x0 x6).f1) x435000 x435001).bind fun bt443 => ((spec_TimeMeet.f x442000 x442001 bt443.1 bt443.2).bind fun bt445 => (spec_FrontMove.l0 k x0 (wrap64 (x6 + 1)) x435000 x435001 bt445.1 bt445.2))) else (none)) else (some (x442000, x442001))
end
def spec_FrontMove.f (k : Nat) (l0 : List (S36)) (a1_0 : Int) (a1_1 : Int) : Option (Int × Int) := (spec_FrontOk.f k l0).bind fun t436 => (if t436 = true then ((spec_TimeOk.f a1_0 a1_1).bind fun t437 => (spec_FrontMove.j0 k l0 (!t437) a1_0 a1_1)) else (spec_FrontMove.j0 k l0 true a1_0 a1_1))
def spec_FrontMove.T9 : Bool × List (List Nat × List Nat) := (true, [([], []), ([], []), ([], []), ([1, 2], [1, 2]), ([3], [3]), ([], []), ([4, 5], [4, 5]), ([0, 6, 6], [0, 6]), ([7, 7, 0, 1, 2, 3, 4, 5, 6, 7], [7])])
def spec_FrontMove.B9 : List Nat := [0, 0, 0, 6, 14, 0, 62, 127, 255]
theorem spec_FrontMove.tab9 : rtab .any (opsOf Try.f56 9) = spec_FrontMove.T9:=by kernel_rfl
theorem spec_FrontMove.bits9 : waitsOk spec_FrontMove.T9.2 spec_FrontMove.B9 = true:=by kernel_rfl
set_option maxHeartbeats 8000000 in
set_option maxRecDepth 100000 in
theorem spec_FrontMove.calls (k : Nat) (A0 : Option Addr) (c0 : Nat) (l0 : List (S36)) (a1_0 : Int) (a1_1 : Int) (r1 : Int) (r2 : Int) (w : World) (hr0 : Kd.C k36 w A0 l0.length l0) (hc0 : l0.length ≤ c0) (h : spec_FrontMove.f k l0 a1_0 a1_1 = some (r1,r2)) :
  Calls Try.prog 56 #[.slice A0 l0.length c0,.agg #[.int .i64 a1_0,.int .i64 a1_1]] w fun e w'=>e = .returned (.agg #[.int .i64 r1,.int .i64 r2]) ∧ Below w.heap.size w w':=by
 have hu36:=Try.underlying36
 have HR0:=Aside0.mk hr0
 have HC0:=Aside0.mk hc0
 clear hr0 hc0
 have HB:=am (Below.refl w.heap.size w)
 have H : ((spec_FrontOk.f k l0).bind fun t436=>(if t436 = true then ((spec_TimeOk.f a1_0 a1_1).bind fun t437=>(spec_FrontMove.j0 k l0 (!t437) a1_0 a1_1)) else (spec_FrontMove.j0 k l0 true a1_0 a1_1))) = some (r1,r2):=h
 clear h
 have HC3:=Aside0.mk H
 clear H
 go_enter Try.func56,Try.ntmps56
 go_upto_region 1 with (first|((with_reducible refine gate_dst (N:=3) rfl ?_);refine bE_ 3 #[.int .i64 a1_0,.int .i64 a1_1] 36 ?_;intro gb434 hg w4 hbox hb;have BK434:=am (hbox);have GW434:=am ((Q173 : w.heap.size ≤ gb434));replace HB:=am (below_step Q80 hb);have GE434:=GW434;clear hb hbox hg)|((with_reducible refine gate_dst (N:=4) rfl ?_);refine bE_ 4 #[.int .i64 0,.int .i64 0] 36 ?_;intro gb435 hg w5 hbox hb;have BK435:=am (hbox);have GW435:=am ((by rw [hg];exact (below_size (by repeat (first|(with_reducible first|exact HB.out|apply below_alloc|apply pw_below_drewN|apply below_drew1|refine below_set ?_ GE434.out)|exact HB.out))) : w.heap.size ≤ gb435));replace HB:=am (below_step (by repeat (first|(with_reducible first|exact HB.out|apply below_alloc|apply pw_below_drewN|apply below_drew1|refine below_set ?_ GE434.out)|exact HB.out)) hb);have NB434_435:=am ((Q203 : gb434 ≠ gb435));have NB435_434:=am ((Q204 : gb435 ≠ gb434));replace BK434:=am (blk_below (g:=gb434) (o:=.cells #[.int .i64 a1_0,.int .i64 a1_1] 36 (0,0)) Q68 hb);have GE435:=GW435;clear hb hbox hg))
 (try simp only [Act.put,sA_,sZ_,sS_])
 go_cut [14] (fun v14 wc=>∃ (kq : Nat) (x14_2 : Bool),v14 = .bool x14_2 ∧ Aside0 (spec_FrontMove.j0 kq l0 x14_2 a1_0 a1_1 = some (r1,r2)) ∧ Aside0 (kq ≤ k) ∧ Aside0 (wc.heap[gb434]? = some (.cells #[.int .i64 a1_0,.int .i64 a1_1] 36 (0,0))) ∧ Aside0 (wc.heap[gb435]? = some (.cells #[.int .i64 0,.int .i64 0] 36 (0,0))) ∧ Aside0 (Below w.heap.size w wc))
 case first =>
  have H:=HC3.out
  clear HC3
  replace H:=Option.bind_eq_some_iff.mp H
  obtain ⟨t436,A60,H⟩:=H
  replace H : (if t436 = true then ((spec_TimeOk.f a1_0 a1_1).bind fun t437=>(spec_FrontMove.j0 k l0 (!t437) a1_0 a1_1)) else (spec_FrontMove.j0 k l0 true a1_0 a1_1)) = some (r1,r2):=H
  have A6:=Aside0.mk A60
  clear A60
  by_cases c7 : t436 = true
  ·subst c7
   have H1 : ((spec_TimeOk.f a1_0 a1_1).bind fun t437=>(spec_FrontMove.j0 k l0 (!t437) a1_0 a1_1)) = some (r1,r2):=by rw [if_pos rfl] at H;exact H
   clear H
   have H:=H1
   clear H1
   replace H:=Option.bind_eq_some_iff.mp H
   obtain ⟨t437,A80,H⟩:=H
   replace H : (spec_FrontMove.j0 k l0 (!t437) a1_0 a1_1) = some (r1,r2):=H
   have A8:=Aside0.mk A80
   clear A80
   have H':=Aside0.mk H
   clear H
   go_wp2_with (first|((with_reducible refine gate_callee (f:=21) rfl ?_);refine goesL_ (some 8) rfl rfl Try.func21 Q1 rfl #[.slice A0 l0.length c0] rfl Q84 ?_;(with_reducible refine (spec_FrontOk.calls k _ _ l0 true _ ?side1 ?side2 A6.out).mono ?_);(case side1=>exact Q115);(case side2=>exact HC0.out);rintro e w9 ⟨rfl,hb⟩;refine ⟨_,rfl,?_⟩;replace BK434:=am (blk_below (g:=gb434) (o:=.cells #[.int .i64 a1_0,.int .i64 a1_1] 36 (0,0)) Q68 hb);replace BK435:=am (blk_below (g:=gb435) (o:=.cells #[.int .i64 0,.int .i64 0] 36 (0,0)) Q69 hb);replace HB:=am (below_step Q141 hb);(try clear hb);have hnb10:=NB434_435.out;have hnc10:=NB435_434.out;obtain ⟨hcz11_0,hcz11_1,hfz11_0,hfz11_1⟩:=bx2_ BK434)|(go_at_call 60;(with_reducible refine (spec_TimeOk.calls a1_0 a1_1 t437 _ A8.out).mono ?_);rintro e w12 ⟨rfl,hb⟩;replace BK434:=am (blk_below (g:=gb434) (o:=.cells #[.int .i64 a1_0,.int .i64 a1_1] 36 (0,0)) Q68 hb);replace BK435:=am (blk_below (g:=gb435) (o:=.cells #[.int .i64 0,.int .i64 0] 36 (0,0)) Q69 hb);replace HB:=am (below_step Q141 hb);(try clear hb)))
   go_meet
   case rel=>exact ⟨_,(!t437),Q7,H',⟨Q4⟩,⟨Q68⟩,⟨Q69⟩,⟨Q141⟩⟩
  ·replace c7:=Bool.eq_false_iff.mpr c7
   subst c7
   have H1 : (spec_FrontMove.j0 k l0 true a1_0 a1_1) = some (r1,r2):=by rw [if_neg (show ¬ (false = true) by decide)] at H;exact H
   clear H
   have H:=H1
   clear H1
   have H':=Aside0.mk H
   clear H
   go_wp2_with (first|((with_reducible refine gate_callee (f:=21) rfl ?_);refine goesL_ (some 8) rfl rfl Try.func21 Q1 rfl #[.slice A0 l0.length c0] rfl Q84 ?_;(with_reducible refine (spec_FrontOk.calls k _ _ l0 false _ ?side1 ?side2 A6.out).mono ?_);(case side1=>exact Q115);(case side2=>exact HC0.out);rintro e w13 ⟨rfl,hb⟩;refine ⟨_,rfl,?_⟩;replace BK434:=am (blk_below (g:=gb434) (o:=.cells #[.int .i64 a1_0,.int .i64 a1_1] 36 (0,0)) Q68 hb);replace BK435:=am (blk_below (g:=gb435) (o:=.cells #[.int .i64 0,.int .i64 0] 36 (0,0)) Q69 hb);replace HB:=am (below_step Q141 hb);(try clear hb)))
   go_meet
   case rel=>exact ⟨_,(true),Q7,H',⟨Q4⟩,⟨Q68⟩,⟨Q69⟩,⟨Q141⟩⟩
 case rest =>
  clear HC3
  try clear c1
  try clear c2
  try clear p2
  try clear c5
  try clear c7
  try clear c10
  try clear hcz11_0
  try clear hcz11_1
  try clear hfz11_0
  try clear hfz11_1
  obtain ⟨kq,x14_2,rfl,HA,HJ2,BK434,BK435,HB⟩:=hcut
  cases kq with
  | zero=>exact absurd HA.out (by simp [spec_FrontMove.j0])
  | succ kj2 =>
   have H:=HA.out
   clear HA
   simp only [spec_FrontMove.j0] at H
   by_cases c14 : x14_2 = true
   ·subst c14
    have H1 : (some (0,0)) = some (r1,r2):=by rw [if_pos rfl] at H;exact H
    clear H
    have H:=H1
    clear H1
    simp only [Option.some.injEq,Prod.mk.injEq] at H
    obtain ⟨rfl,rfl⟩:=H
    have hnb15:=NB435_434.out
    have hnc15:=NB434_435.out
    have hcz16_0 : wc.cell? ⟨gb435,0,none⟩ = some (.int .i64 0):=(blk_cell BK435.out 0).trans rfl
    have hcz16_1 : wc.cell? ⟨gb435,1,none⟩ = some (.int .i64 0):=(blk_cell BK435.out 1).trans rfl
    have hfz16_0:=blk_frozen BK435.out 0
    have hfz16_1:=blk_frozen BK435.out 1
    go_wp2
    refine bodyPost_ret (results_cell_row rfl _ _ gb435 36 #[.int .i64 0,.int .i64 0] (0,0) _ rfl (by (with_reducible repeat (first|refine blk_drewN ?_ _|refine blk_drew ?_|refine blk_alloc ?_ _));refine blk_put (cs:=#[.int .i64 0,.int .i64 0]) ?_ 1 _ rfl;(with_reducible repeat (first|refine blk_drewN ?_ _|refine blk_drew ?_|refine blk_alloc ?_ _));refine blk_put (cs:=#[.int .i64 0,.int .i64 0]) ?_ 0 _ rfl;(with_reducible repeat (first|refine blk_drewN ?_ _|refine blk_drew ?_|refine blk_alloc ?_ _));exact BK435.out) Try.underlying36 rfl Q1) rfl ?_
    exact ⟨Q18,Q141⟩
   ·replace c14:=Bool.eq_false_iff.mpr c14
    subst c14
    have H1 : (if (l0.length : Int) = 0 then (some (a1_0,a1_1)) else (if 0 < (l0.length : Int) then ((spec_TimeJoin.f ((rd_T36 l0 0).f0) ((rd_T36 l0 0).f1) a1_0 a1_1).bind fun bt439=>(spec_FrontMove.l0 kj2 l0 1 a1_0 a1_1 bt439.1 bt439.2)) else (none))) = some (r1,r2):=by rw [if_neg (show ¬ (false = true) by decide)] at H;exact H
    clear H
    have H:=H1
    clear H1
    by_cases c17 : (l0.length : Int) = 0
    ·rw [if_pos c17] at H
     have c17b0 : ((l0.length : Int) == 0) = true:=beq_iff_eq.mpr c17
     have c17b1 : ((l0.length : Int) != 0) = false:=bne_eq_false_iff_eq.mpr c17
     clear c17
     simp only [Option.some.injEq,Prod.mk.injEq] at H
     obtain ⟨rfl,rfl⟩:=H
     have hnb18:=NB434_435.out
     have hnc18:=NB435_434.out
     have hcz19_0 : wc.cell? ⟨gb434,0,none⟩ = some (.int .i64 a1_0):=(blk_cell BK434.out 0).trans rfl
     have hcz19_1 : wc.cell? ⟨gb434,1,none⟩ = some (.int .i64 a1_1):=(blk_cell BK434.out 1).trans rfl
     have hfz19_0:=blk_frozen BK434.out 0
     have hfz19_1:=blk_frozen BK434.out 1
     have hcz20_0 : wc.cell? ⟨gb435,0,none⟩ = some (.int .i64 0):=(blk_cell BK435.out 0).trans rfl
     have hcz20_1 : wc.cell? ⟨gb435,1,none⟩ = some (.int .i64 0):=(blk_cell BK435.out 1).trans rfl
     have hfz20_0:=blk_frozen BK435.out 0
     have hfz20_1:=blk_frozen BK435.out 1
     go_wp2
     refine bodyPost_ret (results_cell_row rfl _ _ gb435 36 #[.int .i64 a1_0,.int .i64 a1_1] (0,0) _ rfl (by (with_reducible repeat (first|refine blk_drewN ?_ _|refine blk_drew ?_|refine blk_alloc ?_ _));refine blk_put (cs:=#[.int .i64 a1_0,.int .i64 0]) ?_ 1 _ rfl;(with_reducible repeat (first|refine blk_drewN ?_ _|refine blk_drew ?_|refine blk_alloc ?_ _));refine blk_put (cs:=#[.int .i64 0,.int .i64 0]) ?_ 0 _ rfl;(with_reducible repeat (first|refine blk_drewN ?_ _|refine blk_drew ?_|refine blk_alloc ?_ _));exact BK435.out) Try.underlying36 rfl Q1) rfl ?_
     exact ⟨Q18,Q141⟩
    ·rw [if_neg c17] at H
     have c17b0 : ((l0.length : Int) == 0) = false:=beq_eq_false_iff_ne.mpr c17
     have c17b1 : ((l0.length : Int) != 0) = true:=bne_iff_ne.mpr c17
     have c17b2 : ¬ (l0 = []):=fun h_=>c17 (by rw [h_];rfl)
     have c21 : 0 < (l0.length : Int):=nn_ H
     rw [if_pos c21] at H
     have c21b0 : decide (0 < (l0.length : Int)) = true:=decide_eq_true c21
     have c21b1 : decide (0 < l0.length) = true:=decide_eq_true (by omega)
     clear c21
     replace H:=Option.bind_eq_some_iff.mp H
     obtain ⟨⟨t439,t440⟩,A220,H⟩:=H
     replace H : (spec_FrontMove.l0 kj2 l0 1 a1_0 a1_1 t439 t440) = some (r1,r2):=H
     have A22:=Aside0.mk A220
     clear A220
     have H':=Aside0.mk H
     clear H
     try go_wp2
     replace BK434:=am (blk_drew BK434.out)
     replace BK435:=am (blk_drew BK435.out)
     replace HB:=am (below_drew1 HB.out)
     have p438 : 0 ≤ (0 : Int):=(by omega)
     have q438 : 0 < (l0.length : Int):=of_decide_eq_true Q8
     obtain ⟨ad438,e438,hx438_0,hx438_1⟩:=at_T36 HR0.out 0 p438 q438
     have hw438_1:=hx438_1
     (try rw [show ((0 : Int)).toNat = 0 from rfl] at hw438_1)
     (try rw [show 0 * 2 = 0 from rfl] at hw438_1)
     (try rw [Addr.add_zero'] at hw438_1)
     have hw438_0:=hx438_0
     (try rw [show ((0 : Int)).toNat = 0 from rfl] at hw438_0)
     (try rw [show 0 * 2 = 0 from rfl] at hw438_0)
     (try rw [Addr.add_zero'] at hw438_0)
     cases e438
     have qi438 : (0 < l0.length) = True:=eq_true (by omega)
     (try rw [show ((0 : Int)).toNat = 0 from rfl] at hx438_0)
     (try rw [show 0 * 2 = 0 from rfl] at hx438_0)
     (try rw [Addr.add_zero'] at hx438_0)
     (try rw [show ((0 : Int)).toNat = 0 from rfl] at hx438_1)
     (try rw [show 0 * 2 = 0 from rfl] at hx438_1)
     (try rw [Addr.add_zero'] at hx438_1)
     replace hx438_0:=cb_ HB hx438_0
     replace hx438_1:=cb_ HB hx438_1
     replace p438:=eq_true p438
     replace q438:=eq_true q438
     refine start_ (n:=7) (S:=fun w'=>w'.cell? ⟨gb434,0,none⟩ = some (.int .i64 a1_0) ∧ w'.cell? ⟨gb434,1,none⟩ = some (.int .i64 a1_1) ∧ w'.cell? ad438 = some (.int .i64 ((rd_T36 l0 0).f0)) ∧ w'.cell? ⟨ad438.block,ad438.off + 1,none⟩ = some (.int .i64 ((rd_T36 l0 0).f1))) (ds:=[]) b7_0 Q1 rfl rfl ⟨(blk_cell BK434.out 0).trans rfl,(blk_cell BK434.out 1).trans rfl,(cb_ HB hw438_0:),(cb_ HB hw438_1:)⟩ (fun hHeld=>?_)
     generalize wc.drew = w23 at BK434 BK435 HB hx438_0 hx438_1 hHeld ⊢
     refine pU_ 0 20 b7_1 ?_
     refine pU_ 1 21 b7_2 ?_
     refine tU_ 2 22 b7_3 hHeld ?_
     refine tU_ 3 23 b7_4 hHeld ?_
     refine join_ (σ:=Nat) 1 b7_6 (fun s_=>[(24,.agg #[.int .i64 t439,.int .i64 t440]),(5,.pointer (some ⟨s_,0,none⟩))]) (fun s_ w'=>(w'.cell? ⟨gb434,0,none⟩ = some (.int .i64 a1_0) ∧ w'.cell? ⟨gb434,1,none⟩ = some (.int .i64 a1_1) ∧ w'.cell? ad438 = some (.int .i64 ((rd_T36 l0 0).f0)) ∧ w'.cell? ⟨ad438.block,ad438.off + 1,none⟩ = some (.int .i64 ((rd_T36 l0 0).f1))) ∧ (w'.heap[gb434]? = some (.cells #[.int .i64 a1_0,.int .i64 a1_1] 36 (0,0))) ∧ (w'.heap[gb435]? = some (.cells #[.int .i64 0,.int .i64 0] 36 (0,0))) ∧ (w'.heap[s_]? = some (.cells #[.int .i64 0,.int .i64 0] 36 (0,0))) ∧ (w.heap.size ≤ s_) ∧ (w.heap.size ≤ s_) ∧ (gb434 ≠ s_) ∧ (s_ ≠ gb434) ∧ (gb435 ≠ s_) ∧ (s_ ≠ gb435) ∧ (Below w.heap.size w w')) ?_ ?_
     rotate_left
     ·intro hCont
      refine two_ (i:=4) (j:=5) (Ni:=some 24) (Nj:=some 5) b7_5 c90 rfl rfl rfl rfl Q1 Q0 Q0 (fun K hK=>?_) (fun K hK=>?_)
      ·skip
       refine goes_ Try.func86 Q1 rfl #[.agg #[.int .i64 ((rd_T36 l0 0).f0),.int .i64 ((rd_T36 l0 0).f1)],.agg #[.int .i64 a1_0,.int .i64 a1_1]] (by rfl) rfl rfl Q84 ?_
       with_reducible refine (spec_TimeJoin.calls ((rd_T36 l0 0).f0) ((rd_T36 l0 0).f1) a1_0 a1_1 t439 t440 _ A22.out).mono ?_
       rintro e w24 ⟨rfl,hb⟩
       refine ⟨_,rfl,?_⟩
       replace BK434:=am (blk_below (g:=gb434) (o:=.cells #[.int .i64 a1_0,.int .i64 a1_1] 36 (0,0)) Q68 hb)
       replace BK435:=am (blk_below (g:=gb435) (o:=.cells #[.int .i64 0,.int .i64 0] 36 (0,0)) Q69 hb)
       replace HB:=am (below_step Q141 hb)
       (try clear hb)
       (try clear hb2)
       (try clear hk)
       (try clear hi)
       refine hK.out _ _ ⟨(blk_cell BK434.out 0).trans rfl,(blk_cell BK434.out 1).trans rfl,(cb_ HB hw438_0:),(cb_ HB hw438_1:)⟩ (fun hHeld=>?_)
       clear hK K
       refine norm_ (a':=?_) ?_ ?_
       rotate_left
       ·show Act.put _ (some 24) _ = _
        simp only [Act.put,sA_,sZ_,sS_,i64_w,i32_w]
        rfl
       refine one_ (i:=5) (N:=some 5) b7_6 rfl rfl Q1 Q0 (fun K hK=>?_)
       refine box_step ?hg (N:=5) ?hd (cs:=#[.int .i64 0,.int .i64 0]) (t:=36) ?hr ?_;(case hd=>rfl);(case hg=>rfl);(case hr=>first|(go_simp;done)|(go_simp;rfl))
       intro gb441 hg w25 hbox hb
       have BK441:=am (hbox)
       have GW441:=am ((by rw [hg];exact (below_size Q141) : w.heap.size ≤ gb441))
       have GE441:=am ((by rw [hg];exact (below_size Q141) : w.heap.size ≤ gb441))
       replace HB:=am (below_step Q141 hb)
       have NB434_441:=am ((Q203 : gb434 ≠ gb441))
       have NB441_434:=am ((Q204 : gb441 ≠ gb434))
       replace BK434:=am (blk_below (g:=gb434) (o:=.cells #[.int .i64 a1_0,.int .i64 a1_1] 36 (0,0)) Q68 hb)
       have NB435_441:=am ((by rw [hg];exact Nat.ne_of_lt (blk_lt (g:=gb435) (o:=.cells #[.int .i64 0,.int .i64 0] 36 (0,0)) Q69) : gb435 ≠ gb441))
       have NB441_435:=am ((by rw [hg];exact Nat.ne_of_gt (blk_lt (g:=gb435) (o:=.cells #[.int .i64 0,.int .i64 0] 36 (0,0)) Q69) : gb441 ≠ gb435))
       replace BK435:=am (blk_below (g:=gb435) (o:=.cells #[.int .i64 0,.int .i64 0] 36 (0,0)) Q69 hb)
       clear hb hbox hg
       refine hK.out _ _ ⟨(blk_cell BK434.out 0).trans rfl,(blk_cell BK434.out 1).trans rfl,(cb_ HB hw438_0:),(cb_ HB hw438_1:)⟩ (fun hHeld=>?_)
       clear hK K
       refine norm_ (a':=?_) ?_ ?_
       rotate_left
       ·show Act.put _ (some 5) _ = _
        simp only [Act.put,sA_,sZ_,sS_,i64_w,i32_w]
        rfl
       exact norm_ Q19 (hCont (gb441) _ ⟨hHeld,Q68,Q69,Q70,GW441.out,GE441.out,NB434_441.out,NB441_434.out,NB435_441.out,NB441_435.out,Q158⟩)
      ·skip
       refine box_step ?hg (N:=5) ?hd (cs:=#[.int .i64 0,.int .i64 0]) (t:=36) ?hr ?_;(case hd=>rfl);(case hg=>rfl);(case hr=>first|(go_simp;done)|(go_simp;rfl))
       intro gb441 hg w24 hbox hb
       have BK441:=am (hbox)
       have GW441:=am ((by rw [hg];exact (below_size Q141) : w.heap.size ≤ gb441))
       have GE441:=am ((by rw [hg];exact (below_size Q141) : w.heap.size ≤ gb441))
       replace HB:=am (below_step Q141 hb)
       have NB434_441:=am ((Q203 : gb434 ≠ gb441))
       have NB441_434:=am ((Q204 : gb441 ≠ gb434))
       replace BK434:=am (blk_below (g:=gb434) (o:=.cells #[.int .i64 a1_0,.int .i64 a1_1] 36 (0,0)) Q68 hb)
       have NB435_441:=am ((by rw [hg];exact Nat.ne_of_lt (blk_lt (g:=gb435) (o:=.cells #[.int .i64 0,.int .i64 0] 36 (0,0)) Q69) : gb435 ≠ gb441))
       have NB441_435:=am ((by rw [hg];exact Nat.ne_of_gt (blk_lt (g:=gb435) (o:=.cells #[.int .i64 0,.int .i64 0] 36 (0,0)) Q69) : gb441 ≠ gb435))
       replace BK435:=am (blk_below (g:=gb435) (o:=.cells #[.int .i64 0,.int .i64 0] 36 (0,0)) Q69 hb)
       clear hb hbox hg
       refine hK.out _ _ ⟨(blk_cell BK434.out 0).trans rfl,(blk_cell BK434.out 1).trans rfl,(cb_ HB hw438_0:),(cb_ HB hw438_1:)⟩ (fun hHeld=>?_)
       clear hK K
       refine norm_ (a':=?_) ?_ ?_
       rotate_left
       ·show Act.put _ (some 5) _ = _
        simp only [Act.put,sA_,sZ_,sS_,i64_w,i32_w]
        rfl
       refine one_ (i:=4) (N:=some 24) b7_6 rfl rfl Q1 Q0 (fun K hK=>?_)
       refine goes_ Try.func86 Q1 rfl #[.agg #[.int .i64 ((rd_T36 l0 0).f0),.int .i64 ((rd_T36 l0 0).f1)],.agg #[.int .i64 a1_0,.int .i64 a1_1]] (by rfl) rfl rfl Q84 ?_
       with_reducible refine (spec_TimeJoin.calls ((rd_T36 l0 0).f0) ((rd_T36 l0 0).f1) a1_0 a1_1 t439 t440 _ A22.out).mono ?_
       rintro e w25 ⟨rfl,hb⟩
       refine ⟨_,rfl,?_⟩
       replace BK434:=am (blk_below (g:=gb434) (o:=.cells #[.int .i64 a1_0,.int .i64 a1_1] 36 (0,0)) Q68 hb)
       replace BK435:=am (blk_below (g:=gb435) (o:=.cells #[.int .i64 0,.int .i64 0] 36 (0,0)) Q69 hb)
       replace BK441:=am (blk_below (g:=gb441) (o:=.cells #[.int .i64 0,.int .i64 0] 36 (0,0)) Q70 hb)
       replace HB:=am (below_step Q158 hb)
       (try clear hb)
       (try clear hb2)
       (try clear hk)
       (try clear hi)
       refine hK.out _ _ ⟨(blk_cell BK434.out 0).trans rfl,(blk_cell BK434.out 1).trans rfl,(cb_ HB hw438_0:),(cb_ HB hw438_1:)⟩ (fun hHeld=>?_)
       clear hK K
       refine norm_ (a':=?_) ?_ ?_
       rotate_left
       ·show Act.put _ (some 24) _ = _
        simp only [Act.put,sA_,sZ_,sS_,i64_w,i32_w]
        rfl
       exact norm_ Q19 (hCont (gb441) _ ⟨hHeld,Q68,Q69,Q70,GW441.out,GE441.out,NB434_441.out,NB441_434.out,NB435_441.out,NB441_435.out,Q158⟩)
     rintro gb441 w26 ⟨hS_,h0_,h1_,h2_,h3_,h4_,h5_,h6_,h7_,h8_,h9_⟩
     have n0_ : Aside0 (w26.heap[gb434]? = some (.cells #[.int .i64 a1_0,.int .i64 a1_1] 36 (0,0))):=⟨h0_⟩
     have n1_ : Aside0 (w26.heap[gb435]? = some (.cells #[.int .i64 0,.int .i64 0] 36 (0,0))):=⟨h1_⟩
     have n2_ : Aside0 (w26.heap[gb441]? = some (.cells #[.int .i64 0,.int .i64 0] 36 (0,0))):=⟨h2_⟩
     have n3_ : Aside0 (w.heap.size ≤ gb441):=⟨h3_⟩
     have n4_ : Aside0 (w.heap.size ≤ gb441):=⟨h4_⟩
     have n5_ : Aside0 (gb434 ≠ gb441):=⟨h5_⟩
     have n6_ : Aside0 (gb441 ≠ gb434):=⟨h6_⟩
     have n7_ : Aside0 (gb435 ≠ gb441):=⟨h7_⟩
     have n8_ : Aside0 (gb441 ≠ gb435):=⟨h8_⟩
     have n9_ : Aside0 (Below w.heap.size w w26):=⟨h9_⟩
     clear BK434
     clear BK435
     clear HB
     clear h0_ h1_ h2_ h3_ h4_ h5_ h6_ h7_ h8_ h9_
     have BK434:=n0_
     have BK435:=n1_
     have BK441:=n2_
     have GW441:=n3_
     have GE441:=n4_
     have NB434_441:=n5_
     have NB441_434:=n6_
     have NB435_441:=n7_
     have NB441_435:=n8_
     have HB:=n9_
     clear n0_ n1_ n2_ n3_ n4_ n5_ n6_ n7_ n8_ n9_
     have hHeld : w26.cell? ⟨gb434,0,none⟩ = some (.int .i64 a1_0) ∧ w26.cell? ⟨gb434,1,none⟩ = some (.int .i64 a1_1) ∧ w26.cell? ad438 = some (.int .i64 ((rd_T36 l0 0).f0)) ∧ w26.cell? ⟨ad438.block,ad438.off + 1,none⟩ = some (.int .i64 ((rd_T36 l0 0).f1)):=hS_
     refine norm_ (a':=?_) ?_ ?_
     rotate_left
     ·simp only [putAll,Act.put,sA_,sZ_,sS_]
      rfl
     refine one_ (i:=6) (N:=none) b7_7 rfl rfl Q1 Q0 (fun K hK=>?_)
     have hs27 : w26.cell? ⟨gb441,0,none⟩ = some (.int .i64 0):=(blk_cell BK441.out 0).trans rfl
     have hfs27:=blk_frozen BK441.out 0
     have hns27_0:=NB434_441.out
     have hns27_1:=NB435_441.out
     have hms27_0:=NB441_434.out
     have hms27_1:=NB441_435.out
     have hs28 : w26.cell? ⟨gb441,1,none⟩ = some (.int .i64 0):=(blk_cell BK441.out 1).trans rfl
     have hfs28:=blk_frozen BK441.out 1
     have hns28_0:=NB434_441.out
     have hns28_1:=NB435_441.out
     have hms28_0:=NB441_434.out
     have hms28_1:=NB441_435.out
     refine skip_ (w1:=?_) (by rfl) rfl ?_ ?_
     rotate_left
     ·go_simp
      rfl
     refine hK.out _ _ ⟨((cell_far (p:=⟨gb441,_,none⟩) NB434_441.out _).trans (((cell_far (p:=⟨gb441,_,none⟩) NB434_441.out _).trans (hHeld.1)))),((cell_far (p:=⟨gb441,_,none⟩) NB434_441.out _).trans (((cell_far (p:=⟨gb441,_,none⟩) NB434_441.out _).trans (hHeld.2.1)))),((cell_far (p:=⟨gb441,_,none⟩) (by first|exact Nat.ne_of_lt (Nat.lt_of_lt_of_le Q16 GW441.out)|(rw [add_block];exact Nat.ne_of_lt (Nat.lt_of_lt_of_le Q16 GW441.out))|(show (Addr.add _ _).block ≠ _;rw [add_block];exact Nat.ne_of_lt (Nat.lt_of_lt_of_le Q16 GW441.out))|(dsimp only;exact Nat.ne_of_lt (Nat.lt_of_lt_of_le Q16 GW441.out))) _).trans (((cell_far (p:=⟨gb441,_,none⟩) (by first|exact Nat.ne_of_lt (Nat.lt_of_lt_of_le Q16 GW441.out)|(rw [add_block];exact Nat.ne_of_lt (Nat.lt_of_lt_of_le Q16 GW441.out))|(show (Addr.add _ _).block ≠ _;rw [add_block];exact Nat.ne_of_lt (Nat.lt_of_lt_of_le Q16 GW441.out))|(dsimp only;exact Nat.ne_of_lt (Nat.lt_of_lt_of_le Q16 GW441.out))) _).trans (hHeld.2.2.1)))),((cell_far (p:=⟨gb441,_,none⟩) (by first|exact Nat.ne_of_lt (Nat.lt_of_lt_of_le Q17 GW441.out)|(rw [add_block];exact Nat.ne_of_lt (Nat.lt_of_lt_of_le Q17 GW441.out))|(show (Addr.add _ _).block ≠ _;rw [add_block];exact Nat.ne_of_lt (Nat.lt_of_lt_of_le Q17 GW441.out))|(dsimp only;exact Nat.ne_of_lt (Nat.lt_of_lt_of_le Q17 GW441.out))) _).trans (((cell_far (p:=⟨gb441,_,none⟩) (by first|exact Nat.ne_of_lt (Nat.lt_of_lt_of_le Q17 GW441.out)|(rw [add_block];exact Nat.ne_of_lt (Nat.lt_of_lt_of_le Q17 GW441.out))|(show (Addr.add _ _).block ≠ _;rw [add_block];exact Nat.ne_of_lt (Nat.lt_of_lt_of_le Q17 GW441.out))|(dsimp only;exact Nat.ne_of_lt (Nat.lt_of_lt_of_le Q17 GW441.out))) _).trans (hHeld.2.2.2))))⟩ (fun hHeld=>?_)
     clear hK K
     refine done_ Q1 ?_
     try go_wp2
     go_loopg [6] kj2 (fun kq v6 w'=>∃ (x6_2 : Int) (x442000_2 : Int) (x442001_2 : Int),v6 = .int .i64 x6_2 ∧ Aside0 (spec_FrontMove.l0 kq l0 x6_2 a1_0 a1_1 x442000_2 x442001_2 = some (r1,r2)) ∧ Aside0 (kq ≤ kj2) ∧ Aside0 (w'.heap[gb434]? = some (.cells #[.int .i64 a1_0,.int .i64 a1_1] 36 (0,0))) ∧ Aside0 (w'.heap[gb435]? = some (.cells #[.int .i64 0,.int .i64 0] 36 (0,0))) ∧ Aside0 (w'.heap[gb441]? = some (.cells #[.int .i64 x442000_2,.int .i64 x442001_2] 36 (0,0))) ∧ Aside0 (Below w.heap.size w w'))
     case atStart=>exact ⟨(1),(t439),(t440),Q7,H',⟨Nat.le_refl _⟩,⟨by (with_reducible repeat (first|refine blk_drewN ?_ _|refine blk_drew ?_|refine blk_alloc ?_ _));refine blk_far ?_ NB434_441.out _;(with_reducible repeat (first|refine blk_drewN ?_ _|refine blk_drew ?_|refine blk_alloc ?_ _));refine blk_far ?_ NB434_441.out _;(with_reducible repeat (first|refine blk_drewN ?_ _|refine blk_drew ?_|refine blk_alloc ?_ _));exact BK434.out⟩,⟨by (with_reducible repeat (first|refine blk_drewN ?_ _|refine blk_drew ?_|refine blk_alloc ?_ _));refine blk_far ?_ NB435_441.out _;(with_reducible repeat (first|refine blk_drewN ?_ _|refine blk_drew ?_|refine blk_alloc ?_ _));refine blk_far ?_ NB435_441.out _;(with_reducible repeat (first|refine blk_drewN ?_ _|refine blk_drew ?_|refine blk_alloc ?_ _));exact BK435.out⟩,⟨by (with_reducible repeat (first|refine blk_drewN ?_ _|refine blk_drew ?_|refine blk_alloc ?_ _));refine blk_put (cs:=#[.int .i64 t439,.int .i64 0]) ?_ 1 _ rfl;(with_reducible repeat (first|refine blk_drewN ?_ _|refine blk_drew ?_|refine blk_alloc ?_ _));refine blk_put (cs:=#[.int .i64 0,.int .i64 0]) ?_ 0 _ rfl;(with_reducible repeat (first|refine blk_drewN ?_ _|refine blk_drew ?_|refine blk_alloc ?_ _));exact BK441.out⟩,⟨Q158⟩⟩
     case round =>
      clear H'
      try clear c1
      try clear c2
      try clear p2
      try clear p4
      try clear q4
      try clear hx4
      try clear qi4
      try clear c5
      try clear c7
      try clear c8
      try clear c10
      try clear c14
      try clear c15
      try clear c17
      try clear c17b0
      try clear c17b1
      try clear c17b2
      try clear c18
      try clear c21
      try clear c21b0
      try clear c21b1
      try clear hcz11_0
      try clear hcz11_1
      try clear hcz16_0
      try clear hcz16_1
      try clear hcz19_0
      try clear hcz19_1
      try clear hcz20_0
      try clear hcz20_1
      try clear hfz11_0
      try clear hfz11_1
      try clear hfz16_0
      try clear hfz16_1
      try clear hfz19_0
      try clear hfz19_1
      try clear hfz20_0
      try clear hfz20_1
      try clear hx438_0
      try clear hx438_1
      try clear p2
      try clear p438
      try clear q438
      obtain ⟨x6_2,x442000_2,x442001_2,rfl,HA,HK2,BK434,BK435,BK441,HB⟩:=hrel
      cases gk with
      | zero=>exact absurd HA.out (by simp [spec_FrontMove.l0])
      | succ k2 =>
       have H:=HA.out
       clear HA
       simp only [spec_FrontMove.l0] at H
       by_cases c29 : x6_2 < (l0.length : Int)
       ·rw [if_pos c29] at H
        have c29b0 : decide (x6_2 < (l0.length : Int)) = true:=decide_eq_true c29
        clear c29
        have c30 : 0 ≤ x6_2:=nn_ H
        rw [if_pos c30] at H
        have c30b0 : decide (0 ≤ x6_2) = true:=decide_eq_true c30
        clear c30
        replace H:=Option.bind_eq_some_iff.mp H
        obtain ⟨⟨t443,t444⟩,A310,H⟩:=H
        replace H : ((spec_TimeMeet.f x442000_2 x442001_2 t443 t444).bind fun bt445=>(spec_FrontMove.l0 k2 l0 (wrap64 (x6_2 + 1)) a1_0 a1_1 bt445.1 bt445.2)) = some (r1,r2):=H
        have A31:=Aside0.mk A310
        clear A310
        replace H:=Option.bind_eq_some_iff.mp H
        obtain ⟨⟨t445,t446⟩,A320,H⟩:=H
        replace H : (spec_FrontMove.l0 k2 l0 (wrap64 (x6_2 + 1)) a1_0 a1_1 t445 t446) = some (r1,r2):=H
        have A32:=Aside0.mk A320
        clear A320
        have H':=Aside0.mk H
        clear H
        try go_wp2
        replace BK434:=am (blk_drew BK434.out)
        replace BK435:=am (blk_drew BK435.out)
        replace BK441:=am (blk_drew BK441.out)
        replace HB:=am (below_drew1 HB.out)
        have p442 : 0 ≤ (x6_2 : Int):=of_decide_eq_true Q8
        have q442 : x6_2 < (l0.length : Int):=of_decide_eq_true Q8
        obtain ⟨ad442,e442,hx442_0,hx442_1⟩:=at_T36 HR0.out x6_2 p442 q442
        have hw442_1:=hx442_1
        have hw442_0:=hx442_0
        obtain rfl : ad438 = ad442:=(by injection e442)
        replace hx442_0:=cb_ HB hx442_0
        replace hx442_1:=cb_ HB hx442_1
        replace p442:=eq_true p442
        replace q442:=eq_true q442
        refine start_ (n:=9) (S:=fun w'=>w'.cell? ⟨gb441,0,none⟩ = some (.int .i64 x442000_2) ∧ w'.cell? ⟨gb441,1,none⟩ = some (.int .i64 x442001_2) ∧ w'.cell? ⟨gb434,0,none⟩ = some (.int .i64 a1_0) ∧ w'.cell? ⟨gb434,1,none⟩ = some (.int .i64 a1_1) ∧ w'.cell? (ad438.add ((x6_2).toNat * 2)) = some (.int .i64 ((rd_T36 l0 x6_2).f0)) ∧ w'.cell? ⟨(ad438.add ((x6_2).toNat * 2)).block,(ad438.add ((x6_2).toNat * 2)).off + 1,none⟩ = some (.int .i64 ((rd_T36 l0 x6_2).f1))) (ds:=[8]) b9_0 Q1 rfl rfl ⟨(blk_cell BK441.out 0).trans rfl,(blk_cell BK441.out 1).trans rfl,(blk_cell BK434.out 0).trans rfl,(blk_cell BK434.out 1).trans rfl,(cb_ HB hw442_0:),(cb_ HB hw442_1:)⟩ (fun hHeld=>?_);refine with_tabW spec_FrontMove.tab9 spec_FrontMove.bits9 (fun HT_ HW_=>?_)
        generalize wr.drew = w33 at BK434 BK435 BK441 HB hx442_0 hx442_1 hHeld ⊢
        refine pU_ 1 32 c139 ?_
        refine pU_ 2 33 c140 ?_
        refine pU_ 3 34 c141 ?_
        refine tU_ 0 31 b9_4 hHeld ?_
        refine tU_ 4 35 b9_5 hHeld ?_
        refine tU_ 5 36 b9_6 hHeld ?_
        refine one_ (i:=6) (N:=some 37) b9_7 rfl rfl (one_of HT_.out Q1) Q0 (fun K hK=>?_)
        refine goes_ Try.func86 Q1 rfl #[.agg #[.int .i64 ((rd_T36 l0 x6_2).f0),.int .i64 ((rd_T36 l0 x6_2).f1)],.agg #[.int .i64 a1_0,.int .i64 a1_1]] (by rfl) rfl rfl Q84 ?_
        with_reducible refine (spec_TimeJoin.calls ((rd_T36 l0 x6_2).f0) ((rd_T36 l0 x6_2).f1) a1_0 a1_1 t443 t444 _ A31.out).mono ?_
        rintro e w34 ⟨rfl,hb⟩
        refine ⟨_,rfl,?_⟩
        replace BK434:=am (blk_below (g:=gb434) (o:=.cells #[.int .i64 a1_0,.int .i64 a1_1] 36 (0,0)) Q68 hb)
        replace BK435:=am (blk_below (g:=gb435) (o:=.cells #[.int .i64 0,.int .i64 0] 36 (0,0)) Q69 hb)
        replace BK441:=am (blk_below (g:=gb441) (o:=.cells #[.int .i64 x442000_2,.int .i64 x442001_2] 36 (0,0)) Q70 hb)
        replace HB:=am (below_step Q158 hb)
        (try clear hb)
        (try clear hb2)
        (try clear hk)
        (try clear hi)
        refine hK.out _ _ ⟨(blk_cell BK441.out 0).trans rfl,(blk_cell BK441.out 1).trans rfl,(blk_cell BK434.out 0).trans rfl,(blk_cell BK434.out 1).trans rfl,(cb_ HB hw442_0:),(cb_ HB hw442_1:)⟩ (fun hHeld=>?_)
        clear hK K
        refine norm_ (a':=?_) ?_ ?_
        rotate_left
        ·show Act.put _ (some 37) _ = _
         simp only [Act.put,sA_,sZ_,sS_,i64_w,i32_w]
         rfl
        refine one_ (i:=7) (N:=some 38) b9_8 rfl rfl (one_of HT_.out Q1) Q0 (fun K hK=>?_)
        refine goes_ Try.func87 Q1 rfl #[.agg #[.int .i64 x442000_2,.int .i64 x442001_2],.agg #[.int .i64 t443,.int .i64 t444]] (by rfl) rfl rfl Q84 ?_
        with_reducible refine (spec_TimeMeet.calls x442000_2 x442001_2 t443 t444 t445 t446 _ A32.out).mono ?_
        rintro e w35 ⟨rfl,hb⟩
        refine ⟨_,rfl,?_⟩
        replace BK434:=am (blk_below (g:=gb434) (o:=.cells #[.int .i64 a1_0,.int .i64 a1_1] 36 (0,0)) Q68 hb)
        replace BK435:=am (blk_below (g:=gb435) (o:=.cells #[.int .i64 0,.int .i64 0] 36 (0,0)) Q69 hb)
        replace BK441:=am (blk_below (g:=gb441) (o:=.cells #[.int .i64 x442000_2,.int .i64 x442001_2] 36 (0,0)) Q70 hb)
        replace HB:=am (below_step Q158 hb)
        (try clear hb)
        (try clear hb2)
        (try clear hk)
        (try clear hi)
        refine hK.out _ _ ⟨(blk_cell BK441.out 0).trans rfl,(blk_cell BK441.out 1).trans rfl,(blk_cell BK434.out 0).trans rfl,(blk_cell BK434.out 1).trans rfl,(cb_ HB hw442_0:),(cb_ HB hw442_1:)⟩ (fun hHeld=>?_)
        clear hK K
        refine norm_ (a':=?_) ?_ ?_
        rotate_left
        ·show Act.put _ (some 38) _ = _
         simp only [Act.put,sA_,sZ_,sS_,i64_w,i32_w]
         rfl
        refine last_ (i:=8) (N:=none) b9_9 rfl rfl (one_of HT_.out Q1) Q0 (fun K hK=>?_)
        have hs36 : w35.cell? ⟨gb441,0,none⟩ = some (.int .i64 x442000_2):=(blk_cell BK441.out 0).trans rfl
        have hfs36:=blk_frozen BK441.out 0
        have hns36_0:=NB434_441.out
        have hns36_1:=NB435_441.out
        have hms36_0:=NB441_434.out
        have hms36_1:=NB441_435.out
        have hs37 : w35.cell? ⟨gb441,1,none⟩ = some (.int .i64 x442001_2):=(blk_cell BK441.out 1).trans rfl
        have hfs37:=blk_frozen BK441.out 1
        have hns37_0:=NB434_441.out
        have hns37_1:=NB435_441.out
        have hms37_0:=NB441_434.out
        have hms37_1:=NB441_435.out
        refine skip_ (w1:=?_) (by rfl) rfl ?_ ?_
        rotate_left
        ·go_simp
         rfl
        refine hK.out _ _ ?_
        clear hK K
        refine done_ (done_of HT_.out Q1) ?_
        try go_wp2
        go_roundg k2
        case measure=>have:=HJ2.out;have:=HK2.out;omega
        case rel=>exact ⟨(wrap64 (x6_2 + 1)),(t445),(t446),Q7,H',⟨by have:=HJ2.out;have:=HK2.out;omega⟩,⟨by (with_reducible repeat (first|refine blk_drewN ?_ _|refine blk_drew ?_|refine blk_alloc ?_ _));refine blk_far ?_ NB434_441.out _;(with_reducible repeat (first|refine blk_drewN ?_ _|refine blk_drew ?_|refine blk_alloc ?_ _));refine blk_far ?_ NB434_441.out _;(with_reducible repeat (first|refine blk_drewN ?_ _|refine blk_drew ?_|refine blk_alloc ?_ _));exact BK434.out⟩,⟨by (with_reducible repeat (first|refine blk_drewN ?_ _|refine blk_drew ?_|refine blk_alloc ?_ _));refine blk_far ?_ NB435_441.out _;(with_reducible repeat (first|refine blk_drewN ?_ _|refine blk_drew ?_|refine blk_alloc ?_ _));refine blk_far ?_ NB435_441.out _;(with_reducible repeat (first|refine blk_drewN ?_ _|refine blk_drew ?_|refine blk_alloc ?_ _));exact BK435.out⟩,⟨by (with_reducible repeat (first|refine blk_drewN ?_ _|refine blk_drew ?_|refine blk_alloc ?_ _));refine blk_put (cs:=#[.int .i64 t445,.int .i64 x442001_2]) ?_ 1 _ rfl;(with_reducible repeat (first|refine blk_drewN ?_ _|refine blk_drew ?_|refine blk_alloc ?_ _));refine blk_put (cs:=#[.int .i64 x442000_2,.int .i64 x442001_2]) ?_ 0 _ rfl;(with_reducible repeat (first|refine blk_drewN ?_ _|refine blk_drew ?_|refine blk_alloc ?_ _));exact BK441.out⟩,⟨Q158⟩⟩
       ·rw [if_neg c29] at H
        have c29b0 : decide (x6_2 < (l0.length : Int)) = false:=decide_eq_false c29
        clear c29
        simp only [Option.some.injEq,Prod.mk.injEq] at H
        obtain ⟨rfl,rfl⟩:=H
        have hnb38:=NB441_434.out
        have hnc38:=NB434_441.out
        have hnb39:=NB441_435.out
        have hnc39:=NB435_441.out
        have hcz40_0 : wr.cell? ⟨gb441,0,none⟩ = some (.int .i64 x442000_2):=(blk_cell BK441.out 0).trans rfl
        have hcz40_1 : wr.cell? ⟨gb441,1,none⟩ = some (.int .i64 x442001_2):=(blk_cell BK441.out 1).trans rfl
        have hfz40_0:=blk_frozen BK441.out 0
        have hfz40_1:=blk_frozen BK441.out 1
        have hnb41:=NB435_434.out
        have hnc41:=NB434_435.out
        have hcz42_0 : wr.cell? ⟨gb435,0,none⟩ = some (.int .i64 0):=(blk_cell BK435.out 0).trans rfl
        have hcz42_1 : wr.cell? ⟨gb435,1,none⟩ = some (.int .i64 0):=(blk_cell BK435.out 1).trans rfl
        have hfz42_0:=blk_frozen BK435.out 0
        have hfz42_1:=blk_frozen BK435.out 1
        go_wp2
        refine bodyPost_ret (results_cell_row rfl _ _ gb435 36 #[.int .i64 x442000_2,.int .i64 x442001_2] (0,0) _ rfl (by (with_reducible repeat (first|refine blk_drewN ?_ _|refine blk_drew ?_|refine blk_alloc ?_ _));refine blk_put (cs:=#[.int .i64 x442000_2,.int .i64 0]) ?_ 1 _ rfl;(with_reducible repeat (first|refine blk_drewN ?_ _|refine blk_drew ?_|refine blk_alloc ?_ _));refine blk_put (cs:=#[.int .i64 0,.int .i64 0]) ?_ 0 _ rfl;(with_reducible repeat (first|refine blk_drewN ?_ _|refine blk_drew ?_|refine blk_alloc ?_ _));exact BK435.out) Try.underlying36 rfl Q1) rfl ?_
        exact ⟨Q18,Q158⟩
def spec_l2Comp.l0 : Nat → List Int → List Int → Int → Option (Int)
 | 0, _, _, _ => none
 | k + 1, x5, x6, x7 => if x7 < (x5.length : Int) then (if 0 ≤ x7 then (if x7 < (x6.length : Int) then (if (rd x5 x7) < (rd x6 x7) then (some (-1)) else (if (rd x5 x7) > (rd x6 x7) then (some 1) else (spec_l2Comp.l0 k x5 x6 (wrap64 (x7 + 1))))) else (none)) else (none)) else (some 0)
def spec_l2Comp.f (k : Nat) (a0_0 : Int) (a0_1 : Int) (a0_2 : Int) (a0_3 : Int) (a0_4 : Int) (a1_0 : Int) (a1_1 : Int) (a1_2 : Int) (a1_3 : Int) (a1_4 : Int) : Option (Int) := spec_l2Comp.l0 k (([a0_0, a0_1, a0_2, a0_3] : List Int)) (([a1_0, a1_1, a1_2, a1_3] : List Int)) 0
set_option maxHeartbeats 8000000 in
set_option maxRecDepth 100000 in
theorem spec_l2Comp.calls (k : Nat) (a0_0 : Int) (a0_1 : Int) (a0_2 : Int) (a0_3 : Int) (a0_4 : Int) (a1_0 : Int) (a1_1 : Int) (a1_2 : Int) (a1_3 : Int) (a1_4 : Int) (r : Int) (w : World) (h : spec_l2Comp.f k a0_0 a0_1 a0_2 a0_3 a0_4 a1_0 a1_1 a1_2 a1_3 a1_4 = some r) :
  Calls Try.prog 71 #[.agg #[.int .i64 a0_0,.int .i64 a0_1,.int .i64 a0_2,.int .i64 a0_3,.int .i64 a0_4],.agg #[.int .i64 a1_0,.int .i64 a1_1,.int .i64 a1_2,.int .i64 a1_3,.int .i64 a1_4]] w fun e w'=>e = .returned (.int .i64 r) ∧ Below w.heap.size w w':=by
 have hu38:=Try.underlying38
 have HB:=am (Below.refl w.heap.size w)
 have H : (spec_l2Comp.l0 k (([a0_0,a0_1,a0_2,a0_3] : List Int)) (([a1_0,a1_1,a1_2,a1_3] : List Int)) 0) = some r:=h
 clear h
 obtain ⟨y449,hy_⟩ : ∃ y_ : List Int,y_ = (([a0_0,a0_1,a0_2,a0_3] : List Int)):=⟨_,rfl⟩
 replace H : (spec_l2Comp.l0 k y449 (([a1_0,a1_1,a1_2,a1_3] : List Int)) 0) = some r:=Q162
 have Ny449:=Aside0.mk hy_
 clear hy_
 obtain ⟨y452,hy_⟩ : ∃ y_ : List Int,y_ = (([a1_0,a1_1,a1_2,a1_3] : List Int)):=⟨_,rfl⟩
 replace H : (spec_l2Comp.l0 k y449 y452 0) = some r:=Q162
 have Ny452:=Aside0.mk hy_
 clear hy_
 have H':=Aside0.mk H
 clear H
 go_enter Try.func71,Try.ntmps71
 go_wp2_with (first|((with_reducible refine gate_dst (N:=2) rfl ?_);refine bE_ 2 #[.int .i64 a0_0,.int .i64 a0_1,.int .i64 a0_2,.int .i64 a0_3,.int .i64 a0_4] 38 ?_;intro gb447 hg w3 hbox hb;have BK447:=am (hbox);have GW447:=am ((Q173 : w.heap.size ≤ gb447));replace HB:=am (below_step Q80 hb);have GE447:=GW447;clear hb hbox hg)|((with_reducible refine gate_dst (N:=3) rfl ?_);refine bE_ 3 #[.int .i64 a1_0,.int .i64 a1_1,.int .i64 a1_2,.int .i64 a1_3,.int .i64 a1_4] 38 ?_;intro gb448 hg w4 hbox hb;have BK448:=am (hbox);have GW448:=am ((by rw [hg];exact (below_size Q105) : w.heap.size ≤ gb448));replace HB:=am (below_step Q105 hb);have NB447_448:=am ((Q207 : gb447 ≠ gb448));have NB448_447:=am ((Q208 : gb448 ≠ gb447));replace BK447:=am (blk_below (g:=gb447) (o:=.cells #[.int .i64 a0_0,.int .i64 a0_1,.int .i64 a0_2,.int .i64 a0_3,.int .i64 a0_4] 38 (0,0)) Q71 hb);have GE448:=GW448;clear hb hbox hg;have hnb5:=NB447_448.out;have hnc5:=NB448_447.out;obtain ⟨hcz6_0,hcz6_1,hcz6_2,hcz6_3,hcz6_4,hfz6_0,hfz6_1,hfz6_2,hfz6_3,hfz6_4⟩:=bx5_ BK447)|((with_reducible refine gate_dst (N:=18) rfl ?_);refine Kd.R_lit (Kd.int .i64) _ 3 ?hg (N:=18) ?hd (xs:=([a0_0,a0_1,a0_2,a0_3] : List Int)) (inner:=[.int .i64 a0_0,.int .i64 a0_1,.int .i64 a0_2,.int .i64 a0_3]) (ok:=fun _=>True) (okp:=fun _=>True) ?hr ?hp (fun _ hk=>hk) trivial (Below.refl _ _) (Nat.le_refl _) (by simp) ?_;(case hd=>rfl);(case hg=>rfl);(case hr=>first|(go_simp;done)|(go_simp;rfl));(case hp=>exact (Reps.one (show Kd.M (Kd.int .i64) _ _ _ a0_0 [.int .i64 a0_0] from rfl) (Reps.one (show Kd.M (Kd.int .i64) _ _ _ a0_1 [.int .i64 a0_1] from rfl) (Reps.one (show Kd.M (Kd.int .i64) _ _ _ a0_2 [.int .i64 a0_2] from rfl) (Reps.one (show Kd.M (Kd.int .i64) _ _ _ a0_3 [.int .i64 a0_3] from rfl) (Reps.none _ _))))));intro v450 w7 ho8 hb hg_ hnew_;clear hg_ hnew_;(first|rw [← Ny449.out] at ho8|(simp only [Int.reduceToNat] at ho8;rw [← Ny449.out] at ho8));have HO451:=am (Kd.R_lower ho8 (below_size Q142));replace BK447:=am (blk_below (g:=gb447) (o:=.cells #[.int .i64 a0_0,.int .i64 a0_1,.int .i64 a0_2,.int .i64 a0_3,.int .i64 a0_4] 38 (0,0)) Q71 hb);replace BK448:=am (blk_below (g:=gb448) (o:=.cells #[.int .i64 a1_0,.int .i64 a1_1,.int .i64 a1_2,.int .i64 a1_3,.int .i64 a1_4] 38 (0,0)) Q72 hb);replace HB:=am (below_step Q142 hb);clear hb ho8;obtain ⟨hcz9_0,hcz9_1,hcz9_2,hcz9_3,hcz9_4,hfz9_0,hfz9_1,hfz9_2,hfz9_3,hfz9_4⟩:=bx5_ BK448)|((with_reducible refine gate_dst (N:=29) rfl ?_);refine Kd.R_lit (Kd.int .i64) _ 3 ?hg (N:=29) ?hd (xs:=([a1_0,a1_1,a1_2,a1_3] : List Int)) (inner:=[.int .i64 a1_0,.int .i64 a1_1,.int .i64 a1_2,.int .i64 a1_3]) (ok:=fun _=>True) (okp:=fun _=>True) ?hr ?hp (fun _ hk=>hk) trivial (Below.refl _ _) (Nat.le_refl _) (by simp) ?_;(case hd=>rfl);(case hg=>rfl);(case hr=>first|(go_simp;done)|(go_simp;rfl));(case hp=>exact (Reps.one (show Kd.M (Kd.int .i64) _ _ _ a1_0 [.int .i64 a1_0] from rfl) (Reps.one (show Kd.M (Kd.int .i64) _ _ _ a1_1 [.int .i64 a1_1] from rfl) (Reps.one (show Kd.M (Kd.int .i64) _ _ _ a1_2 [.int .i64 a1_2] from rfl) (Reps.one (show Kd.M (Kd.int .i64) _ _ _ a1_3 [.int .i64 a1_3] from rfl) (Reps.none _ _))))));intro v453 w10 ho11 hb hg_ hnew_;clear hg_ hnew_;(first|rw [← Ny452.out] at ho11|(simp only [Int.reduceToNat] at ho11;rw [← Ny452.out] at ho11));have HO454:=am (Kd.R_lower (Kd.R_new' ho11 (Kd.R_lt Q32)) (below_size Q142));replace HO451:=am (Kd.R_elder' Q32 (Kd.R_base ho11) hb);replace BK447:=am (blk_below (g:=gb447) (o:=.cells #[.int .i64 a0_0,.int .i64 a0_1,.int .i64 a0_2,.int .i64 a0_3,.int .i64 a0_4] 38 (0,0)) Q71 hb);replace BK448:=am (blk_below (g:=gb448) (o:=.cells #[.int .i64 a1_0,.int .i64 a1_1,.int .i64 a1_2,.int .i64 a1_3,.int .i64 a1_4] 38 (0,0)) Q72 hb);replace HB:=am (below_step Q142 hb);clear hb ho11))
 repeat (go_quiet (first|((with_reducible refine gate_dst (N:=2) rfl ?_);refine bE_ 2 #[.int .i64 a0_0,.int .i64 a0_1,.int .i64 a0_2,.int .i64 a0_3,.int .i64 a0_4] 38 ?_;intro gb447 hg w3 hbox hb;have BK447:=am (hbox);have GW447:=am ((Q173 : w.heap.size ≤ gb447));replace HB:=am (below_step Q80 hb);have GE447:=GW447;clear hb hbox hg)|((with_reducible refine gate_dst (N:=3) rfl ?_);refine bE_ 3 #[.int .i64 a1_0,.int .i64 a1_1,.int .i64 a1_2,.int .i64 a1_3,.int .i64 a1_4] 38 ?_;intro gb448 hg w4 hbox hb;have BK448:=am (hbox);have GW448:=am ((by rw [hg];exact (below_size Q105) : w.heap.size ≤ gb448));replace HB:=am (below_step Q105 hb);have NB447_448:=am ((Q207 : gb447 ≠ gb448));have NB448_447:=am ((Q208 : gb448 ≠ gb447));replace BK447:=am (blk_below (g:=gb447) (o:=.cells #[.int .i64 a0_0,.int .i64 a0_1,.int .i64 a0_2,.int .i64 a0_3,.int .i64 a0_4] 38 (0,0)) Q71 hb);have GE448:=GW448;clear hb hbox hg;have hnb5:=NB447_448.out;have hnc5:=NB448_447.out;obtain ⟨hcz6_0,hcz6_1,hcz6_2,hcz6_3,hcz6_4,hfz6_0,hfz6_1,hfz6_2,hfz6_3,hfz6_4⟩:=bx5_ BK447)|((with_reducible refine gate_dst (N:=18) rfl ?_);refine Kd.R_lit (Kd.int .i64) _ 3 ?hg (N:=18) ?hd (xs:=([a0_0,a0_1,a0_2,a0_3] : List Int)) (inner:=[.int .i64 a0_0,.int .i64 a0_1,.int .i64 a0_2,.int .i64 a0_3]) (ok:=fun _=>True) (okp:=fun _=>True) ?hr ?hp (fun _ hk=>hk) trivial (Below.refl _ _) (Nat.le_refl _) (by simp) ?_;(case hd=>rfl);(case hg=>rfl);(case hr=>first|(go_simp;done)|(go_simp;rfl));(case hp=>exact (Reps.one (show Kd.M (Kd.int .i64) _ _ _ a0_0 [.int .i64 a0_0] from rfl) (Reps.one (show Kd.M (Kd.int .i64) _ _ _ a0_1 [.int .i64 a0_1] from rfl) (Reps.one (show Kd.M (Kd.int .i64) _ _ _ a0_2 [.int .i64 a0_2] from rfl) (Reps.one (show Kd.M (Kd.int .i64) _ _ _ a0_3 [.int .i64 a0_3] from rfl) (Reps.none _ _))))));intro v450 w7 ho8 hb hg_ hnew_;clear hg_ hnew_;(first|rw [← Ny449.out] at ho8|(simp only [Int.reduceToNat] at ho8;rw [← Ny449.out] at ho8));have HO451:=am (Kd.R_lower ho8 (below_size Q142));replace BK447:=am (blk_below (g:=gb447) (o:=.cells #[.int .i64 a0_0,.int .i64 a0_1,.int .i64 a0_2,.int .i64 a0_3,.int .i64 a0_4] 38 (0,0)) Q71 hb);replace BK448:=am (blk_below (g:=gb448) (o:=.cells #[.int .i64 a1_0,.int .i64 a1_1,.int .i64 a1_2,.int .i64 a1_3,.int .i64 a1_4] 38 (0,0)) Q72 hb);replace HB:=am (below_step Q142 hb);clear hb ho8;obtain ⟨hcz9_0,hcz9_1,hcz9_2,hcz9_3,hcz9_4,hfz9_0,hfz9_1,hfz9_2,hfz9_3,hfz9_4⟩:=bx5_ BK448)|((with_reducible refine gate_dst (N:=29) rfl ?_);refine Kd.R_lit (Kd.int .i64) _ 3 ?hg (N:=29) ?hd (xs:=([a1_0,a1_1,a1_2,a1_3] : List Int)) (inner:=[.int .i64 a1_0,.int .i64 a1_1,.int .i64 a1_2,.int .i64 a1_3]) (ok:=fun _=>True) (okp:=fun _=>True) ?hr ?hp (fun _ hk=>hk) trivial (Below.refl _ _) (Nat.le_refl _) (by simp) ?_;(case hd=>rfl);(case hg=>rfl);(case hr=>first|(go_simp;done)|(go_simp;rfl));(case hp=>exact (Reps.one (show Kd.M (Kd.int .i64) _ _ _ a1_0 [.int .i64 a1_0] from rfl) (Reps.one (show Kd.M (Kd.int .i64) _ _ _ a1_1 [.int .i64 a1_1] from rfl) (Reps.one (show Kd.M (Kd.int .i64) _ _ _ a1_2 [.int .i64 a1_2] from rfl) (Reps.one (show Kd.M (Kd.int .i64) _ _ _ a1_3 [.int .i64 a1_3] from rfl) (Reps.none _ _))))));intro v453 w10 ho11 hb hg_ hnew_;clear hg_ hnew_;(first|rw [← Ny452.out] at ho11|(simp only [Int.reduceToNat] at ho11;rw [← Ny452.out] at ho11));have HO454:=am (Kd.R_lower (Kd.R_new' ho11 (Kd.R_lt Q32)) (below_size Q142));replace HO451:=am (Kd.R_elder' Q32 (Kd.R_base ho11) hb);replace BK447:=am (blk_below (g:=gb447) (o:=.cells #[.int .i64 a0_0,.int .i64 a0_1,.int .i64 a0_2,.int .i64 a0_3,.int .i64 a0_4] 38 (0,0)) Q71 hb);replace BK448:=am (blk_below (g:=gb448) (o:=.cells #[.int .i64 a1_0,.int .i64 a1_1,.int .i64 a1_2,.int .i64 a1_3,.int .i64 a1_4] 38 (0,0)) Q72 hb);replace HB:=am (below_step Q142 hb);clear hb ho11));try go_wp2_with (first|((with_reducible refine gate_dst (N:=2) rfl ?_);refine bE_ 2 #[.int .i64 a0_0,.int .i64 a0_1,.int .i64 a0_2,.int .i64 a0_3,.int .i64 a0_4] 38 ?_;intro gb447 hg w3 hbox hb;have BK447:=am (hbox);have GW447:=am ((Q173 : w.heap.size ≤ gb447));replace HB:=am (below_step Q80 hb);have GE447:=GW447;clear hb hbox hg)|((with_reducible refine gate_dst (N:=3) rfl ?_);refine bE_ 3 #[.int .i64 a1_0,.int .i64 a1_1,.int .i64 a1_2,.int .i64 a1_3,.int .i64 a1_4] 38 ?_;intro gb448 hg w4 hbox hb;have BK448:=am (hbox);have GW448:=am ((by rw [hg];exact (below_size Q105) : w.heap.size ≤ gb448));replace HB:=am (below_step Q105 hb);have NB447_448:=am ((Q207 : gb447 ≠ gb448));have NB448_447:=am ((Q208 : gb448 ≠ gb447));replace BK447:=am (blk_below (g:=gb447) (o:=.cells #[.int .i64 a0_0,.int .i64 a0_1,.int .i64 a0_2,.int .i64 a0_3,.int .i64 a0_4] 38 (0,0)) Q71 hb);have GE448:=GW448;clear hb hbox hg;have hnb5:=NB447_448.out;have hnc5:=NB448_447.out;obtain ⟨hcz6_0,hcz6_1,hcz6_2,hcz6_3,hcz6_4,hfz6_0,hfz6_1,hfz6_2,hfz6_3,hfz6_4⟩:=bx5_ BK447)|((with_reducible refine gate_dst (N:=18) rfl ?_);refine Kd.R_lit (Kd.int .i64) _ 3 ?hg (N:=18) ?hd (xs:=([a0_0,a0_1,a0_2,a0_3] : List Int)) (inner:=[.int .i64 a0_0,.int .i64 a0_1,.int .i64 a0_2,.int .i64 a0_3]) (ok:=fun _=>True) (okp:=fun _=>True) ?hr ?hp (fun _ hk=>hk) trivial (Below.refl _ _) (Nat.le_refl _) (by simp) ?_;(case hd=>rfl);(case hg=>rfl);(case hr=>first|(go_simp;done)|(go_simp;rfl));(case hp=>exact (Reps.one (show Kd.M (Kd.int .i64) _ _ _ a0_0 [.int .i64 a0_0] from rfl) (Reps.one (show Kd.M (Kd.int .i64) _ _ _ a0_1 [.int .i64 a0_1] from rfl) (Reps.one (show Kd.M (Kd.int .i64) _ _ _ a0_2 [.int .i64 a0_2] from rfl) (Reps.one (show Kd.M (Kd.int .i64) _ _ _ a0_3 [.int .i64 a0_3] from rfl) (Reps.none _ _))))));intro v450 w7 ho8 hb hg_ hnew_;clear hg_ hnew_;(first|rw [← Ny449.out] at ho8|(simp only [Int.reduceToNat] at ho8;rw [← Ny449.out] at ho8));have HO451:=am (Kd.R_lower ho8 (below_size Q142));replace BK447:=am (blk_below (g:=gb447) (o:=.cells #[.int .i64 a0_0,.int .i64 a0_1,.int .i64 a0_2,.int .i64 a0_3,.int .i64 a0_4] 38 (0,0)) Q71 hb);replace BK448:=am (blk_below (g:=gb448) (o:=.cells #[.int .i64 a1_0,.int .i64 a1_1,.int .i64 a1_2,.int .i64 a1_3,.int .i64 a1_4] 38 (0,0)) Q72 hb);replace HB:=am (below_step Q142 hb);clear hb ho8;obtain ⟨hcz9_0,hcz9_1,hcz9_2,hcz9_3,hcz9_4,hfz9_0,hfz9_1,hfz9_2,hfz9_3,hfz9_4⟩:=bx5_ BK448)|((with_reducible refine gate_dst (N:=29) rfl ?_);refine Kd.R_lit (Kd.int .i64) _ 3 ?hg (N:=29) ?hd (xs:=([a1_0,a1_1,a1_2,a1_3] : List Int)) (inner:=[.int .i64 a1_0,.int .i64 a1_1,.int .i64 a1_2,.int .i64 a1_3]) (ok:=fun _=>True) (okp:=fun _=>True) ?hr ?hp (fun _ hk=>hk) trivial (Below.refl _ _) (Nat.le_refl _) (by simp) ?_;(case hd=>rfl);(case hg=>rfl);(case hr=>first|(go_simp;done)|(go_simp;rfl));(case hp=>exact (Reps.one (show Kd.M (Kd.int .i64) _ _ _ a1_0 [.int .i64 a1_0] from rfl) (Reps.one (show Kd.M (Kd.int .i64) _ _ _ a1_1 [.int .i64 a1_1] from rfl) (Reps.one (show Kd.M (Kd.int .i64) _ _ _ a1_2 [.int .i64 a1_2] from rfl) (Reps.one (show Kd.M (Kd.int .i64) _ _ _ a1_3 [.int .i64 a1_3] from rfl) (Reps.none _ _))))));intro v453 w10 ho11 hb hg_ hnew_;clear hg_ hnew_;(first|rw [← Ny452.out] at ho11|(simp only [Int.reduceToNat] at ho11;rw [← Ny452.out] at ho11));have HO454:=am (Kd.R_lower (Kd.R_new' ho11 (Kd.R_lt Q32)) (below_size Q142));replace HO451:=am (Kd.R_elder' Q32 (Kd.R_base ho11) hb);replace BK447:=am (blk_below (g:=gb447) (o:=.cells #[.int .i64 a0_0,.int .i64 a0_1,.int .i64 a0_2,.int .i64 a0_3,.int .i64 a0_4] 38 (0,0)) Q71 hb);replace BK448:=am (blk_below (g:=gb448) (o:=.cells #[.int .i64 a1_0,.int .i64 a1_1,.int .i64 a1_2,.int .i64 a1_3,.int .i64 a1_4] 38 (0,0)) Q72 hb);replace HB:=am (below_step Q142 hb);clear hb ho11)))
 go_loopg [7] k (fun kq v7 w'=>∃ (x7_1 : Int),v7 = .int .i64 x7_1 ∧ Aside0 (spec_l2Comp.l0 kq y449 y452 x7_1 = some r) ∧ Aside0 (kq ≤ k) ∧ Aside0 (Kd.R (Kd.int .i64) 3 w' w.heap.size (fun k_=>some k_ ≠ (v453 : Value).ownBlock) v450 y449) ∧ Aside0 (Kd.R (Kd.int .i64) 3 w' w.heap.size (fun k_=>some k_ ≠ (v450 : Value).ownBlock) v453 y452) ∧ Aside0 (w'.heap[gb447]? = some (.cells #[.int .i64 a0_0,.int .i64 a0_1,.int .i64 a0_2,.int .i64 a0_3,.int .i64 a0_4] 38 (0,0))) ∧ Aside0 (w'.heap[gb448]? = some (.cells #[.int .i64 a1_0,.int .i64 a1_1,.int .i64 a1_2,.int .i64 a1_3,.int .i64 a1_4] 38 (0,0))) ∧ Aside0 (Below w.heap.size w w'))
 case atStart=>exact ⟨(0),Q7,H',⟨Nat.le_refl _⟩,⟨by (with_reducible repeat (first|apply Kd.R_alloc|apply Kd.R_drewN|apply Kd.R_drew));exact Kd.R_mono HO451.out (fun _ hk=>hk.2)⟩,⟨by (with_reducible repeat (first|apply Kd.R_alloc|apply Kd.R_drewN|apply Kd.R_drew));exact Kd.R_mono HO454.out (fun _ hk=>hk.2)⟩,⟨Q71⟩,⟨Q72⟩,⟨Q142⟩⟩
 case round =>
  clear H'
  try clear p2
  try clear c5
  try clear c7
  try clear hcz6_0
  try clear hcz6_1
  try clear hcz6_2
  try clear hcz6_3
  try clear hcz6_4
  try clear hcz9_0
  try clear hcz9_1
  try clear hcz9_2
  try clear hcz9_3
  try clear hcz9_4
  try clear hfz6_0
  try clear hfz6_1
  try clear hfz6_2
  try clear hfz6_3
  try clear hfz6_4
  try clear hfz9_0
  try clear hfz9_1
  try clear hfz9_2
  try clear hfz9_3
  try clear hfz9_4
  obtain ⟨x7_1,rfl,HA,HK1,HO_5,HO_6,BK447,BK448,HB⟩:=hrel
  cases gk with
  | zero=>exact absurd HA.out (by simp [spec_l2Comp.l0])
  | succ k1 =>
   have H:=HA.out
   clear HA
   simp only [spec_l2Comp.l0] at H
   by_cases c12 : x7_1 < (y449.length : Int)
   ·rw [if_pos c12] at H
    have c12b0 : decide (x7_1 < (y449.length : Int)) = true:=decide_eq_true c12
    clear c12
    have c13 : 0 ≤ x7_1:=nn_ H
    rw [if_pos c13] at H
    have c13b0 : decide (0 ≤ x7_1) = true:=decide_eq_true c13
    clear c13
    have c14 : x7_1 < (y452.length : Int):=nn_ H
    rw [if_pos c14] at H
    have c14b0 : decide (x7_1 < (y452.length : Int)) = true:=decide_eq_true c14
    clear c14
    by_cases c15 : (rd y449 x7_1) < (rd y452 x7_1)
    ·rw [if_pos c15] at H
     have c15b0 : decide ((rd y449 x7_1) < (rd y452 x7_1)) = true:=decide_eq_true c15
     clear c15
     obtain rfl:=Option.some.inj H
     obtain ⟨Ao16,co16,eo16⟩:=Kd.R_slice HO_5.out
     subst eo16
     have p455 : 0 ≤ (x7_1 : Int):=of_decide_eq_true Q8
     have q455 : x7_1 < (y449.length : Int):=of_decide_eq_true Q8
     obtain ⟨ad455,e455,hx455_0⟩:=Kd.at_int (Kd.R_reads' HO_5.out).2.2 x7_1 p455 q455
     cases e455
     replace p455:=eq_true p455
     replace q455:=eq_true q455
     obtain ⟨Ao17,co17,eo17⟩:=Kd.R_slice HO_6.out
     subst eo17
     have p456 : 0 ≤ (x7_1 : Int):=of_decide_eq_true Q8
     have q456 : x7_1 < (y452.length : Int):=of_decide_eq_true Q8
     obtain ⟨ad456,e456,hx456_0⟩:=Kd.at_int (Kd.R_reads' HO_6.out).2.2 x7_1 p456 q456
     cases e456
     replace p456:=eq_true p456
     replace q456:=eq_true q456
     go_wp2
     repeat (go_quiet (fail);try go_wp2)
     go_ret
     exact ⟨Q18,Q142⟩
    ·rw [if_neg c15] at H
     have c15b0 : decide ((rd y449 x7_1) < (rd y452 x7_1)) = false:=decide_eq_false c15
     clear c15
     by_cases c18 : (rd y449 x7_1) > (rd y452 x7_1)
     ·rw [if_pos c18] at H
      have c18b0 : decide ((rd y452 x7_1) < (rd y449 x7_1)) = true:=decide_eq_true c18
      clear c18
      obtain rfl:=Option.some.inj H
      obtain ⟨Ao19,co19,eo19⟩:=Kd.R_slice HO_5.out
      subst eo19
      have p455 : 0 ≤ (x7_1 : Int):=of_decide_eq_true Q8
      have q455 : x7_1 < (y449.length : Int):=of_decide_eq_true Q8
      obtain ⟨ad455,e455,hx455_0⟩:=Kd.at_int (Kd.R_reads' HO_5.out).2.2 x7_1 p455 q455
      cases e455
      replace p455:=eq_true p455
      replace q455:=eq_true q455
      obtain ⟨Ao20,co20,eo20⟩:=Kd.R_slice HO_6.out
      subst eo20
      have p456 : 0 ≤ (x7_1 : Int):=of_decide_eq_true Q8
      have q456 : x7_1 < (y452.length : Int):=of_decide_eq_true Q8
      obtain ⟨ad456,e456,hx456_0⟩:=Kd.at_int (Kd.R_reads' HO_6.out).2.2 x7_1 p456 q456
      cases e456
      replace p456:=eq_true p456
      replace q456:=eq_true q456
      have p457 : 0 ≤ (x7_1 : Int):=of_decide_eq_true Q8
      have q457 : x7_1 < (y449.length : Int):=of_decide_eq_true Q8
      obtain ⟨ad457,e457,hx457_0⟩:=Kd.at_int (Kd.R_reads' HO_5.out).2.2 x7_1 p457 q457
      obtain rfl : ad455 = ad457:=(by injection e457)
      replace p457:=eq_true p457
      replace q457:=eq_true q457
      have p458 : 0 ≤ (x7_1 : Int):=of_decide_eq_true Q8
      have q458 : x7_1 < (y452.length : Int):=of_decide_eq_true Q8
      obtain ⟨ad458,e458,hx458_0⟩:=Kd.at_int (Kd.R_reads' HO_6.out).2.2 x7_1 p458 q458
      obtain rfl : ad456 = ad458:=(by injection e458)
      replace p458:=eq_true p458
      replace q458:=eq_true q458
      go_wp2
      repeat (go_quiet (fail);try go_wp2)
      go_ret
      exact ⟨Q18,Q142⟩
     ·rw [if_neg c18] at H
      have c18b0 : decide ((rd y452 x7_1) < (rd y449 x7_1)) = false:=decide_eq_false c18
      clear c18
      have H':=Aside0.mk H
      clear H
      obtain ⟨Ao21,co21,eo21⟩:=Kd.R_slice HO_5.out
      subst eo21
      have p455 : 0 ≤ (x7_1 : Int):=of_decide_eq_true Q8
      have q455 : x7_1 < (y449.length : Int):=of_decide_eq_true Q8
      obtain ⟨ad455,e455,hx455_0⟩:=Kd.at_int (Kd.R_reads' HO_5.out).2.2 x7_1 p455 q455
      cases e455
      replace p455:=eq_true p455
      replace q455:=eq_true q455
      obtain ⟨Ao22,co22,eo22⟩:=Kd.R_slice HO_6.out
      subst eo22
      have p456 : 0 ≤ (x7_1 : Int):=of_decide_eq_true Q8
      have q456 : x7_1 < (y452.length : Int):=of_decide_eq_true Q8
      obtain ⟨ad456,e456,hx456_0⟩:=Kd.at_int (Kd.R_reads' HO_6.out).2.2 x7_1 p456 q456
      cases e456
      replace p456:=eq_true p456
      replace q456:=eq_true q456
      have p457 : 0 ≤ (x7_1 : Int):=of_decide_eq_true Q8
      have q457 : x7_1 < (y449.length : Int):=of_decide_eq_true Q8
      obtain ⟨ad457,e457,hx457_0⟩:=Kd.at_int (Kd.R_reads' HO_5.out).2.2 x7_1 p457 q457
      obtain rfl : ad455 = ad457:=(by injection e457)
      replace p457:=eq_true p457
      replace q457:=eq_true q457
      have p458 : 0 ≤ (x7_1 : Int):=of_decide_eq_true Q8
      have q458 : x7_1 < (y452.length : Int):=of_decide_eq_true Q8
      obtain ⟨ad458,e458,hx458_0⟩:=Kd.at_int (Kd.R_reads' HO_6.out).2.2 x7_1 p458 q458
      obtain rfl : ad456 = ad458:=(by injection e458)
      replace p458:=eq_true p458
      replace q458:=eq_true q458
      go_wp2
      repeat (go_quiet (fail);try go_wp2)
      go_roundg k1
      case measure=>have:=HK1.out;omega
      case rel=>exact ⟨(wrap64 (x7_1 + 1)),Q7,H',⟨Q3⟩,⟨Q21⟩,⟨by (with_reducible repeat (first|apply Kd.R_alloc|apply Kd.R_drewN|apply Kd.R_drew));exact HO_6.out⟩,⟨Q71⟩,⟨Q72⟩,⟨Q142⟩⟩
   ·rw [if_neg c12] at H
    have c12b0 : decide (x7_1 < (y449.length : Int)) = false:=decide_eq_false c12
    clear c12
    obtain rfl:=Option.some.inj H
    obtain ⟨Ao23,co23,eo23⟩:=Kd.R_slice HO_5.out
    subst eo23
    go_wp2
    repeat (go_quiet (fail);try go_wp2)
    go_ret
    exact ⟨Q18,Q142⟩
def spec_BatchOk.l0 : Nat → List (S38) → Int → Option (Bool)
 | 0, _, _ => none
 | k + 1, x0, x3 => if x3 < (x0.length : Int) then (if 0 ≤ x3 then (if ((rd_T38 x0 x3).f3) = 0 then (some false) else (if x3 > 0 then (if 0 ≤ (wrap64 (x3 - 1)) then (if (wrap64 (x3 - 1)) < (x0.length : Int) then ((spec_l2Comp.f k ((rd_T38 x0 (wrap64 (x3 - 1))).f0) ((rd_T38 x0 (wrap64 (x3 - 1))).f1) ((rd_T38 x0 (wrap64 (x3 - 1))).f2.f0) ((rd_T38 x0 (wrap64 (x3 - 1))).f2.f1) ((rd_T38 x0 (wrap64 (x3 - 1))).f3) ((rd_T38 x0 x3).f0) ((rd_T38 x0 x3).f1) ((rd_T38 x0 x3).f2.f0) ((rd_T38 x0 x3).f2.f1) ((rd_T38 x0 x3).f3)).bind fun t463 => (if t463 ≥ 0 then (some false) else (spec_BatchOk.l0 k x0 (wrap64 (x3 + 1))))) else (none)) else (none)) else (spec_BatchOk.l0 k x0 (wrap64 (x3 + 1))))) else (none)) else (some true)
def spec_BatchOk.f (k : Nat) (l0 : List (S38)) : Option (Bool) := (spec_RowsOk.f k l0).bind fun t459 => (if t459 = true then (spec_BatchOk.l0 k l0 0) else (some false))
def spec_BatchOk.T6 : Bool × List (List Nat × List Nat) := (true, [([], []), ([], []), ([0, 1], [0, 1]), ([2], [2]), ([3], [3]), ([4], [4]), ([5], [5]), ([6], [6]), ([7, 6], [6, 7]), ([8, 6, 6], [6, 8]), ([9], [9]), ([9], [9]), ([11, 9], [9, 11]), ([10, 12, 9], [9, 10, 12]), ([13, 9], [9, 13]), ([9], [9]), ([9], [9]), ([15, 16, 9], [9, 15, 16]), ([17, 9], [9, 17]), ([14, 18, 9, 9], [9, 14, 18]), ([19, 9], [9, 19]), ([9, 20, 6], [6, 9, 20]), ([6, 21], [6, 21])])
def spec_BatchOk.B6 : List Nat := [0, 0, 3, 7, 15, 31, 63, 127, 255, 511, 1023, 1023, 3071, 8191, 16383, 1023, 1023, 99327, 230399, 524287, 1048575, 2097151, 4194303]
theorem spec_BatchOk.tab6 : rtab .any (opsOf Try.f31 6) = spec_BatchOk.T6:=by kernel_rfl
theorem spec_BatchOk.bits6 : waitsOk spec_BatchOk.T6.2 spec_BatchOk.B6 = true:=by kernel_rfl
set_option maxHeartbeats 8000000 in
set_option maxRecDepth 100000 in
theorem spec_BatchOk.calls (k : Nat) (A0 : Option Addr) (c0 : Nat) (l0 : List (S38)) (r : Bool) (w : World) (hr0 : Kd.C k38 w A0 l0.length l0) (hc0 : l0.length ≤ c0) (h : spec_BatchOk.f k l0 = some r) :
  Calls Try.prog 31 #[.slice A0 l0.length c0] w fun e w'=>e = .returned (.bool r) ∧ Below w.heap.size w w':=by
 have hu38:=Try.underlying38
 have HR0:=Aside0.mk hr0
 have HC0:=Aside0.mk hc0
 clear hr0 hc0
 have HB:=am (Below.refl w.heap.size w)
 have H : ((spec_RowsOk.f k l0).bind fun t459=>(if t459 = true then (spec_BatchOk.l0 k l0 0) else (some false))) = some r:=h
 clear h
 replace H:=Option.bind_eq_some_iff.mp H
 obtain ⟨t459,A20,H⟩:=H
 replace H : (if t459 = true then (spec_BatchOk.l0 k l0 0) else (some false)) = some r:=H
 have A2:=Aside0.mk A20
 clear A20
 by_cases c3 : t459 = true
 ·subst c3
  have H1 : (spec_BatchOk.l0 k l0 0) = some r:=by rw [if_pos rfl] at H;exact H
  clear H
  have H:=H1
  clear H1
  have H':=Aside0.mk H
  clear H
  go_enter Try.func31,Try.ntmps31
  go_wp2_with (first|((with_reducible refine gate_callee (f:=20) rfl ?_);refine goesL_ (some 5) rfl rfl Try.func20 Q1 rfl #[.slice A0 l0.length c0] rfl Q84 ?_;(with_reducible refine (spec_RowsOk.calls k _ _ l0 true _ ?side1 ?side2 A2.out).mono ?_);(case side1=>exact Q89);(case side2=>exact HC0.out);rintro e w4 ⟨rfl,hb⟩;refine ⟨_,rfl,?_⟩;replace HB:=am (below_step Q80 hb);(try clear hb)))
  go_loopg [3] k (fun kq v3 w'=>∃ (x3_1 : Int),v3 = .int .i64 x3_1 ∧ Aside0 (spec_BatchOk.l0 kq l0 x3_1 = some r) ∧ Aside0 (kq ≤ k) ∧ Aside0 (Below w.heap.size w w'))
  case atStart=>exact ⟨(0),Q7,H',⟨Nat.le_refl _⟩,⟨Q80⟩⟩
  case round =>
   clear H'
   try clear c2
   try clear p2
   try clear c3
   obtain ⟨x3_1,rfl,HA,HK1,HB⟩:=hrel
   cases gk with
   | zero=>exact absurd HA.out (by simp [spec_BatchOk.l0])
   | succ k1 =>
    have H:=HA.out
    clear HA
    simp only [spec_BatchOk.l0] at H
    by_cases c5 : x3_1 < (l0.length : Int)
    ·rw [if_pos c5] at H
     have c5b0 : decide (x3_1 < (l0.length : Int)) = true:=decide_eq_true c5
     clear c5
     have c6 : 0 ≤ x3_1:=nn_ H
     rw [if_pos c6] at H
     have c6b0 : decide (0 ≤ x3_1) = true:=decide_eq_true c6
     clear c6
     by_cases c7 : ((rd_T38 l0 x3_1).f3) = 0
     ·rw [if_pos c7] at H
      have c7b0 : (((rd_T38 l0 x3_1).f3) == 0) = true:=beq_iff_eq.mpr c7
      have c7b1 : (((rd_T38 l0 x3_1).f3) != 0) = false:=bne_eq_false_iff_eq.mpr c7
      clear c7
      obtain rfl:=Option.some.inj H
      try go_wp2
      replace HB:=am (below_drew1 HB.out)
      have p460 : 0 ≤ (x3_1 : Int):=of_decide_eq_true Q8
      have q460 : x3_1 < (l0.length : Int):=of_decide_eq_true Q8
      obtain ⟨ad460,e460,hx460_0,hx460_1,hx460_2,hx460_3,hx460_4⟩:=at_T38 HR0.out x3_1 p460 q460
      have hw460_4:=hx460_4
      have hw460_3:=hx460_3
      have hw460_2:=hx460_2
      have hw460_1:=hx460_1
      have hw460_0:=hx460_0
      cases e460
      replace hx460_0:=cb_ HB hx460_0
      replace hx460_1:=cb_ HB hx460_1
      replace hx460_2:=cb_ HB hx460_2
      replace hx460_3:=cb_ HB hx460_3
      replace hx460_4:=cb_ HB hx460_4
      replace p460:=eq_true p460
      replace q460:=eq_true q460
      refine start_ (n:=23) (S:=fun w'=>w'.cell? (ad460.add ((x3_1).toNat * 5)) = some (.int .i64 ((rd_T38 l0 x3_1).f0)) ∧ w'.cell? ⟨(ad460.add ((x3_1).toNat * 5)).block,(ad460.add ((x3_1).toNat * 5)).off + 1,none⟩ = some (.int .i64 ((rd_T38 l0 x3_1).f1)) ∧ w'.cell? ⟨(ad460.add ((x3_1).toNat * 5)).block,(ad460.add ((x3_1).toNat * 5)).off + 2,none⟩ = some (.int .i64 ((rd_T38 l0 x3_1).f2.f0)) ∧ w'.cell? ⟨(ad460.add ((x3_1).toNat * 5)).block,(ad460.add ((x3_1).toNat * 5)).off + 3,none⟩ = some (.int .i64 ((rd_T38 l0 x3_1).f2.f1)) ∧ w'.cell? ⟨(ad460.add ((x3_1).toNat * 5)).block,(ad460.add ((x3_1).toNat * 5)).off + 4,none⟩ = some (.int .i64 ((rd_T38 l0 x3_1).f3))) (ds:=[]) b23_0 Q1 rfl rfl ⟨(cb_ HB hw460_0:),(cb_ HB hw460_1:),(cb_ HB hw460_2:),(cb_ HB hw460_3:),(cb_ HB hw460_4:)⟩ (fun hHeld=>?_);refine with_tabW spec_BatchOk.tab6 spec_BatchOk.bits6 (fun HT_ HW_=>?_)
      generalize wr.drew = w8 at HB hx460_0 hx460_1 hx460_2 hx460_3 hx460_4 hHeld ⊢
      refine pU_ 0 13 b23_1 ?_
      refine pU_ 1 14 b23_2 ?_
      refine pU_ 2 15 b23_3 ?_
      refine pU_ 3 16 b23_4 ?_
      refine tU_ 4 17 b23_5 hHeld ?_
      refine pU_ 5 18 b23_6 ?_
      refine pU_ 6 19 b23_7 ?_
      refine pV_ 7 20 b23_8 ?_
      refine pV_ 8 21 b23_9 ?_
      refine pV_ 9 22 b23_10 ?_
      refine pV_ 10 23 b23_11 ?_
      refine pV_ 11 24 b23_12 ?_
      refine pV_ 12 25 b23_13 ?_
      refine pV_ 13 26 b23_14 ?_
      refine pV_ 14 27 b23_15 ?_
      refine pV_ 15 28 b23_16 ?_
      refine pV_ 16 29 b23_17 ?_
      refine pV_ 17 30 b23_18 ?_
      refine pV_ 18 31 b23_19 ?_
      refine pV_ 19 32 b23_20 ?_
      refine pV_ 20 33 b23_21 ?_
      refine pV_ 21 34 b23_22 ?_
      refine pU_ 22 35 b23_23 ?_
      refine done_ (done_of HT_.out Q1) ?_
      try go_wp2
      go_ret
      exact ⟨Q18,Q80⟩
     ·rw [if_neg c7] at H
      have c7b0 : (((rd_T38 l0 x3_1).f3) == 0) = false:=beq_eq_false_iff_ne.mpr c7
      have c7b1 : (((rd_T38 l0 x3_1).f3) != 0) = true:=bne_iff_ne.mpr c7
      by_cases c9 : x3_1 > 0
      ·rw [if_pos c9] at H
       have c9b0 : decide (0 < x3_1) = true:=decide_eq_true c9
       clear c9
       obtain ⟨ji10,hji10⟩ : ∃ j_ : Int,(wrap64 (x3_1 - 1)) = j_:=⟨_,rfl⟩
       replace H : (if 0 ≤ (ji10) then (if (ji10) < (l0.length : Int) then ((spec_l2Comp.f k1 ((rd_T38 l0 (ji10)).f0) ((rd_T38 l0 (ji10)).f1) ((rd_T38 l0 (ji10)).f2.f0) ((rd_T38 l0 (ji10)).f2.f1) ((rd_T38 l0 (ji10)).f3) ((rd_T38 l0 x3_1).f0) ((rd_T38 l0 x3_1).f1) ((rd_T38 l0 x3_1).f2.f0) ((rd_T38 l0 x3_1).f2.f1) ((rd_T38 l0 x3_1).f3)).bind fun t463=>(if t463 ≥ 0 then (some false) else (spec_BatchOk.l0 k1 l0 (wrap64 (x3_1 + 1))))) else (none)) else (none)) = some r:=by first|(rw [hji10] at H;exact H)|(simp only [hji10] at H ⊢;exact H)
       have hji10w : (IntKind.i64.wrap (x3_1 - 1)) = ji10:=(i64_w _).trans hji10
       have c11 : 0 ≤ (ji10):=nn_ H
       rw [if_pos c11] at H
       have c11b0 : decide (0 ≤ (ji10)) = true:=decide_eq_true c11
       clear c11
       have c12 : (ji10) < (l0.length : Int):=nn_ H
       rw [if_pos c12] at H
       have c12b0 : decide ((ji10) < (l0.length : Int)) = true:=decide_eq_true c12
       clear c12
       replace H:=Option.bind_eq_some_iff.mp H
       obtain ⟨t463,A130,H⟩:=H
       replace H : (if t463 ≥ 0 then (some false) else (spec_BatchOk.l0 k1 l0 (wrap64 (x3_1 + 1)))) = some r:=H
       have A13:=Aside0.mk A130
       clear A130
       by_cases c14 : t463 ≥ 0
       ·rw [if_pos c14] at H
        have c14b0 : decide (0 ≤ t463) = true:=decide_eq_true c14
        clear c14
        obtain rfl:=Option.some.inj H
        try go_wp2
        replace HB:=am (below_drew1 HB.out)
        have p460 : 0 ≤ (x3_1 : Int):=of_decide_eq_true Q8
        have q460 : x3_1 < (l0.length : Int):=of_decide_eq_true Q8
        obtain ⟨ad460,e460,hx460_0,hx460_1,hx460_2,hx460_3,hx460_4⟩:=at_T38 HR0.out x3_1 p460 q460
        have hw460_4:=hx460_4
        have hw460_3:=hx460_3
        have hw460_2:=hx460_2
        have hw460_1:=hx460_1
        have hw460_0:=hx460_0
        cases e460
        replace hx460_0:=cb_ HB hx460_0
        replace hx460_1:=cb_ HB hx460_1
        replace hx460_2:=cb_ HB hx460_2
        replace hx460_3:=cb_ HB hx460_3
        replace hx460_4:=cb_ HB hx460_4
        replace p460:=eq_true p460
        replace q460:=eq_true q460
        have p461 : 0 ≤ ((ji10) : Int):=of_decide_eq_true Q8
        have q461 : (ji10) < (l0.length : Int):=of_decide_eq_true Q8
        obtain ⟨ad461,e461,hx461_0,hx461_1,hx461_2,hx461_3,hx461_4⟩:=at_T38 HR0.out (ji10) p461 q461
        have hw461_4:=hx461_4
        have hw461_3:=hx461_3
        have hw461_2:=hx461_2
        have hw461_1:=hx461_1
        have hw461_0:=hx461_0
        obtain rfl : ad460 = ad461:=(by injection e461)
        replace hx461_0:=cb_ HB hx461_0
        replace hx461_1:=cb_ HB hx461_1
        replace hx461_2:=cb_ HB hx461_2
        replace hx461_3:=cb_ HB hx461_3
        replace hx461_4:=cb_ HB hx461_4
        replace p461:=eq_true p461
        replace q461:=eq_true q461
        have p462 : 0 ≤ (x3_1 : Int):=of_decide_eq_true Q8
        have q462 : x3_1 < (l0.length : Int):=of_decide_eq_true Q8
        obtain ⟨ad462,e462,hx462_0,hx462_1,hx462_2,hx462_3,hx462_4⟩:=at_T38 HR0.out x3_1 p462 q462
        have hw462_4:=hx462_4
        have hw462_3:=hx462_3
        have hw462_2:=hx462_2
        have hw462_1:=hx462_1
        have hw462_0:=hx462_0
        obtain rfl : ad460 = ad462:=(by injection e462)
        replace hx462_0:=cb_ HB hx462_0
        replace hx462_1:=cb_ HB hx462_1
        replace hx462_2:=cb_ HB hx462_2
        replace hx462_3:=cb_ HB hx462_3
        replace hx462_4:=cb_ HB hx462_4
        replace p462:=eq_true p462
        replace q462:=eq_true q462
        refine start_ (n:=23) (S:=fun w'=>w'.cell? (ad460.add ((x3_1).toNat * 5)) = some (.int .i64 ((rd_T38 l0 x3_1).f0)) ∧ w'.cell? ⟨(ad460.add ((x3_1).toNat * 5)).block,(ad460.add ((x3_1).toNat * 5)).off + 1,none⟩ = some (.int .i64 ((rd_T38 l0 x3_1).f1)) ∧ w'.cell? ⟨(ad460.add ((x3_1).toNat * 5)).block,(ad460.add ((x3_1).toNat * 5)).off + 2,none⟩ = some (.int .i64 ((rd_T38 l0 x3_1).f2.f0)) ∧ w'.cell? ⟨(ad460.add ((x3_1).toNat * 5)).block,(ad460.add ((x3_1).toNat * 5)).off + 3,none⟩ = some (.int .i64 ((rd_T38 l0 x3_1).f2.f1)) ∧ w'.cell? ⟨(ad460.add ((x3_1).toNat * 5)).block,(ad460.add ((x3_1).toNat * 5)).off + 4,none⟩ = some (.int .i64 ((rd_T38 l0 x3_1).f3)) ∧ w'.cell? (ad460.add (((ji10)).toNat * 5)) = some (.int .i64 ((rd_T38 l0 (ji10)).f0)) ∧ w'.cell? ⟨(ad460.add (((ji10)).toNat * 5)).block,(ad460.add (((ji10)).toNat * 5)).off + 1,none⟩ = some (.int .i64 ((rd_T38 l0 (ji10)).f1)) ∧ w'.cell? ⟨(ad460.add (((ji10)).toNat * 5)).block,(ad460.add (((ji10)).toNat * 5)).off + 2,none⟩ = some (.int .i64 ((rd_T38 l0 (ji10)).f2.f0)) ∧ w'.cell? ⟨(ad460.add (((ji10)).toNat * 5)).block,(ad460.add (((ji10)).toNat * 5)).off + 3,none⟩ = some (.int .i64 ((rd_T38 l0 (ji10)).f2.f1)) ∧ w'.cell? ⟨(ad460.add (((ji10)).toNat * 5)).block,(ad460.add (((ji10)).toNat * 5)).off + 4,none⟩ = some (.int .i64 ((rd_T38 l0 (ji10)).f3)) ∧ w'.cell? (ad460.add ((x3_1).toNat * 5)) = some (.int .i64 ((rd_T38 l0 x3_1).f0)) ∧ w'.cell? ⟨(ad460.add ((x3_1).toNat * 5)).block,(ad460.add ((x3_1).toNat * 5)).off + 1,none⟩ = some (.int .i64 ((rd_T38 l0 x3_1).f1)) ∧ w'.cell? ⟨(ad460.add ((x3_1).toNat * 5)).block,(ad460.add ((x3_1).toNat * 5)).off + 2,none⟩ = some (.int .i64 ((rd_T38 l0 x3_1).f2.f0)) ∧ w'.cell? ⟨(ad460.add ((x3_1).toNat * 5)).block,(ad460.add ((x3_1).toNat * 5)).off + 3,none⟩ = some (.int .i64 ((rd_T38 l0 x3_1).f2.f1)) ∧ w'.cell? ⟨(ad460.add ((x3_1).toNat * 5)).block,(ad460.add ((x3_1).toNat * 5)).off + 4,none⟩ = some (.int .i64 ((rd_T38 l0 x3_1).f3))) (ds:=[]) b23_0 Q1 rfl rfl ⟨(cb_ HB hw460_0:),(cb_ HB hw460_1:),(cb_ HB hw460_2:),(cb_ HB hw460_3:),(cb_ HB hw460_4:),(cb_ HB hw461_0:),(cb_ HB hw461_1:),(cb_ HB hw461_2:),(cb_ HB hw461_3:),(cb_ HB hw461_4:),(cb_ HB hw462_0:),(cb_ HB hw462_1:),(cb_ HB hw462_2:),(cb_ HB hw462_3:),(cb_ HB hw462_4:)⟩ (fun hHeld=>?_);refine with_tabW spec_BatchOk.tab6 spec_BatchOk.bits6 (fun HT_ HW_=>?_)
        generalize wr.drew = w15 at HB hx460_0 hx460_1 hx460_2 hx460_3 hx460_4 hx461_0 hx461_1 hx461_2 hx461_3 hx461_4 hx462_0 hx462_1 hx462_2 hx462_3 hx462_4 hHeld ⊢
        refine pU_ 0 13 b23_1 ?_
        refine pU_ 1 14 b23_2 ?_
        refine pU_ 2 15 b23_3 ?_
        refine pU_ 3 16 b23_4 ?_
        refine tU_ 4 17 b23_5 hHeld ?_
        refine pU_ 5 18 b23_6 ?_
        refine pU_ 6 19 b23_7 ?_
        refine pU_ 7 20 b23_8 ?_
        refine pU_ 8 21 b23_9 ?_
        refine pU_ 9 22 b23_10 ?_
        refine pU_ 10 23 b23_11 ?_
        refine pU_ 11 24 b23_12 ?_
        refine pU_ 12 25 b23_13 ?_
        refine pU_ 13 26 b23_14 ?_
        refine pU_ 15 28 c172 ?_
        refine pU_ 16 29 c173 ?_
        refine pU_ 17 30 c174 ?_
        refine tU_ 14 27 b23_18 hHeld ?_
        refine tU_ 18 31 b23_19 hHeld ?_
        refine one_ (i:=19) (N:=some 32) b23_20 rfl rfl (one_of HT_.out Q1) Q0 (fun K hK=>?_)
        refine goes_ Try.func71 Q1 rfl #[.agg #[.int .i64 ((rd_T38 l0 (ji10)).f0),.int .i64 ((rd_T38 l0 (ji10)).f1),.int .i64 ((rd_T38 l0 (ji10)).f2.f0),.int .i64 ((rd_T38 l0 (ji10)).f2.f1),.int .i64 ((rd_T38 l0 (ji10)).f3)],.agg #[.int .i64 ((rd_T38 l0 x3_1).f0),.int .i64 ((rd_T38 l0 x3_1).f1),.int .i64 ((rd_T38 l0 x3_1).f2.f0),.int .i64 ((rd_T38 l0 x3_1).f2.f1),.int .i64 ((rd_T38 l0 x3_1).f3)]] (by rfl) rfl rfl (by (try simp only [List.map_toArray,List.map_cons,List.map_nil]);first|done|(simp only [hji10];rfl)|rfl|(simp only [List.length_drop,List.length_take];rfl)) ?_
        with_reducible refine (spec_l2Comp.calls k1 ((rd_T38 l0 (ji10)).f0) ((rd_T38 l0 (ji10)).f1) ((rd_T38 l0 (ji10)).f2.f0) ((rd_T38 l0 (ji10)).f2.f1) ((rd_T38 l0 (ji10)).f3) ((rd_T38 l0 x3_1).f0) ((rd_T38 l0 x3_1).f1) ((rd_T38 l0 x3_1).f2.f0) ((rd_T38 l0 x3_1).f2.f1) ((rd_T38 l0 x3_1).f3) t463 _ A13.out).mono ?_
        rintro e w16 ⟨rfl,hb⟩
        refine ⟨_,rfl,?_⟩
        replace HB:=am (below_step Q80 hb)
        (try clear hb)
        (try clear hb2)
        (try clear hk)
        (try clear hi)
        refine hK.out _ _ ⟨(cb_ HB hw460_0:),(cb_ HB hw460_1:),(cb_ HB hw460_2:),(cb_ HB hw460_3:),(cb_ HB hw460_4:),(cb_ HB hw461_0:),(cb_ HB hw461_1:),(cb_ HB hw461_2:),(cb_ HB hw461_3:),(cb_ HB hw461_4:),(cb_ HB hw462_0:),(cb_ HB hw462_1:),(cb_ HB hw462_2:),(cb_ HB hw462_3:),(cb_ HB hw462_4:)⟩ (fun hHeld=>?_)
        clear hK K
        refine norm_ (a':=?_) ?_ ?_
        rotate_left
        ·show Act.put _ (some 32) _ = _
         simp only [Act.put,sA_,sZ_,sS_,i64_w,i32_w]
         rfl
        refine pU_ 20 33 b23_21 ?_
        refine pU_ 21 34 b23_22 ?_
        refine pU_ 22 35 b23_23 ?_
        refine done_ (done_of HT_.out Q1) ?_
        try go_wp2
        go_ret
        exact ⟨by first|rfl|(simp [errW_none,errW_some] <;> rfl)|(simp only [← hji10];first|rfl|(simp [errW_none,errW_some] <;> rfl))|(simp [*,errW_none,errW_some] <;> rfl),Q80⟩
       ·rw [if_neg c14] at H
        have c14b0 : decide (0 ≤ t463) = false:=decide_eq_false c14
        clear c14
        have H':=Aside0.mk H
        clear H
        try go_wp2
        replace HB:=am (below_drew1 HB.out)
        have p460 : 0 ≤ (x3_1 : Int):=of_decide_eq_true Q8
        have q460 : x3_1 < (l0.length : Int):=of_decide_eq_true Q8
        obtain ⟨ad460,e460,hx460_0,hx460_1,hx460_2,hx460_3,hx460_4⟩:=at_T38 HR0.out x3_1 p460 q460
        have hw460_4:=hx460_4
        have hw460_3:=hx460_3
        have hw460_2:=hx460_2
        have hw460_1:=hx460_1
        have hw460_0:=hx460_0
        cases e460
        replace hx460_0:=cb_ HB hx460_0
        replace hx460_1:=cb_ HB hx460_1
        replace hx460_2:=cb_ HB hx460_2
        replace hx460_3:=cb_ HB hx460_3
        replace hx460_4:=cb_ HB hx460_4
        replace p460:=eq_true p460
        replace q460:=eq_true q460
        have p461 : 0 ≤ ((ji10) : Int):=of_decide_eq_true Q8
        have q461 : (ji10) < (l0.length : Int):=of_decide_eq_true Q8
        obtain ⟨ad461,e461,hx461_0,hx461_1,hx461_2,hx461_3,hx461_4⟩:=at_T38 HR0.out (ji10) p461 q461
        have hw461_4:=hx461_4
        have hw461_3:=hx461_3
        have hw461_2:=hx461_2
        have hw461_1:=hx461_1
        have hw461_0:=hx461_0
        obtain rfl : ad460 = ad461:=(by injection e461)
        replace hx461_0:=cb_ HB hx461_0
        replace hx461_1:=cb_ HB hx461_1
        replace hx461_2:=cb_ HB hx461_2
        replace hx461_3:=cb_ HB hx461_3
        replace hx461_4:=cb_ HB hx461_4
        replace p461:=eq_true p461
        replace q461:=eq_true q461
        have p462 : 0 ≤ (x3_1 : Int):=of_decide_eq_true Q8
        have q462 : x3_1 < (l0.length : Int):=of_decide_eq_true Q8
        obtain ⟨ad462,e462,hx462_0,hx462_1,hx462_2,hx462_3,hx462_4⟩:=at_T38 HR0.out x3_1 p462 q462
        have hw462_4:=hx462_4
        have hw462_3:=hx462_3
        have hw462_2:=hx462_2
        have hw462_1:=hx462_1
        have hw462_0:=hx462_0
        obtain rfl : ad460 = ad462:=(by injection e462)
        replace hx462_0:=cb_ HB hx462_0
        replace hx462_1:=cb_ HB hx462_1
        replace hx462_2:=cb_ HB hx462_2
        replace hx462_3:=cb_ HB hx462_3
        replace hx462_4:=cb_ HB hx462_4
        replace p462:=eq_true p462
        replace q462:=eq_true q462
        refine start_ (n:=23) (S:=fun w'=>w'.cell? (ad460.add ((x3_1).toNat * 5)) = some (.int .i64 ((rd_T38 l0 x3_1).f0)) ∧ w'.cell? ⟨(ad460.add ((x3_1).toNat * 5)).block,(ad460.add ((x3_1).toNat * 5)).off + 1,none⟩ = some (.int .i64 ((rd_T38 l0 x3_1).f1)) ∧ w'.cell? ⟨(ad460.add ((x3_1).toNat * 5)).block,(ad460.add ((x3_1).toNat * 5)).off + 2,none⟩ = some (.int .i64 ((rd_T38 l0 x3_1).f2.f0)) ∧ w'.cell? ⟨(ad460.add ((x3_1).toNat * 5)).block,(ad460.add ((x3_1).toNat * 5)).off + 3,none⟩ = some (.int .i64 ((rd_T38 l0 x3_1).f2.f1)) ∧ w'.cell? ⟨(ad460.add ((x3_1).toNat * 5)).block,(ad460.add ((x3_1).toNat * 5)).off + 4,none⟩ = some (.int .i64 ((rd_T38 l0 x3_1).f3)) ∧ w'.cell? (ad460.add (((ji10)).toNat * 5)) = some (.int .i64 ((rd_T38 l0 (ji10)).f0)) ∧ w'.cell? ⟨(ad460.add (((ji10)).toNat * 5)).block,(ad460.add (((ji10)).toNat * 5)).off + 1,none⟩ = some (.int .i64 ((rd_T38 l0 (ji10)).f1)) ∧ w'.cell? ⟨(ad460.add (((ji10)).toNat * 5)).block,(ad460.add (((ji10)).toNat * 5)).off + 2,none⟩ = some (.int .i64 ((rd_T38 l0 (ji10)).f2.f0)) ∧ w'.cell? ⟨(ad460.add (((ji10)).toNat * 5)).block,(ad460.add (((ji10)).toNat * 5)).off + 3,none⟩ = some (.int .i64 ((rd_T38 l0 (ji10)).f2.f1)) ∧ w'.cell? ⟨(ad460.add (((ji10)).toNat * 5)).block,(ad460.add (((ji10)).toNat * 5)).off + 4,none⟩ = some (.int .i64 ((rd_T38 l0 (ji10)).f3)) ∧ w'.cell? (ad460.add ((x3_1).toNat * 5)) = some (.int .i64 ((rd_T38 l0 x3_1).f0)) ∧ w'.cell? ⟨(ad460.add ((x3_1).toNat * 5)).block,(ad460.add ((x3_1).toNat * 5)).off + 1,none⟩ = some (.int .i64 ((rd_T38 l0 x3_1).f1)) ∧ w'.cell? ⟨(ad460.add ((x3_1).toNat * 5)).block,(ad460.add ((x3_1).toNat * 5)).off + 2,none⟩ = some (.int .i64 ((rd_T38 l0 x3_1).f2.f0)) ∧ w'.cell? ⟨(ad460.add ((x3_1).toNat * 5)).block,(ad460.add ((x3_1).toNat * 5)).off + 3,none⟩ = some (.int .i64 ((rd_T38 l0 x3_1).f2.f1)) ∧ w'.cell? ⟨(ad460.add ((x3_1).toNat * 5)).block,(ad460.add ((x3_1).toNat * 5)).off + 4,none⟩ = some (.int .i64 ((rd_T38 l0 x3_1).f3))) (ds:=[]) b23_0 Q1 rfl rfl ⟨(cb_ HB hw460_0:),(cb_ HB hw460_1:),(cb_ HB hw460_2:),(cb_ HB hw460_3:),(cb_ HB hw460_4:),(cb_ HB hw461_0:),(cb_ HB hw461_1:),(cb_ HB hw461_2:),(cb_ HB hw461_3:),(cb_ HB hw461_4:),(cb_ HB hw462_0:),(cb_ HB hw462_1:),(cb_ HB hw462_2:),(cb_ HB hw462_3:),(cb_ HB hw462_4:)⟩ (fun hHeld=>?_);refine with_tabW spec_BatchOk.tab6 spec_BatchOk.bits6 (fun HT_ HW_=>?_)
        generalize wr.drew = w17 at HB hx460_0 hx460_1 hx460_2 hx460_3 hx460_4 hx461_0 hx461_1 hx461_2 hx461_3 hx461_4 hx462_0 hx462_1 hx462_2 hx462_3 hx462_4 hHeld ⊢
        refine pU_ 0 13 b23_1 ?_
        refine pU_ 1 14 b23_2 ?_
        refine pU_ 2 15 b23_3 ?_
        refine pU_ 3 16 b23_4 ?_
        refine tU_ 4 17 b23_5 hHeld ?_
        refine pU_ 5 18 b23_6 ?_
        refine pU_ 6 19 b23_7 ?_
        refine pU_ 7 20 b23_8 ?_
        refine pU_ 8 21 b23_9 ?_
        refine pU_ 9 22 b23_10 ?_
        refine pU_ 10 23 b23_11 ?_
        refine pU_ 11 24 b23_12 ?_
        refine pU_ 12 25 b23_13 ?_
        refine pU_ 13 26 b23_14 ?_
        refine pU_ 15 28 c172 ?_
        refine pU_ 16 29 c173 ?_
        refine pU_ 17 30 c174 ?_
        refine tU_ 14 27 b23_18 hHeld ?_
        refine tU_ 18 31 b23_19 hHeld ?_
        refine one_ (i:=19) (N:=some 32) b23_20 rfl rfl (one_of HT_.out Q1) Q0 (fun K hK=>?_)
        refine goes_ Try.func71 Q1 rfl #[.agg #[.int .i64 ((rd_T38 l0 (ji10)).f0),.int .i64 ((rd_T38 l0 (ji10)).f1),.int .i64 ((rd_T38 l0 (ji10)).f2.f0),.int .i64 ((rd_T38 l0 (ji10)).f2.f1),.int .i64 ((rd_T38 l0 (ji10)).f3)],.agg #[.int .i64 ((rd_T38 l0 x3_1).f0),.int .i64 ((rd_T38 l0 x3_1).f1),.int .i64 ((rd_T38 l0 x3_1).f2.f0),.int .i64 ((rd_T38 l0 x3_1).f2.f1),.int .i64 ((rd_T38 l0 x3_1).f3)]] (by rfl) rfl rfl (by (try simp only [List.map_toArray,List.map_cons,List.map_nil]);first|done|(simp only [hji10];rfl)|rfl|(simp only [List.length_drop,List.length_take];rfl)) ?_
        with_reducible refine (spec_l2Comp.calls k1 ((rd_T38 l0 (ji10)).f0) ((rd_T38 l0 (ji10)).f1) ((rd_T38 l0 (ji10)).f2.f0) ((rd_T38 l0 (ji10)).f2.f1) ((rd_T38 l0 (ji10)).f3) ((rd_T38 l0 x3_1).f0) ((rd_T38 l0 x3_1).f1) ((rd_T38 l0 x3_1).f2.f0) ((rd_T38 l0 x3_1).f2.f1) ((rd_T38 l0 x3_1).f3) t463 _ A13.out).mono ?_
        rintro e w18 ⟨rfl,hb⟩
        refine ⟨_,rfl,?_⟩
        replace HB:=am (below_step Q80 hb)
        (try clear hb)
        (try clear hb2)
        (try clear hk)
        (try clear hi)
        refine hK.out _ _ ⟨(cb_ HB hw460_0:),(cb_ HB hw460_1:),(cb_ HB hw460_2:),(cb_ HB hw460_3:),(cb_ HB hw460_4:),(cb_ HB hw461_0:),(cb_ HB hw461_1:),(cb_ HB hw461_2:),(cb_ HB hw461_3:),(cb_ HB hw461_4:),(cb_ HB hw462_0:),(cb_ HB hw462_1:),(cb_ HB hw462_2:),(cb_ HB hw462_3:),(cb_ HB hw462_4:)⟩ (fun hHeld=>?_)
        clear hK K
        refine norm_ (a':=?_) ?_ ?_
        rotate_left
        ·show Act.put _ (some 32) _ = _
         simp only [Act.put,sA_,sZ_,sS_,i64_w,i32_w]
         rfl
        refine pU_ 20 33 b23_21 ?_
        refine pU_ 21 34 b23_22 ?_
        refine pU_ 22 35 b23_23 ?_
        refine done_ (done_of HT_.out Q1) ?_
        try go_wp2
        go_roundg k1
        case measure=>have:=HK1.out;omega
        case rel=>exact ⟨(wrap64 (x3_1 + 1)),Q7,H',⟨Q3⟩,⟨Q80⟩⟩
      ·rw [if_neg c9] at H
       have c9b0 : decide (0 < x3_1) = false:=decide_eq_false c9
       clear c9
       have H':=Aside0.mk H
       clear H
       try go_wp2
       replace HB:=am (below_drew1 HB.out)
       have p460 : 0 ≤ (x3_1 : Int):=of_decide_eq_true Q8
       have q460 : x3_1 < (l0.length : Int):=of_decide_eq_true Q8
       obtain ⟨ad460,e460,hx460_0,hx460_1,hx460_2,hx460_3,hx460_4⟩:=at_T38 HR0.out x3_1 p460 q460
       have hw460_4:=hx460_4
       have hw460_3:=hx460_3
       have hw460_2:=hx460_2
       have hw460_1:=hx460_1
       have hw460_0:=hx460_0
       cases e460
       replace hx460_0:=cb_ HB hx460_0
       replace hx460_1:=cb_ HB hx460_1
       replace hx460_2:=cb_ HB hx460_2
       replace hx460_3:=cb_ HB hx460_3
       replace hx460_4:=cb_ HB hx460_4
       replace p460:=eq_true p460
       replace q460:=eq_true q460
       refine start_ (n:=23) (S:=fun w'=>w'.cell? (ad460.add ((x3_1).toNat * 5)) = some (.int .i64 ((rd_T38 l0 x3_1).f0)) ∧ w'.cell? ⟨(ad460.add ((x3_1).toNat * 5)).block,(ad460.add ((x3_1).toNat * 5)).off + 1,none⟩ = some (.int .i64 ((rd_T38 l0 x3_1).f1)) ∧ w'.cell? ⟨(ad460.add ((x3_1).toNat * 5)).block,(ad460.add ((x3_1).toNat * 5)).off + 2,none⟩ = some (.int .i64 ((rd_T38 l0 x3_1).f2.f0)) ∧ w'.cell? ⟨(ad460.add ((x3_1).toNat * 5)).block,(ad460.add ((x3_1).toNat * 5)).off + 3,none⟩ = some (.int .i64 ((rd_T38 l0 x3_1).f2.f1)) ∧ w'.cell? ⟨(ad460.add ((x3_1).toNat * 5)).block,(ad460.add ((x3_1).toNat * 5)).off + 4,none⟩ = some (.int .i64 ((rd_T38 l0 x3_1).f3))) (ds:=[]) b23_0 Q1 rfl rfl ⟨(cb_ HB hw460_0:),(cb_ HB hw460_1:),(cb_ HB hw460_2:),(cb_ HB hw460_3:),(cb_ HB hw460_4:)⟩ (fun hHeld=>?_);refine with_tabW spec_BatchOk.tab6 spec_BatchOk.bits6 (fun HT_ HW_=>?_)
       generalize wr.drew = w19 at HB hx460_0 hx460_1 hx460_2 hx460_3 hx460_4 hHeld ⊢
       refine pU_ 0 13 b23_1 ?_
       refine pU_ 1 14 b23_2 ?_
       refine pU_ 2 15 b23_3 ?_
       refine pU_ 3 16 b23_4 ?_
       refine tU_ 4 17 b23_5 hHeld ?_
       refine pU_ 5 18 b23_6 ?_
       refine pU_ 6 19 b23_7 ?_
       refine pU_ 7 20 b23_8 ?_
       refine pU_ 8 21 b23_9 ?_
       refine pU_ 9 22 b23_10 ?_
       refine pV_ 10 23 b23_11 ?_
       refine pV_ 11 24 b23_12 ?_
       refine pV_ 12 25 b23_13 ?_
       refine pV_ 13 26 b23_14 ?_
       refine pV_ 14 27 b23_15 ?_
       refine pV_ 15 28 b23_16 ?_
       refine pV_ 16 29 b23_17 ?_
       refine pV_ 17 30 b23_18 ?_
       refine pV_ 18 31 b23_19 ?_
       refine pV_ 19 32 b23_20 ?_
       refine pV_ 20 33 b23_21 ?_
       refine pU_ 21 34 b23_22 ?_
       refine pU_ 22 35 b23_23 ?_
       refine done_ (done_of HT_.out Q1) ?_
       try go_wp2
       go_roundg k1
       case measure=>have:=HK1.out;omega
       case rel=>exact ⟨(wrap64 (x3_1 + 1)),Q7,H',⟨Q3⟩,⟨Q80⟩⟩
    ·rw [if_neg c5] at H
     have c5b0 : decide (x3_1 < (l0.length : Int)) = false:=decide_eq_false c5
     clear c5
     obtain rfl:=Option.some.inj H
     go_wp2
     go_ret
     exact ⟨Q18,Q80⟩
 ·replace c3:=Bool.eq_false_iff.mpr c3
  subst c3
  have H1 : (some false) = some r:=by rw [if_neg (show ¬ (false = true) by decide)] at H;exact H
  clear H
  have H:=H1
  clear H1
  obtain rfl:=Option.some.inj H
  go_enter Try.func31,Try.ntmps31
  go_wp2_with (first|((with_reducible refine gate_callee (f:=20) rfl ?_);refine goesL_ (some 5) rfl rfl Try.func20 Q1 rfl #[.slice A0 l0.length c0] rfl Q84 ?_;(with_reducible refine (spec_RowsOk.calls k _ _ l0 false _ ?side1 ?side2 A2.out).mono ?_);(case side1=>exact Q89);(case side2=>exact HC0.out);rintro e w20 ⟨rfl,hb⟩;refine ⟨_,rfl,?_⟩;replace HB:=am (below_step Q80 hb);(try clear hb)))
  go_ret
  exact ⟨Q18,Q80⟩
def spec_l2Fit.f (k : Nat) (l0 : List (S38)) : Option ((List (S38))) := (spec_BatchOk.f k l0).bind fun t464 => (if t464 = true then (some l0) else (some (([] : List (S38)))))
set_option maxHeartbeats 8000000 in
set_option maxRecDepth 100000 in
theorem spec_l2Fit.calls (k : Nat) (P0_ : Nat → Prop) (u9000_ : Value) (l0 : List (S38)) (r : List (S38)) (w0 w : World) (hB : Below w0.heap.size w0 w) (ho0 : Kd.R k38 38 w w0.heap.size P0_ u9000_ l0) (h : spec_l2Fit.f k l0 = some r) :
  Calls Try.prog 57 #[u9000_] w fun e w'=>∃ v0_ : Value,e = .returned (v0_) ∧ Kd.R k38 38 w' w0.heap.size (fun k_=>(P0_ k_ ∨ w.heap.size ≤ k_)) v0_ r ∧ Below w0.heap.size w0 w' ∧ Kept w w' (fun k_=>P0_ k_):=by
 have HO0:=am (show Kd.R k38 38 w w0.heap.size (fun k_=>(P0_ k_ ∨ w.heap.size ≤ k_)) u9000_ l0 from Kd.R_mono ho0 (fun k_ hk=>(.inl hk)))
 have HK:=am (Kept.refl w (fun k_=>P0_ k_))
 have HW0:=Aside0.mk hB.size
 have HB:=Aside0.mk hB
 clear hB
 have H : ((spec_BatchOk.f k l0).bind fun t464=>(if t464 = true then (some l0) else (some (([] : List (S38)))))) = some r:=h
 clear h
 replace H:=Option.bind_eq_some_iff.mp H
 obtain ⟨t464,A20,H⟩:=H
 replace H : (if t464 = true then (some l0) else (some (([] : List (S38))))) = some r:=H
 have A2:=Aside0.mk A20
 clear A20
 by_cases c3 : t464 = true
 ·subst c3
  have H1 : (some l0) = some r:=by rw [if_pos rfl] at H;exact H
  clear H
  have H:=H1
  clear H1
  obtain rfl:=Option.some.inj H
  obtain ⟨Ao4,co4,eo4⟩:=Kd.R_slice HO0.out
  subst eo4
  go_enter Try.func57,Try.ntmps57
  go_wp2_with (first|((with_reducible refine gate_callee (f:=31) rfl ?_);refine goesL_ (some 4) rfl rfl Try.func31 Q1 rfl #[.slice Ao4 l0.length co4] rfl Q84 ?_;(with_reducible refine (spec_BatchOk.calls k _ _ l0 true _ ?side1 ?side2 A2.out).mono ?_);(case side1=>exact (by repeat (first|exact (Kd.R_reads' HO0.out).2.2|(with_reducible refine Kd.C_alloc ?_ _)|(with_reducible refine Kd.C_drewN ?_ _)|(with_reducible refine Kd.C_drew ?_))));(case side2=>exact (Kd.R_reads' HO0.out).2.1);rintro e w5 ⟨rfl,hb⟩;refine ⟨_,rfl,?_⟩;replace HO0:=am (Kd.R_below Q20 hb);replace HK:=am (Kept.below (S:=(fun k_=>P0_ k_)) Q79 hb);replace HB:=am (below_step Q80 hb);(try clear hb)))
  go_ret
  exact ⟨_,Q18,Q20,Q80,Q79⟩
 ·replace c3:=Bool.eq_false_iff.mpr c3
  subst c3
  have H1 : (some (([] : List (S38)))) = some r:=by rw [if_neg (show ¬ (false = true) by decide)] at H;exact H
  clear H
  have H:=H1
  clear H1
  obtain ⟨y465,hy_⟩ : ∃ y_ : List (S38),y_ = (([] : List (S38))):=⟨_,rfl⟩
  replace H : (some y465) = some r:=Q162
  have Ny465:=Aside0.mk hy_
  clear hy_
  obtain rfl:=Option.some.inj H
  obtain ⟨Ao6,co6,eo6⟩:=Kd.R_slice HO0.out
  subst eo6
  go_enter Try.func57,Try.ntmps57
  go_wp2_with (first|((with_reducible refine gate_callee (f:=31) rfl ?_);refine goesL_ (some 4) rfl rfl Try.func31 Q1 rfl #[.slice Ao6 l0.length co6] rfl Q84 ?_;(with_reducible refine (spec_BatchOk.calls k _ _ l0 false _ ?side1 ?side2 A2.out).mono ?_);(case side1=>exact (by repeat (first|exact (Kd.R_reads' HO0.out).2.2|(with_reducible refine Kd.C_alloc ?_ _)|(with_reducible refine Kd.C_drewN ?_ _)|(with_reducible refine Kd.C_drew ?_))));(case side2=>exact (Kd.R_reads' HO0.out).2.1);rintro e w7 ⟨rfl,hb⟩;refine ⟨_,rfl,?_⟩;replace HO0:=am (Kd.R_below Q20 hb);replace HK:=am (Kept.below (S:=(fun k_=>P0_ k_)) Q79 hb);replace HB:=am (below_step Q80 hb);(try clear hb))|((with_reducible refine gate_dst (N:=6) rfl ?_);refine Kd.R_lit k38 _ 38 ?hg (N:=6) ?hd (xs:=([] : List (S38))) (inner:=[]) (ok:=fun _=>True) (okp:=fun _=>True) ?hr ?hp (fun _ hk=>hk) trivial (Below.refl _ _) (Nat.le_refl _) (by simp) ?_;(case hd=>rfl);(case hg=>rfl);(case hr=>first|(go_simp;done)|(go_simp;rfl));(case hp=>exact (Reps.none _ _));intro v466 w8 ho9 hb hg_ hnew_;clear hg_ hnew_;(first|rw [← Ny465.out] at ho9|(simp only [Int.reduceToNat] at ho9;rw [← Ny465.out] at ho9));have HO467:=am (Kd.R_lower (Kd.R_new' (Kd.R_newM (M:=fun k_=>(P0_ k_ ∨ w.heap.size ≤ k_)) ho9 (by first|exact HK.out.1|exact (show Kept w _ (fun k_=>P0_ k_) from by repeat (first|(with_reducible first|exact HK.out|apply Kept.alloc|apply Kept.drewN|apply Kept.drew)|exact HK.out)).1) (fun k_ h_=>.inr h_)) (Kd.R_lt Q20)) (below_size Q80));replace HO0:=am (Kd.R_elder' Q20 (Kd.R_base ho9) hb);replace HK:=am (Kept.below (S:=(fun k_=>P0_ k_)) Q79 hb);replace HB:=am (below_step Q80 hb);clear hb ho9))
  go_ret
  exact ⟨_,Q18,by (with_reducible repeat (first|apply Kd.R_alloc|apply Kd.R_drewN|apply Kd.R_drew));exact Kd.R_mono HO467.out (fun _ hk=>hk.1.1),Q80,Q79⟩
mutual
def spec_l2Put.l0 : Nat → List (S38) → List (S38) → Bool → Int → Int → Int → Int → Int → Int → Option ((List (S38)))
 | 0, _, _, _, _, _, _, _, _, _ => none
 | k + 1, x0, x5, x6, x7, x469000, x469001, x469002, x469003, x469004 => if x7 < (x0.length : Int) then (if 0 ≤ x7 then ((spec_l2Comp.f k ((rd_T38 x0 x7).f0) ((rd_T38 x0 x7).f1) ((rd_T38 x0 x7).f2.f0) ((rd_T38 x0 x7).f2.f1) ((rd_T38 x0 x7).f3) x469000 x469001 x469002 x469003 x469004).bind fun t476 => (if x6 = true then (spec_l2Put.j1 k x0 x5 x6 x7 t476 false x469000 x469001 x469002 x469003 x469004) else (spec_l2Put.j1 k x0 x5 x6 x7 t476 (decide (t476 > 0)) x469000 x469001 x469002 x469003 x469004))) else (none)) else (if x6 = true then (some x5) else (if x5.length < 3518437208883 then (some (x5 ++ [(⟨x469000, x469001, (⟨x469002, x469003⟩ : S36), x469004⟩ : S38)])) else (none)))
def spec_l2Put.j1 : Nat → List (S38) → List (S38) → Bool → Int → Int → Bool → Int → Int → Int → Int → Int → Option ((List (S38)))
 | 0, _, _, _, _, _, _, _, _, _, _, _ => none
 | k + 1, x0, x5, x6, x7, x8, x27, x469000, x469001, x469002, x469003, x469004 => if x27 = true then (if x5.length < 3518437208883 then ((some (x5 ++ [(⟨x469000, x469001, (⟨x469002, x469003⟩ : S36), x469004⟩ : S38)] : List (S38))).bind fun y477 => (if 0 ≤ x7 then (if x7 < (x0.length : Int) then (if y477.length < 3518437208883 then (spec_l2Put.l0 k x0 (y477 ++ [(⟨(rd_T38 x0 x7).f0, (rd_T38 x0 x7).f1, (⟨(rd_T38 x0 x7).f2.f0, (rd_T38 x0 x7).f2.f1⟩ : S36), (rd_T38 x0 x7).f3⟩ : S38)]) true (wrap64 (x7 + 1)) x469000 x469001 x469002 x469003 x469004) else (none)) else (none)) else (none))) else (none)) else (if x6 = true then (if 0 ≤ x7 then (if x7 < (x0.length : Int) then (if x5.length < 3518437208883 then (spec_l2Put.l0 k x0 (x5 ++ [(⟨(rd_T38 x0 x7).f0, (rd_T38 x0 x7).f1, (⟨(rd_T38 x0 x7).f2.f0, (rd_T38 x0 x7).f2.f1⟩ : S36), (rd_T38 x0 x7).f3⟩ : S38)]) x6 (wrap64 (x7 + 1)) x469000 x469001 x469002 x469003 x469004) else (none)) else (none)) else (none)) else (if x8 = 0 then (if 0 ≤ x7 then (if x7 < (x0.length : Int) then (if x5.length < 3518437208883 then (spec_l2Put.l0 k x0 (x5 ++ [(⟨x469000, x469001, (⟨x469002, x469003⟩ : S36), wrap64 (x469004 + ((rd_T38 x0 x7).f3))⟩ : S38)]) true (wrap64 (x7 + 1)) x469000 x469001 x469002 x469003 (wrap64 (x469004 + ((rd_T38 x0 x7).f3)))) else (none)) else (none)) else (none)) else (if 0 ≤ x7 then (if x7 < (x0.length : Int) then (if x5.length < 3518437208883 then (spec_l2Put.l0 k x0 (x5 ++ [(⟨(rd_T38 x0 x7).f0, (rd_T38 x0 x7).f1, (⟨(rd_T38 x0 x7).f2.f0, (rd_T38 x0 x7).f2.f1⟩ : S36), (rd_T38 x0 x7).f3⟩ : S38)]) x6 (wrap64 (x7 + 1)) x469000 x469001 x469002 x469003 x469004) else (none)) else (none)) else (none))))
end
def spec_l2Put.f (k : Nat) (l0 : List (S38)) (a1_0 : Int) (a1_1 : Int) (a1_2 : Int) (a1_3 : Int) (a1_4 : Int) : Option ((List (S38))) := spec_l2Put.l0 k l0 (([] : List (S38))) false 0 a1_0 a1_1 a1_2 a1_3 a1_4
def spec_l2Put.T11 : Bool × List (List Nat × List Nat) := (true, [([], []), ([0], [0]), ([], []), ([], []), ([2, 3], [2, 3]), ([4], [4]), ([5], [5]), ([1, 6], [1, 6]), ([0, 1, 2, 3, 4, 5, 6, 7], []), ([8, 7, 0, 1, 2, 3, 4, 5, 6, 7], [7, 8])])
def spec_l2Put.B11 : List Nat := [0, 1, 0, 0, 12, 28, 60, 127, 255, 511]
theorem spec_l2Put.tab11 : rtab .any (opsOf Try.f88 11) = spec_l2Put.T11:=by kernel_rfl
theorem spec_l2Put.bits11 : waitsOk spec_l2Put.T11.2 spec_l2Put.B11 = true:=by kernel_rfl
set_option maxHeartbeats 8000000 in
set_option maxRecDepth 100000 in
theorem spec_l2Put.calls (k : Nat) (A0 : Option Addr) (c0 : Nat) (l0 : List (S38)) (a1_0 : Int) (a1_1 : Int) (a1_2 : Int) (a1_3 : Int) (a1_4 : Int) (r : List (S38)) (w : World) (hr0 : Kd.C k38 w A0 l0.length l0) (hc0 : l0.length ≤ c0) (h : spec_l2Put.f k l0 a1_0 a1_1 a1_2 a1_3 a1_4 = some r) :
  Calls Try.prog 88 #[.slice A0 l0.length c0,.agg #[.int .i64 a1_0,.int .i64 a1_1,.int .i64 a1_2,.int .i64 a1_3,.int .i64 a1_4]] w fun e w'=>∃ v0_ : Value,e = .returned (v0_) ∧ Kd.R k38 38 w' w.heap.size (fun _=>True) v0_ r ∧ Below w.heap.size w w':=by
 have hu38:=Try.underlying38
 have HR0:=Aside0.mk hr0
 have HC0:=Aside0.mk hc0
 clear hr0 hc0
 have HB:=am (Below.refl w.heap.size w)
 have H : (spec_l2Put.l0 k l0 (([] : List (S38))) false 0 a1_0 a1_1 a1_2 a1_3 a1_4) = some r:=h
 clear h
 obtain ⟨y469,hy_⟩ : ∃ y_ : List (S38),y_ = (([] : List (S38))):=⟨_,rfl⟩
 replace H : (spec_l2Put.l0 k l0 y469 false 0 a1_0 a1_1 a1_2 a1_3 a1_4) = some r:=Q162
 have Ny469:=Aside0.mk hy_
 clear hy_
 have H':=Aside0.mk H
 clear H
 go_enter Try.func88,Try.ntmps88
 go_wp2_with (first|((with_reducible refine gate_dst (N:=3) rfl ?_);refine bE_ 3 #[.int .i64 a1_0,.int .i64 a1_1,.int .i64 a1_2,.int .i64 a1_3,.int .i64 a1_4] 38 ?_;intro gb468 hg w3 hbox hb;have BK468:=am (hbox);have GW468:=am ((Q173 : w.heap.size ≤ gb468));replace HB:=am (below_step Q80 hb);have GE468:=GW468;clear hb hbox hg)|((with_reducible refine gate_dst (N:=9) rfl ?_);refine Kd.R_lit k38 _ 38 ?hg (N:=9) ?hd (xs:=([] : List (S38))) (inner:=[]) (ok:=fun _=>True) (okp:=fun _=>True) ?hr ?hp (fun _ hk=>hk) trivial (Below.refl _ _) (Nat.le_refl _) (by simp) ?_;(case hd=>rfl);(case hg=>rfl);(case hr=>first|(go_simp;done)|(go_simp;rfl));(case hp=>exact (Reps.none _ _));intro v470 w4 ho5 hb hg_ hnew_;clear hg_ hnew_;(first|rw [← Ny469.out] at ho5|(simp only [Int.reduceToNat] at ho5;rw [← Ny469.out] at ho5));have HO471:=am (Kd.R_lower (Kd.R_newB ho5 (g:=gb468) (o:=.cells #[.int .i64 a1_0,.int .i64 a1_1,.int .i64 a1_2,.int .i64 a1_3,.int .i64 a1_4] 38 (0,0)) Q73) (below_size Q106));replace BK468:=am (blk_below (g:=gb468) (o:=.cells #[.int .i64 a1_0,.int .i64 a1_1,.int .i64 a1_2,.int .i64 a1_3,.int .i64 a1_4] 38 (0,0)) Q73 hb);replace HB:=am (below_step Q106 hb);clear hb ho5))
 go_loopg [5,6,7] k (fun kq v5 v6 v7 w'=>∃ (x5_1 : List (S38)) (x6_1 : Bool) (x7_1 : Int) (x469004_1 : Int),v6 = .bool x6_1 ∧ v7 = .int .i64 x7_1 ∧ Aside0 (spec_l2Put.l0 kq l0 x5_1 x6_1 x7_1 a1_0 a1_1 a1_2 a1_3 x469004_1 = some r) ∧ Aside0 (kq ≤ k) ∧ Aside0 (Kd.R k38 38 w' w.heap.size (fun k_=>k_ ≠ gb468) v5 x5_1) ∧ Aside0 (w'.heap[gb468]? = some (.cells #[.int .i64 a1_0,.int .i64 a1_1,.int .i64 a1_2,.int .i64 a1_3,.int .i64 x469004_1] 38 (0,0))) ∧ Aside0 (Below w.heap.size w w'))
 case atStart=>exact ⟨(y469),(false),(0),(a1_4),Q7,Q7,H',⟨Nat.le_refl _⟩,⟨by (with_reducible repeat (first|apply Kd.R_alloc|apply Kd.R_drewN|apply Kd.R_drew));exact Kd.R_mono HO471.out (fun _ hk=>hk.2)⟩,⟨Q73⟩,⟨Q106⟩⟩
 case round =>
  clear H'
  try clear p2
  obtain ⟨x5_1,x6_1,x7_1,x469004_1,rfl,rfl,HA,HK1,HO_5,BK468,HB⟩:=hrel
  cases gk with
  | zero=>exact absurd HA.out (by simp [spec_l2Put.l0])
  | succ k1 =>
   have H:=HA.out
   clear HA
   simp only [spec_l2Put.l0] at H
   by_cases c6 : x7_1 < (l0.length : Int)
   ·rw [if_pos c6] at H
    have c6b0 : decide (x7_1 < (l0.length : Int)) = true:=decide_eq_true c6
    clear c6
    have c7 : 0 ≤ x7_1:=nn_ H
    rw [if_pos c7] at H
    have c7b0 : decide (0 ≤ x7_1) = true:=decide_eq_true c7
    clear c7
    replace H:=Option.bind_eq_some_iff.mp H
    obtain ⟨t476,A80,H⟩:=H
    replace H : (if x6_1 = true then (spec_l2Put.j1 k1 l0 x5_1 x6_1 x7_1 t476 false a1_0 a1_1 a1_2 a1_3 x469004_1) else (spec_l2Put.j1 k1 l0 x5_1 x6_1 x7_1 t476 (decide (t476 > 0)) a1_0 a1_1 a1_2 a1_3 x469004_1)) = some r:=H
    have A8:=Aside0.mk A80
    clear A80
    have HC9:=Aside0.mk H
    clear H
    try go_wp2
    replace HO_5:=am (Kd.R_drew HO_5.out)
    replace BK468:=am (blk_drew BK468.out)
    replace HB:=am (below_drew1 HB.out)
    have p475 : 0 ≤ (x7_1 : Int):=of_decide_eq_true Q8
    have q475 : x7_1 < (l0.length : Int):=of_decide_eq_true Q8
    obtain ⟨ad475,e475,hx475_0,hx475_1,hx475_2,hx475_3,hx475_4⟩:=at_T38 HR0.out x7_1 p475 q475
    have hw475_4:=hx475_4
    have hw475_3:=hx475_3
    have hw475_2:=hx475_2
    have hw475_1:=hx475_1
    have hw475_0:=hx475_0
    cases e475
    replace hx475_0:=cb_ HB hx475_0
    replace hx475_1:=cb_ HB hx475_1
    replace hx475_2:=cb_ HB hx475_2
    replace hx475_3:=cb_ HB hx475_3
    replace hx475_4:=cb_ HB hx475_4
    replace p475:=eq_true p475
    replace q475:=eq_true q475
    refine start_ (n:=7) (S:=fun w'=>w'.cell? ⟨gb468,0,none⟩ = some (.int .i64 a1_0) ∧ w'.cell? ⟨gb468,1,none⟩ = some (.int .i64 a1_1) ∧ w'.cell? ⟨gb468,2,none⟩ = some (.int .i64 a1_2) ∧ w'.cell? ⟨gb468,3,none⟩ = some (.int .i64 a1_3) ∧ w'.cell? ⟨gb468,4,none⟩ = some (.int .i64 x469004_1) ∧ w'.cell? (ad475.add ((x7_1).toNat * 5)) = some (.int .i64 ((rd_T38 l0 x7_1).f0)) ∧ w'.cell? ⟨(ad475.add ((x7_1).toNat * 5)).block,(ad475.add ((x7_1).toNat * 5)).off + 1,none⟩ = some (.int .i64 ((rd_T38 l0 x7_1).f1)) ∧ w'.cell? ⟨(ad475.add ((x7_1).toNat * 5)).block,(ad475.add ((x7_1).toNat * 5)).off + 2,none⟩ = some (.int .i64 ((rd_T38 l0 x7_1).f2.f0)) ∧ w'.cell? ⟨(ad475.add ((x7_1).toNat * 5)).block,(ad475.add ((x7_1).toNat * 5)).off + 3,none⟩ = some (.int .i64 ((rd_T38 l0 x7_1).f2.f1)) ∧ w'.cell? ⟨(ad475.add ((x7_1).toNat * 5)).block,(ad475.add ((x7_1).toNat * 5)).off + 4,none⟩ = some (.int .i64 ((rd_T38 l0 x7_1).f3))) (ds:=[]) b7_0 Q1 rfl rfl ⟨(blk_cell BK468.out 0).trans rfl,(blk_cell BK468.out 1).trans rfl,(blk_cell BK468.out 2).trans rfl,(blk_cell BK468.out 3).trans rfl,(blk_cell BK468.out 4).trans rfl,(cb_ HB hw475_0:),(cb_ HB hw475_1:),(cb_ HB hw475_2:),(cb_ HB hw475_3:),(cb_ HB hw475_4:)⟩ (fun hHeld=>?_)
    generalize wr.drew = w10 at HO_5 BK468 HB hx475_0 hx475_1 hx475_2 hx475_3 hx475_4 hHeld ⊢
    refine pU_ 0 16 b7_1 ?_
    refine pU_ 1 17 b7_2 ?_
    refine pU_ 2 18 b7_3 ?_
    refine tU_ 3 19 b7_4 hHeld ?_
    refine tU_ 4 20 b7_5 hHeld ?_
    refine one_ (i:=5) (N:=some 21) b7_6 rfl rfl Q1 Q0 (fun K hK=>?_)
    refine goes_ Try.func71 Q1 rfl #[.agg #[.int .i64 ((rd_T38 l0 x7_1).f0),.int .i64 ((rd_T38 l0 x7_1).f1),.int .i64 ((rd_T38 l0 x7_1).f2.f0),.int .i64 ((rd_T38 l0 x7_1).f2.f1),.int .i64 ((rd_T38 l0 x7_1).f3)],.agg #[.int .i64 a1_0,.int .i64 a1_1,.int .i64 a1_2,.int .i64 a1_3,.int .i64 x469004_1]] (by rfl) rfl rfl Q84 ?_
    with_reducible refine (spec_l2Comp.calls k1 ((rd_T38 l0 x7_1).f0) ((rd_T38 l0 x7_1).f1) ((rd_T38 l0 x7_1).f2.f0) ((rd_T38 l0 x7_1).f2.f1) ((rd_T38 l0 x7_1).f3) a1_0 a1_1 a1_2 a1_3 x469004_1 t476 _ A8.out).mono ?_
    rintro e w11 ⟨rfl,hb⟩
    refine ⟨_,rfl,?_⟩
    replace HO_5:=am (Kd.R_below Q21 hb)
    replace BK468:=am (blk_below (g:=gb468) (o:=.cells #[.int .i64 a1_0,.int .i64 a1_1,.int .i64 a1_2,.int .i64 a1_3,.int .i64 x469004_1] 38 (0,0)) Q73 hb)
    replace HB:=am (below_step Q106 hb)
    (try clear hb)
    (try clear hb2)
    (try clear hk)
    (try clear hi)
    refine hK.out _ _ ⟨(blk_cell BK468.out 0).trans rfl,(blk_cell BK468.out 1).trans rfl,(blk_cell BK468.out 2).trans rfl,(blk_cell BK468.out 3).trans rfl,(blk_cell BK468.out 4).trans rfl,(cb_ HB hw475_0:),(cb_ HB hw475_1:),(cb_ HB hw475_2:),(cb_ HB hw475_3:),(cb_ HB hw475_4:)⟩ (fun hHeld=>?_)
    clear hK K
    refine norm_ (a':=?_) ?_ ?_
    rotate_left
    ·show Act.put _ (some 21) _ = _
     simp only [Act.put,sA_,sZ_,sS_,i64_w,i32_w]
     rfl
    refine pU_ 6 8 b7_7 ?_
    refine done_ Q1 ?_
    go_upto_region 7 with (fail)
    go_cut [27] (fun v27 wc=>∃ (kq : Nat) (x27_8 : Bool),v27 = .bool x27_8 ∧ Aside0 (spec_l2Put.j1 kq l0 x5_1 x6_1 x7_1 t476 x27_8 a1_0 a1_1 a1_2 a1_3 x469004_1 = some r) ∧ Aside0 (kq ≤ k1) ∧ Aside0 (Kd.R k38 38 wc w.heap.size (fun k_=>k_ ≠ gb468) u5 x5_1) ∧ Aside0 (wc.heap[gb468]? = some (.cells #[.int .i64 a1_0,.int .i64 a1_1,.int .i64 a1_2,.int .i64 a1_3,.int .i64 x469004_1] 38 (0,0))) ∧ Aside0 (Below w.heap.size w wc))
    case first =>
     have H:=HC9.out
     clear HC9
     by_cases c12 : x6_1 = true
     ·subst c12
      have H1 : (spec_l2Put.j1 k1 l0 x5_1 true x7_1 t476 false a1_0 a1_1 a1_2 a1_3 x469004_1) = some r:=by rw [if_pos rfl] at H;exact H
      clear H
      have H:=H1
      clear H1
      have H':=Aside0.mk H
      clear H
      go_wp2
      go_meet
      case rel=>exact ⟨_,(false),Q7,H',⟨Q9⟩,⟨Q21⟩,⟨Q73⟩,⟨Q106⟩⟩
     ·replace c12:=Bool.eq_false_iff.mpr c12
      subst c12
      have H1 : (spec_l2Put.j1 k1 l0 x5_1 false x7_1 t476 (decide (t476 > 0)) a1_0 a1_1 a1_2 a1_3 x469004_1) = some r:=by rw [if_neg (show ¬ (false = true) by decide)] at H;exact H
      clear H
      have H:=H1
      clear H1
      have H':=Aside0.mk H
      clear H
      go_wp2
      go_meet
      case rel=>exact ⟨_,(decide (t476 > 0)),Q7,H',⟨Q9⟩,⟨Q21⟩,⟨Q73⟩,⟨Q106⟩⟩
    case rest =>
     clear HC9
     try clear c1
     try clear p2
     try clear p4
     try clear q4
     try clear hx4
     try clear c6
     try clear c6b0
     try clear c7
     try clear c7b0
     try clear c8
     try clear c12
     try clear hx475_0
     try clear hx475_1
     try clear hx475_2
     try clear hx475_3
     try clear hx475_4
     try clear p2
     try clear p475
     try clear q475
     obtain ⟨kq,x27_8,rfl,HA,HJ8,HO_5,BK468,HB⟩:=hcut
     cases kq with
     | zero=>exact absurd HA.out (by simp [spec_l2Put.j1])
     | succ kj8 =>
      have H:=HA.out
      clear HA
      simp only [spec_l2Put.j1] at H
      by_cases c13 : x27_8 = true
      ·subst c13
       have H1 : (if x5_1.length < 3518437208883 then ((some (x5_1 ++ [(⟨a1_0,a1_1,(⟨a1_2,a1_3⟩ : S36),x469004_1⟩ : S38)] : List (S38))).bind fun y477=>(if 0 ≤ x7_1 then (if x7_1 < (l0.length : Int) then (if y477.length < 3518437208883 then (spec_l2Put.l0 kj8 l0 (y477 ++ [(⟨(rd_T38 l0 x7_1).f0,(rd_T38 l0 x7_1).f1,(⟨(rd_T38 l0 x7_1).f2.f0,(rd_T38 l0 x7_1).f2.f1⟩ : S36),(rd_T38 l0 x7_1).f3⟩ : S38)]) true (wrap64 (x7_1 + 1)) a1_0 a1_1 a1_2 a1_3 x469004_1) else (none)) else (none)) else (none))) else (none)) = some r:=by rw [if_pos rfl] at H;exact H
       clear H
       have H:=H1
       clear H1
       have c14 : x5_1.length < 3518437208883:=nn_ H
       rw [if_pos c14] at H
       have LMc14:=Aside0.mk c14
       clear c14
       obtain ⟨y477,hy_⟩ : ∃ y_ : List (S38),y_ = (x5_1 ++ [(⟨a1_0,a1_1,(⟨a1_2,a1_3⟩ : S36),x469004_1⟩ : S38)]):=⟨_,rfl⟩
       replace H : (if 0 ≤ x7_1 then (if x7_1 < (l0.length : Int) then (if y477.length < 3518437208883 then (spec_l2Put.l0 kj8 l0 (y477 ++ [(⟨(rd_T38 l0 x7_1).f0,(rd_T38 l0 x7_1).f1,(⟨(rd_T38 l0 x7_1).f2.f0,(rd_T38 l0 x7_1).f2.f1⟩ : S36),(rd_T38 l0 x7_1).f3⟩ : S38)]) true (wrap64 (x7_1 + 1)) a1_0 a1_1 a1_2 a1_3 x469004_1) else (none)) else (none)) else (none)) = some r:=Q162
       have Ny477:=Aside0.mk hy_
       clear hy_
       have c15 : 0 ≤ x7_1:=nn_ H
       rw [if_pos c15] at H
       have c15b0 : decide (0 ≤ x7_1) = true:=decide_eq_true c15
       clear c15
       have c16 : x7_1 < (l0.length : Int):=nn_ H
       rw [if_pos c16] at H
       have c16b0 : decide (x7_1 < (l0.length : Int)) = true:=decide_eq_true c16
       clear c16
       have c17 : y477.length < 3518437208883:=nn_ H
       rw [if_pos c17] at H
       have LMc17:=Aside0.mk c17
       clear c17
       obtain ⟨y481,hy_⟩ : ∃ y_ : List (S38),y_ = (y477 ++ [(⟨(rd_T38 l0 x7_1).f0,(rd_T38 l0 x7_1).f1,(⟨(rd_T38 l0 x7_1).f2.f0,(rd_T38 l0 x7_1).f2.f1⟩ : S36),(rd_T38 l0 x7_1).f3⟩ : S38)]):=⟨_,rfl⟩
       replace H : (spec_l2Put.l0 kj8 l0 y481 true (wrap64 (x7_1 + 1)) a1_0 a1_1 a1_2 a1_3 x469004_1) = some r:=Q162
       have Ny481:=Aside0.mk hy_
       clear hy_
       have H':=Aside0.mk H
       clear H
       have hcz18_0 : wc.cell? ⟨gb468,0,none⟩ = some (.int .i64 a1_0):=(blk_cell BK468.out 0).trans rfl
       have hcz18_1 : wc.cell? ⟨gb468,1,none⟩ = some (.int .i64 a1_1):=(blk_cell BK468.out 1).trans rfl
       have hcz18_2 : wc.cell? ⟨gb468,2,none⟩ = some (.int .i64 a1_2):=(blk_cell BK468.out 2).trans rfl
       have hcz18_3 : wc.cell? ⟨gb468,3,none⟩ = some (.int .i64 a1_3):=(blk_cell BK468.out 3).trans rfl
       have hcz18_4 : wc.cell? ⟨gb468,4,none⟩ = some (.int .i64 x469004_1):=(blk_cell BK468.out 4).trans rfl
       have hfz18_0:=blk_frozen BK468.out 0
       have hfz18_1:=blk_frozen BK468.out 1
       have hfz18_2:=blk_frozen BK468.out 2
       have hfz18_3:=blk_frozen BK468.out 3
       have hfz18_4:=blk_frozen BK468.out 4
       go_wp2_with (first|((with_reducible refine gate_builtin (b:=.append) (xs:=#[.tmp 28,.tmp 30]) rfl ?_);at_builtin;refine Kd.R_append k38 (w0:=w) w.heap.size rfl (.tmp 28) (.tmp 30) 23 38 (.agg #[(.int .i64 0),(.int .i64 0),(.int .i64 0),(.int .i64 0),(.int .i64 0)]) 40 rfl Try.underlying23 info38 rfl Q0 (by omega) u5 x5_1 (⟨a1_0,a1_1,(⟨a1_2,a1_3⟩ : S36),x469004_1⟩ : S38) [.int .i64 a1_0,.int .i64 a1_1,.int .i64 a1_2,.int .i64 a1_3,.int .i64 x469004_1] (fun k_=>k_ ≠ gb468) (fun _=>False) rfl rfl ?aP (fun _ hk=>hk.elim) ?aF ?aO ?aB ?aS ?aL ?_;(case aP=>exact k38_mkM _ _ _ (⟨a1_0,a1_1,(⟨a1_2,a1_3⟩ : S36),x469004_1⟩ : S38));(case aB=>exact Q106);(case aF=>exact (fun k_ hk=>Kd.freshB (g:=gb468) (o:=.cells #[.int .i64 a1_0,.int .i64 a1_1,.int .i64 a1_2,.int .i64 a1_3,.int .i64 x469004_1] 38 (0,0)) Q73 k_ hk));(case aO=>exact Q21);(case aS=>exact (below_size Q106));(case aL=>have:=LMc14.out;omega);intro v478 w19 ho hb hg hat;rw [← Ny477.out] at ho;replace BK468:=am (blk_grown (g:=gb468) (o:=.cells #[.int .i64 a1_0,.int .i64 a1_1,.int .i64 a1_2,.int .i64 a1_3,.int .i64 x469004_1] 38 (0,0)) Q73 hg (Kd.R_away HO_5.out (fun _ hk=>hk)));replace HB:=am (hb);have HO479:=am (ho);clear HO_5;clear ho hb hg hat;have p480 : 0 ≤ (x7_1 : Int):=of_decide_eq_true Q8;have q480 : x7_1 < (l0.length : Int):=of_decide_eq_true Q8;obtain ⟨ad480,e480,hx480_0,hx480_1,hx480_2,hx480_3,hx480_4⟩:=at_T38 HR0.out x7_1 p480 q480;obtain rfl : ad475 = ad480:=(by injection e480);replace hx480_0:=cb_ HB hx480_0;replace hx480_1:=cb_ HB hx480_1;replace hx480_2:=cb_ HB hx480_2;replace hx480_3:=cb_ HB hx480_3;replace hx480_4:=cb_ HB hx480_4;replace p480:=eq_true p480;replace q480:=eq_true q480)|((with_reducible refine gate_builtin (b:=.append) (xs:=#[.tmp 51,.tmp 56]) rfl ?_);at_builtin;refine Kd.R_append k38 (w0:=w) w.heap.size rfl (.tmp 51) (.tmp 56) 23 38 (.agg #[(.int .i64 0),(.int .i64 0),(.int .i64 0),(.int .i64 0),(.int .i64 0)]) 40 rfl Try.underlying23 info38 rfl Q0 (by omega) v478 y477 (⟨(rd_T38 l0 x7_1).f0,(rd_T38 l0 x7_1).f1,(⟨(rd_T38 l0 x7_1).f2.f0,(rd_T38 l0 x7_1).f2.f1⟩ : S36),(rd_T38 l0 x7_1).f3⟩ : S38) [.int .i64 ((rd_T38 l0 x7_1).f0),.int .i64 ((rd_T38 l0 x7_1).f1),.int .i64 ((rd_T38 l0 x7_1).f2.f0),.int .i64 ((rd_T38 l0 x7_1).f2.f1),.int .i64 ((rd_T38 l0 x7_1).f3)] (fun k_=>k_ ≠ gb468) (fun _=>False) rfl rfl ?aP (fun _ hk=>hk.elim) ?aF ?aO ?aB ?aS ?aL ?_;(case aP=>exact k38_mkM _ _ _ (⟨(rd_T38 l0 x7_1).f0,(rd_T38 l0 x7_1).f1,(⟨(rd_T38 l0 x7_1).f2.f0,(rd_T38 l0 x7_1).f2.f1⟩ : S36),(rd_T38 l0 x7_1).f3⟩ : S38));(case aB=>exact Q106);(case aF=>exact (fun k_ hk=>Kd.freshB (g:=gb468) (o:=.cells #[.int .i64 a1_0,.int .i64 a1_1,.int .i64 a1_2,.int .i64 a1_3,.int .i64 x469004_1] 38 (0,0)) Q73 k_ hk));(case aO=>exact (by (with_reducible repeat (first|apply Kd.R_alloc|apply Kd.R_drewN|apply Kd.R_drew));exact HO479.out));(case aS=>exact (below_size Q106));(case aL=>have:=LMc17.out;omega);intro v482 w20 ho hb hg hat;rw [← Ny481.out] at ho;replace BK468:=am (blk_grown (g:=gb468) (o:=.cells #[.int .i64 a1_0,.int .i64 a1_1,.int .i64 a1_2,.int .i64 a1_3,.int .i64 x469004_1] 38 (0,0)) Q73 hg (Kd.R_away HO479.out (fun _ hk=>hk)));replace HB:=am (hb);have HO483:=am (ho);clear HO479;clear ho hb hg hat))
       go_roundg kj8
       case measure=>have:=HK1.out;have:=HJ8.out;omega
       case rel=>exact ⟨(y481),(true),(wrap64 (x7_1 + 1)),(x469004_1),Q7,Q7,H',⟨Q5⟩,⟨by (with_reducible repeat (first|apply Kd.R_alloc|apply Kd.R_drewN|apply Kd.R_drew));exact HO483.out⟩,⟨Q73⟩,⟨Q106⟩⟩
      ·replace c13:=Bool.eq_false_iff.mpr c13
       subst c13
       have H1 : (if x6_1 = true then (if 0 ≤ x7_1 then (if x7_1 < (l0.length : Int) then (if x5_1.length < 3518437208883 then (spec_l2Put.l0 kj8 l0 (x5_1 ++ [(⟨(rd_T38 l0 x7_1).f0,(rd_T38 l0 x7_1).f1,(⟨(rd_T38 l0 x7_1).f2.f0,(rd_T38 l0 x7_1).f2.f1⟩ : S36),(rd_T38 l0 x7_1).f3⟩ : S38)]) x6_1 (wrap64 (x7_1 + 1)) a1_0 a1_1 a1_2 a1_3 x469004_1) else (none)) else (none)) else (none)) else (if t476 = 0 then (if 0 ≤ x7_1 then (if x7_1 < (l0.length : Int) then (if x5_1.length < 3518437208883 then (spec_l2Put.l0 kj8 l0 (x5_1 ++ [(⟨a1_0,a1_1,(⟨a1_2,a1_3⟩ : S36),wrap64 (x469004_1 + ((rd_T38 l0 x7_1).f3))⟩ : S38)]) true (wrap64 (x7_1 + 1)) a1_0 a1_1 a1_2 a1_3 (wrap64 (x469004_1 + ((rd_T38 l0 x7_1).f3)))) else (none)) else (none)) else (none)) else (if 0 ≤ x7_1 then (if x7_1 < (l0.length : Int) then (if x5_1.length < 3518437208883 then (spec_l2Put.l0 kj8 l0 (x5_1 ++ [(⟨(rd_T38 l0 x7_1).f0,(rd_T38 l0 x7_1).f1,(⟨(rd_T38 l0 x7_1).f2.f0,(rd_T38 l0 x7_1).f2.f1⟩ : S36),(rd_T38 l0 x7_1).f3⟩ : S38)]) x6_1 (wrap64 (x7_1 + 1)) a1_0 a1_1 a1_2 a1_3 x469004_1) else (none)) else (none)) else (none)))) = some r:=by rw [if_neg (show ¬ (false = true) by decide)] at H;exact H
       clear H
       have H:=H1
       clear H1
       by_cases c21 : x6_1 = true
       ·subst c21
        have H1 : (if 0 ≤ x7_1 then (if x7_1 < (l0.length : Int) then (if x5_1.length < 3518437208883 then (spec_l2Put.l0 kj8 l0 (x5_1 ++ [(⟨(rd_T38 l0 x7_1).f0,(rd_T38 l0 x7_1).f1,(⟨(rd_T38 l0 x7_1).f2.f0,(rd_T38 l0 x7_1).f2.f1⟩ : S36),(rd_T38 l0 x7_1).f3⟩ : S38)]) true (wrap64 (x7_1 + 1)) a1_0 a1_1 a1_2 a1_3 x469004_1) else (none)) else (none)) else (none)) = some r:=by rw [if_pos rfl] at H;exact H
        clear H
        have H:=H1
        clear H1
        have c22 : 0 ≤ x7_1:=nn_ H
        rw [if_pos c22] at H
        have c22b0 : decide (0 ≤ x7_1) = true:=decide_eq_true c22
        clear c22
        have c23 : x7_1 < (l0.length : Int):=nn_ H
        rw [if_pos c23] at H
        have c23b0 : decide (x7_1 < (l0.length : Int)) = true:=decide_eq_true c23
        clear c23
        have c24 : x5_1.length < 3518437208883:=nn_ H
        rw [if_pos c24] at H
        have LMc24:=Aside0.mk c24
        clear c24
        obtain ⟨y485,hy_⟩ : ∃ y_ : List (S38),y_ = (x5_1 ++ [(⟨(rd_T38 l0 x7_1).f0,(rd_T38 l0 x7_1).f1,(⟨(rd_T38 l0 x7_1).f2.f0,(rd_T38 l0 x7_1).f2.f1⟩ : S36),(rd_T38 l0 x7_1).f3⟩ : S38)]):=⟨_,rfl⟩
        replace H : (spec_l2Put.l0 kj8 l0 y485 true (wrap64 (x7_1 + 1)) a1_0 a1_1 a1_2 a1_3 x469004_1) = some r:=Q162
        have Ny485:=Aside0.mk hy_
        clear hy_
        have H':=Aside0.mk H
        clear H
        have p484 : 0 ≤ (x7_1 : Int):=of_decide_eq_true Q8
        have q484 : x7_1 < (l0.length : Int):=of_decide_eq_true Q8
        obtain ⟨ad484,e484,hx484_0,hx484_1,hx484_2,hx484_3,hx484_4⟩:=at_T38 HR0.out x7_1 p484 q484
        obtain rfl : ad475 = ad484:=(by injection e484)
        replace hx484_0:=cb_ HB hx484_0
        replace hx484_1:=cb_ HB hx484_1
        replace hx484_2:=cb_ HB hx484_2
        replace hx484_3:=cb_ HB hx484_3
        replace hx484_4:=cb_ HB hx484_4
        replace p484:=eq_true p484
        replace q484:=eq_true q484
        go_wp2_with (first|((with_reducible refine gate_builtin (b:=.append) (xs:=#[.tmp 51,.tmp 56]) rfl ?_);at_builtin;refine Kd.R_append k38 (w0:=w) w.heap.size rfl (.tmp 51) (.tmp 56) 23 38 (.agg #[(.int .i64 0),(.int .i64 0),(.int .i64 0),(.int .i64 0),(.int .i64 0)]) 40 rfl Try.underlying23 info38 rfl Q0 (by omega) u5 x5_1 (⟨(rd_T38 l0 x7_1).f0,(rd_T38 l0 x7_1).f1,(⟨(rd_T38 l0 x7_1).f2.f0,(rd_T38 l0 x7_1).f2.f1⟩ : S36),(rd_T38 l0 x7_1).f3⟩ : S38) [.int .i64 ((rd_T38 l0 x7_1).f0),.int .i64 ((rd_T38 l0 x7_1).f1),.int .i64 ((rd_T38 l0 x7_1).f2.f0),.int .i64 ((rd_T38 l0 x7_1).f2.f1),.int .i64 ((rd_T38 l0 x7_1).f3)] (fun k_=>k_ ≠ gb468) (fun _=>False) rfl rfl ?aP (fun _ hk=>hk.elim) ?aF ?aO ?aB ?aS ?aL ?_;(case aP=>exact k38_mkM _ _ _ (⟨(rd_T38 l0 x7_1).f0,(rd_T38 l0 x7_1).f1,(⟨(rd_T38 l0 x7_1).f2.f0,(rd_T38 l0 x7_1).f2.f1⟩ : S36),(rd_T38 l0 x7_1).f3⟩ : S38));(case aB=>exact Q106);(case aF=>exact (fun k_ hk=>Kd.freshB (g:=gb468) (o:=.cells #[.int .i64 a1_0,.int .i64 a1_1,.int .i64 a1_2,.int .i64 a1_3,.int .i64 x469004_1] 38 (0,0)) Q73 k_ hk));(case aO=>exact Q21);(case aS=>exact (below_size Q106));(case aL=>have:=LMc24.out;omega);intro v486 w25 ho hb hg hat;rw [← Ny485.out] at ho;replace BK468:=am (blk_grown (g:=gb468) (o:=.cells #[.int .i64 a1_0,.int .i64 a1_1,.int .i64 a1_2,.int .i64 a1_3,.int .i64 x469004_1] 38 (0,0)) Q73 hg (Kd.R_away HO_5.out (fun _ hk=>hk)));replace HB:=am (hb);have HO487:=am (ho);clear HO_5;clear ho hb hg hat))
        go_roundg kj8
        case measure=>have:=HK1.out;have:=HJ8.out;omega
        case rel=>exact ⟨(y485),(true),(wrap64 (x7_1 + 1)),(x469004_1),Q7,Q7,H',⟨Q5⟩,⟨by (with_reducible repeat (first|apply Kd.R_alloc|apply Kd.R_drewN|apply Kd.R_drew));exact HO487.out⟩,⟨Q73⟩,⟨Q106⟩⟩
       ·replace c21:=Bool.eq_false_iff.mpr c21
        subst c21
        have H1 : (if t476 = 0 then (if 0 ≤ x7_1 then (if x7_1 < (l0.length : Int) then (if x5_1.length < 3518437208883 then (spec_l2Put.l0 kj8 l0 (x5_1 ++ [(⟨a1_0,a1_1,(⟨a1_2,a1_3⟩ : S36),wrap64 (x469004_1 + ((rd_T38 l0 x7_1).f3))⟩ : S38)]) true (wrap64 (x7_1 + 1)) a1_0 a1_1 a1_2 a1_3 (wrap64 (x469004_1 + ((rd_T38 l0 x7_1).f3)))) else (none)) else (none)) else (none)) else (if 0 ≤ x7_1 then (if x7_1 < (l0.length : Int) then (if x5_1.length < 3518437208883 then (spec_l2Put.l0 kj8 l0 (x5_1 ++ [(⟨(rd_T38 l0 x7_1).f0,(rd_T38 l0 x7_1).f1,(⟨(rd_T38 l0 x7_1).f2.f0,(rd_T38 l0 x7_1).f2.f1⟩ : S36),(rd_T38 l0 x7_1).f3⟩ : S38)]) false (wrap64 (x7_1 + 1)) a1_0 a1_1 a1_2 a1_3 x469004_1) else (none)) else (none)) else (none))) = some r:=by rw [if_neg (show ¬ (false = true) by decide)] at H;exact H
        clear H
        have H:=H1
        clear H1
        by_cases c26 : t476 = 0
        ·rw [if_pos c26] at H
         have c26b0 : (t476 == 0) = true:=beq_iff_eq.mpr c26
         have c26b1 : (t476 != 0) = false:=bne_eq_false_iff_eq.mpr c26
         clear c26
         have c27 : 0 ≤ x7_1:=nn_ H
         rw [if_pos c27] at H
         have c27b0 : decide (0 ≤ x7_1) = true:=decide_eq_true c27
         clear c27
         have c28 : x7_1 < (l0.length : Int):=nn_ H
         rw [if_pos c28] at H
         have c28b0 : decide (x7_1 < (l0.length : Int)) = true:=decide_eq_true c28
         clear c28
         have c29 : x5_1.length < 3518437208883:=nn_ H
         rw [if_pos c29] at H
         have LMc29:=Aside0.mk c29
         clear c29
         obtain ⟨y489,hy_⟩ : ∃ y_ : List (S38),y_ = (x5_1 ++ [(⟨a1_0,a1_1,(⟨a1_2,a1_3⟩ : S36),wrap64 (x469004_1 + ((rd_T38 l0 x7_1).f3))⟩ : S38)]):=⟨_,rfl⟩
         replace H : (spec_l2Put.l0 kj8 l0 y489 true (wrap64 (x7_1 + 1)) a1_0 a1_1 a1_2 a1_3 (wrap64 (x469004_1 + ((rd_T38 l0 x7_1).f3)))) = some r:=Q162
         have Ny489:=Aside0.mk hy_
         clear hy_
         have H':=Aside0.mk H
         clear H
         try go_wp2
         replace HO_5:=am (Kd.R_drew HO_5.out)
         replace BK468:=am (blk_drew BK468.out)
         replace HB:=am (below_drew1 HB.out)
         have p488 : 0 ≤ (x7_1 : Int):=of_decide_eq_true Q8
         have q488 : x7_1 < (l0.length : Int):=of_decide_eq_true Q8
         obtain ⟨ad488,e488,hx488_0,hx488_1,hx488_2,hx488_3,hx488_4⟩:=at_T38 HR0.out x7_1 p488 q488
         have hw488_4:=hx488_4
         have hw488_3:=hx488_3
         have hw488_2:=hx488_2
         have hw488_1:=hx488_1
         have hw488_0:=hx488_0
         obtain rfl : ad475 = ad488:=(by injection e488)
         replace hx488_0:=cb_ HB hx488_0
         replace hx488_1:=cb_ HB hx488_1
         replace hx488_2:=cb_ HB hx488_2
         replace hx488_3:=cb_ HB hx488_3
         replace hx488_4:=cb_ HB hx488_4
         replace p488:=eq_true p488
         replace q488:=eq_true q488
         refine start_ (n:=10) (S:=fun w'=>w'.cell? ⟨gb468,0,none⟩ = some (.int .i64 a1_0) ∧ w'.cell? ⟨gb468,1,none⟩ = some (.int .i64 a1_1) ∧ w'.cell? ⟨gb468,2,none⟩ = some (.int .i64 a1_2) ∧ w'.cell? ⟨gb468,3,none⟩ = some (.int .i64 a1_3) ∧ w'.cell? ⟨gb468,4,none⟩ = some (.int .i64 x469004_1) ∧ w'.cell? (ad475.add ((x7_1).toNat * 5)) = some (.int .i64 ((rd_T38 l0 x7_1).f0)) ∧ w'.cell? ⟨(ad475.add ((x7_1).toNat * 5)).block,(ad475.add ((x7_1).toNat * 5)).off + 1,none⟩ = some (.int .i64 ((rd_T38 l0 x7_1).f1)) ∧ w'.cell? ⟨(ad475.add ((x7_1).toNat * 5)).block,(ad475.add ((x7_1).toNat * 5)).off + 2,none⟩ = some (.int .i64 ((rd_T38 l0 x7_1).f2.f0)) ∧ w'.cell? ⟨(ad475.add ((x7_1).toNat * 5)).block,(ad475.add ((x7_1).toNat * 5)).off + 3,none⟩ = some (.int .i64 ((rd_T38 l0 x7_1).f2.f1)) ∧ w'.cell? ⟨(ad475.add ((x7_1).toNat * 5)).block,(ad475.add ((x7_1).toNat * 5)).off + 4,none⟩ = some (.int .i64 ((rd_T38 l0 x7_1).f3))) (ds:=[9]) b10_0 Q1 rfl rfl ⟨(blk_cell BK468.out 0).trans rfl,(blk_cell BK468.out 1).trans rfl,(blk_cell BK468.out 2).trans rfl,(blk_cell BK468.out 3).trans rfl,(blk_cell BK468.out 4).trans rfl,(cb_ HB hw488_0:),(cb_ HB hw488_1:),(cb_ HB hw488_2:),(cb_ HB hw488_3:),(cb_ HB hw488_4:)⟩ (fun hHeld=>?_);refine with_tabW spec_l2Put.tab11 spec_l2Put.bits11 (fun HT_ HW_=>?_)
         generalize wc.drew = w30 at HO_5 BK468 HB hx488_0 hx488_1 hx488_2 hx488_3 hx488_4 hHeld ⊢
         refine pU_ 0 38 b10_1 ?_
         refine pU_ 2 40 c177 ?_
         refine pU_ 3 41 c178 ?_
         refine pU_ 4 42 c179 ?_
         refine pU_ 5 43 c180 ?_
         refine tU_ 1 39 b10_6 hHeld ?_
         refine tU_ 6 44 b10_7 hHeld ?_
         refine pU_ 7 45 b10_8 ?_
         refine pU_ 8 46 b10_9 ?_
         refine last_ (i:=9) (N:=none) b10_10 rfl rfl (one_of HT_.out Q1) Q0 (fun K hK=>?_)
         have hs31 : w30.cell? ⟨gb468,4,none⟩ = some (.int .i64 x469004_1):=(blk_cell BK468.out 4).trans rfl
         have hfs31:=blk_frozen BK468.out 4
         refine skip_ (w1:=?_) (by rfl) rfl ?_ ?_
         rotate_left
         ·go_simp
          rfl
         refine hK.out _ _ ?_
         clear hK K
         refine done_ (done_of HT_.out Q1) ?_
         have hcz32_0 : w30.cell? ⟨gb468,0,none⟩ = some (.int .i64 a1_0):=(blk_cell BK468.out 0).trans rfl
         have hcz32_1 : w30.cell? ⟨gb468,1,none⟩ = some (.int .i64 a1_1):=(blk_cell BK468.out 1).trans rfl
         have hcz32_2 : w30.cell? ⟨gb468,2,none⟩ = some (.int .i64 a1_2):=(blk_cell BK468.out 2).trans rfl
         have hcz32_3 : w30.cell? ⟨gb468,3,none⟩ = some (.int .i64 a1_3):=(blk_cell BK468.out 3).trans rfl
         have hcz32_4 : w30.cell? ⟨gb468,4,none⟩ = some (.int .i64 x469004_1):=(blk_cell BK468.out 4).trans rfl
         have hfz32_0:=blk_frozen BK468.out 0
         have hfz32_1:=blk_frozen BK468.out 1
         have hfz32_2:=blk_frozen BK468.out 2
         have hfz32_3:=blk_frozen BK468.out 3
         have hfz32_4:=blk_frozen BK468.out 4
         try go_wp2_with (first|((with_reducible refine gate_builtin (b:=.append) (xs:=#[.tmp 47,.tmp 49]) rfl ?_);at_builtin;refine Kd.R_append k38 (w0:=w) w.heap.size rfl (.tmp 47) (.tmp 49) 23 38 (.agg #[(.int .i64 0),(.int .i64 0),(.int .i64 0),(.int .i64 0),(.int .i64 0)]) 40 rfl Try.underlying23 info38 rfl Q0 (by omega) u5 x5_1 (⟨a1_0,a1_1,(⟨a1_2,a1_3⟩ : S36),wrap64 (x469004_1 + ((rd_T38 l0 x7_1).f3))⟩ : S38) [.int .i64 a1_0,.int .i64 a1_1,.int .i64 a1_2,.int .i64 a1_3,.int .i64 (wrap64 (x469004_1 + ((rd_T38 l0 x7_1).f3)))] (fun k_=>k_ ≠ gb468) (fun _=>False) rfl (by first|(go_simp;done)|(go_simp;rfl)) ?aP (fun _ hk=>hk.elim) ?aF ?aO ?aB ?aS ?aL ?_;(case aP=>exact k38_mkM _ _ _ (⟨a1_0,a1_1,(⟨a1_2,a1_3⟩ : S36),wrap64 (x469004_1 + ((rd_T38 l0 x7_1).f3))⟩ : S38));(case aB=>exact Q106);(case aF=>exact (fun k_ hk=>Kd.freshB (g:=gb468) (o:=.cells #[.int .i64 a1_0,.int .i64 a1_1,.int .i64 a1_2,.int .i64 a1_3,.int .i64 (wrap64 (x469004_1 + ((rd_T38 l0 x7_1).f3)))] 38 (0,0)) (by (with_reducible repeat (first|refine blk_drewN ?_ _|refine blk_drew ?_|refine blk_alloc ?_ _));refine blk_put (cs:=#[.int .i64 a1_0,.int .i64 a1_1,.int .i64 a1_2,.int .i64 a1_3,.int .i64 x469004_1]) ?_ 4 _ rfl;(with_reducible repeat (first|refine blk_drewN ?_ _|refine blk_drew ?_|refine blk_alloc ?_ _));exact BK468.out) k_ hk));(case aO=>exact (by (with_reducible repeat (first|apply Kd.R_alloc|apply Kd.R_drewN|apply Kd.R_drew));exact Kd.R_mono (Kd.R_far (p:=⟨gb468,4,none⟩) (Kd.R_mono HO_5.out (fun k_ hk=>(⟨hk,hk⟩ : _ ∧ k_ ≠ gb468))) (fun _ hk=>hk.2) (.int .i64 (wrap64 (x469004_1 + ((rd_T38 l0 x7_1).f3))))) (fun _ hk=>hk.1)));(case aS=>exact (below_size Q106));(case aL=>have:=LMc29.out;omega);intro v490 w33 ho hb hg hat;rw [← Ny489.out] at ho;replace BK468:=am (blk_grown (g:=gb468) (o:=.cells #[.int .i64 a1_0,.int .i64 a1_1,.int .i64 a1_2,.int .i64 a1_3,.int .i64 (wrap64 (x469004_1 + ((rd_T38 l0 x7_1).f3)))] 38 (0,0)) (by (with_reducible repeat (first|refine blk_drewN ?_ _|refine blk_drew ?_|refine blk_alloc ?_ _));refine blk_put (cs:=#[.int .i64 a1_0,.int .i64 a1_1,.int .i64 a1_2,.int .i64 a1_3,.int .i64 x469004_1]) ?_ 4 _ rfl;(with_reducible repeat (first|refine blk_drewN ?_ _|refine blk_drew ?_|refine blk_alloc ?_ _));exact BK468.out) hg (Kd.R_away HO_5.out (fun _ hk=>hk)));replace HB:=am (hb);have HO491:=am (ho);clear HO_5;clear ho hb hg hat))
         go_roundg kj8
         case measure=>have:=HK1.out;have:=HJ8.out;omega
         case rel=>exact ⟨(y489),(true),(wrap64 (x7_1 + 1)),(wrap64 (x469004_1 + ((rd_T38 l0 x7_1).f3))),Q7,Q7,H',⟨Q5⟩,⟨by (with_reducible repeat (first|apply Kd.R_alloc|apply Kd.R_drewN|apply Kd.R_drew));exact HO491.out⟩,⟨Q73⟩,⟨Q106⟩⟩
        ·rw [if_neg c26] at H
         have c26b0 : (t476 == 0) = false:=beq_eq_false_iff_ne.mpr c26
         have c26b1 : (t476 != 0) = true:=bne_iff_ne.mpr c26
         have c34 : 0 ≤ x7_1:=nn_ H
         rw [if_pos c34] at H
         have c34b0 : decide (0 ≤ x7_1) = true:=decide_eq_true c34
         clear c34
         have c35 : x7_1 < (l0.length : Int):=nn_ H
         rw [if_pos c35] at H
         have c35b0 : decide (x7_1 < (l0.length : Int)) = true:=decide_eq_true c35
         clear c35
         have c36 : x5_1.length < 3518437208883:=nn_ H
         rw [if_pos c36] at H
         have LMc36:=Aside0.mk c36
         clear c36
         obtain ⟨y493,hy_⟩ : ∃ y_ : List (S38),y_ = (x5_1 ++ [(⟨(rd_T38 l0 x7_1).f0,(rd_T38 l0 x7_1).f1,(⟨(rd_T38 l0 x7_1).f2.f0,(rd_T38 l0 x7_1).f2.f1⟩ : S36),(rd_T38 l0 x7_1).f3⟩ : S38)]):=⟨_,rfl⟩
         replace H : (spec_l2Put.l0 kj8 l0 y493 false (wrap64 (x7_1 + 1)) a1_0 a1_1 a1_2 a1_3 x469004_1) = some r:=Q162
         have Ny493:=Aside0.mk hy_
         clear hy_
         have H':=Aside0.mk H
         clear H
         have p492 : 0 ≤ (x7_1 : Int):=of_decide_eq_true Q8
         have q492 : x7_1 < (l0.length : Int):=of_decide_eq_true Q8
         obtain ⟨ad492,e492,hx492_0,hx492_1,hx492_2,hx492_3,hx492_4⟩:=at_T38 HR0.out x7_1 p492 q492
         obtain rfl : ad475 = ad492:=(by injection e492)
         replace hx492_0:=cb_ HB hx492_0
         replace hx492_1:=cb_ HB hx492_1
         replace hx492_2:=cb_ HB hx492_2
         replace hx492_3:=cb_ HB hx492_3
         replace hx492_4:=cb_ HB hx492_4
         replace p492:=eq_true p492
         replace q492:=eq_true q492
         go_wp2_with (first|((with_reducible refine gate_builtin (b:=.append) (xs:=#[.tmp 51,.tmp 56]) rfl ?_);at_builtin;refine Kd.R_append k38 (w0:=w) w.heap.size rfl (.tmp 51) (.tmp 56) 23 38 (.agg #[(.int .i64 0),(.int .i64 0),(.int .i64 0),(.int .i64 0),(.int .i64 0)]) 40 rfl Try.underlying23 info38 rfl Q0 (by omega) u5 x5_1 (⟨(rd_T38 l0 x7_1).f0,(rd_T38 l0 x7_1).f1,(⟨(rd_T38 l0 x7_1).f2.f0,(rd_T38 l0 x7_1).f2.f1⟩ : S36),(rd_T38 l0 x7_1).f3⟩ : S38) [.int .i64 ((rd_T38 l0 x7_1).f0),.int .i64 ((rd_T38 l0 x7_1).f1),.int .i64 ((rd_T38 l0 x7_1).f2.f0),.int .i64 ((rd_T38 l0 x7_1).f2.f1),.int .i64 ((rd_T38 l0 x7_1).f3)] (fun k_=>k_ ≠ gb468) (fun _=>False) rfl rfl ?aP (fun _ hk=>hk.elim) ?aF ?aO ?aB ?aS ?aL ?_;(case aP=>exact k38_mkM _ _ _ (⟨(rd_T38 l0 x7_1).f0,(rd_T38 l0 x7_1).f1,(⟨(rd_T38 l0 x7_1).f2.f0,(rd_T38 l0 x7_1).f2.f1⟩ : S36),(rd_T38 l0 x7_1).f3⟩ : S38));(case aB=>exact Q106);(case aF=>exact (fun k_ hk=>Kd.freshB (g:=gb468) (o:=.cells #[.int .i64 a1_0,.int .i64 a1_1,.int .i64 a1_2,.int .i64 a1_3,.int .i64 x469004_1] 38 (0,0)) Q73 k_ hk));(case aO=>exact Q21);(case aS=>exact (below_size Q106));(case aL=>have:=LMc36.out;omega);intro v494 w37 ho hb hg hat;rw [← Ny493.out] at ho;replace BK468:=am (blk_grown (g:=gb468) (o:=.cells #[.int .i64 a1_0,.int .i64 a1_1,.int .i64 a1_2,.int .i64 a1_3,.int .i64 x469004_1] 38 (0,0)) Q73 hg (Kd.R_away HO_5.out (fun _ hk=>hk)));replace HB:=am (hb);have HO495:=am (ho);clear HO_5;clear ho hb hg hat))
         go_roundg kj8
         case measure=>have:=HK1.out;have:=HJ8.out;omega
         case rel=>exact ⟨(y493),(false),(wrap64 (x7_1 + 1)),(x469004_1),Q7,Q7,H',⟨Q5⟩,⟨by (with_reducible repeat (first|apply Kd.R_alloc|apply Kd.R_drewN|apply Kd.R_drew));exact HO495.out⟩,⟨Q73⟩,⟨Q106⟩⟩
   ·rw [if_neg c6] at H
    have c6b0 : decide (x7_1 < (l0.length : Int)) = false:=decide_eq_false c6
    clear c6
    by_cases c38 : x6_1 = true
    ·subst c38
     have H1 : (some x5_1) = some r:=by rw [if_pos rfl] at H;exact H
     clear H
     have H:=H1
     clear H1
     obtain rfl:=Option.some.inj H
     go_wp2
     go_ret
     exact ⟨_,Q18,by (with_reducible repeat (first|apply Kd.R_alloc|apply Kd.R_drewN|apply Kd.R_drew));exact Kd.R_mono HO_5.out (fun _ hk=>trivial),Q106⟩
    ·replace c38:=Bool.eq_false_iff.mpr c38
     subst c38
     have H1 : (if x5_1.length < 3518437208883 then (some (x5_1 ++ [(⟨a1_0,a1_1,(⟨a1_2,a1_3⟩ : S36),x469004_1⟩ : S38)])) else (none)) = some r:=by rw [if_neg (show ¬ (false = true) by decide)] at H;exact H
     clear H
     have H:=H1
     clear H1
     have c39 : x5_1.length < 3518437208883:=nn_ H
     rw [if_pos c39] at H
     have LMc39:=Aside0.mk c39
     clear c39
     obtain ⟨y472,hy_⟩ : ∃ y_ : List (S38),y_ = (x5_1 ++ [(⟨a1_0,a1_1,(⟨a1_2,a1_3⟩ : S36),x469004_1⟩ : S38)]):=⟨_,rfl⟩
     replace H : (some y472) = some r:=Q162
     have Ny472:=Aside0.mk hy_
     clear hy_
     obtain rfl:=Option.some.inj H
     have hcz40_0 : wr.cell? ⟨gb468,0,none⟩ = some (.int .i64 a1_0):=(blk_cell BK468.out 0).trans rfl
     have hcz40_1 : wr.cell? ⟨gb468,1,none⟩ = some (.int .i64 a1_1):=(blk_cell BK468.out 1).trans rfl
     have hcz40_2 : wr.cell? ⟨gb468,2,none⟩ = some (.int .i64 a1_2):=(blk_cell BK468.out 2).trans rfl
     have hcz40_3 : wr.cell? ⟨gb468,3,none⟩ = some (.int .i64 a1_3):=(blk_cell BK468.out 3).trans rfl
     have hcz40_4 : wr.cell? ⟨gb468,4,none⟩ = some (.int .i64 x469004_1):=(blk_cell BK468.out 4).trans rfl
     have hfz40_0:=blk_frozen BK468.out 0
     have hfz40_1:=blk_frozen BK468.out 1
     have hfz40_2:=blk_frozen BK468.out 2
     have hfz40_3:=blk_frozen BK468.out 3
     have hfz40_4:=blk_frozen BK468.out 4
     go_wp2_with (first|((with_reducible refine gate_builtin (b:=.append) (xs:=#[.tmp 60,.tmp 62]) rfl ?_);at_builtin;refine Kd.R_append k38 (w0:=w) w.heap.size rfl (.tmp 60) (.tmp 62) 23 38 (.agg #[(.int .i64 0),(.int .i64 0),(.int .i64 0),(.int .i64 0),(.int .i64 0)]) 40 rfl Try.underlying23 info38 rfl Q0 (by omega) u5 x5_1 (⟨a1_0,a1_1,(⟨a1_2,a1_3⟩ : S36),x469004_1⟩ : S38) [.int .i64 a1_0,.int .i64 a1_1,.int .i64 a1_2,.int .i64 a1_3,.int .i64 x469004_1] (fun k_=>k_ ≠ gb468) (fun _=>False) rfl rfl ?aP (fun _ hk=>hk.elim) ?aF ?aO ?aB ?aS ?aL ?_;(case aP=>exact k38_mkM _ _ _ (⟨a1_0,a1_1,(⟨a1_2,a1_3⟩ : S36),x469004_1⟩ : S38));(case aB=>exact Q106);(case aF=>exact (fun k_ hk=>Kd.freshB (g:=gb468) (o:=.cells #[.int .i64 a1_0,.int .i64 a1_1,.int .i64 a1_2,.int .i64 a1_3,.int .i64 x469004_1] 38 (0,0)) Q73 k_ hk));(case aO=>exact Q21);(case aS=>exact (below_size Q106));(case aL=>have:=LMc39.out;omega);intro v473 w41 ho hb hg hat;rw [← Ny472.out] at ho;replace BK468:=am (blk_grown (g:=gb468) (o:=.cells #[.int .i64 a1_0,.int .i64 a1_1,.int .i64 a1_2,.int .i64 a1_3,.int .i64 x469004_1] 38 (0,0)) Q73 hg (Kd.R_away HO_5.out (fun _ hk=>hk)));replace HB:=am (hb);have HO474:=am (ho);clear HO_5;clear ho hb hg hat))
     go_ret
     exact ⟨_,Q18,by (with_reducible repeat (first|apply Kd.R_alloc|apply Kd.R_drewN|apply Kd.R_drew));exact Kd.R_mono HO474.out (fun _ hk=>trivial),Q106⟩
mutual
def spec_l2Sum.l0 : Nat → List (S38) → List (S38) → Int → Option ((List (S38)))
 | 0, _, _, _ => none
 | k + 1, x0, x3, x4 => if x4 < (x0.length : Int) then (if 0 ≤ x4 then ((spec_l2Put.f k x3 ((rd_T38 x0 x4).f0) ((rd_T38 x0 x4).f1) ((rd_T38 x0 x4).f2.f0) ((rd_T38 x0 x4).f2.f1) ((rd_T38 x0 x4).f3)).bind fun t500 => (spec_l2Sum.l0 k x0 t500 (wrap64 (x4 + 1)))) else (none)) else (spec_l2Sum.l1 k x3 (([] : List (S38))) 0)
def spec_l2Sum.l1 : Nat → List (S38) → List (S38) → Int → Option ((List (S38)))
 | 0, _, _, _ => none
 | k + 1, x3, x5, x6 => if x6 < (x3.length : Int) then (if 0 ≤ x6 then (if ((rd_T38 x3 x6).f3) = 0 then (spec_l2Sum.l1 k x3 x5 (wrap64 (x6 + 1))) else (if x5.length < 3518437208883 then (spec_l2Sum.l1 k x3 (x5 ++ [(⟨(rd_T38 x3 x6).f0, (rd_T38 x3 x6).f1, (⟨(rd_T38 x3 x6).f2.f0, (rd_T38 x3 x6).f2.f1⟩ : S36), (rd_T38 x3 x6).f3⟩ : S38)]) (wrap64 (x6 + 1))) else (none))) else (none)) else (some x5)
end
def spec_l2Sum.f (k : Nat) (l0 : List (S38)) : Option ((List (S38))) := spec_l2Sum.l0 k l0 (([] : List (S38))) 0
set_option maxHeartbeats 8000000 in
set_option maxRecDepth 100000 in
theorem spec_l2Sum.calls (k : Nat) (A0 : Option Addr) (c0 : Nat) (l0 : List (S38)) (r : List (S38)) (w : World) (hr0 : Kd.C k38 w A0 l0.length l0) (hc0 : l0.length ≤ c0) (h : spec_l2Sum.f k l0 = some r) :
  Calls Try.prog 58 #[.slice A0 l0.length c0] w fun e w'=>∃ v0_ : Value,e = .returned (v0_) ∧ Kd.R k38 38 w' w.heap.size (fun _=>True) v0_ r ∧ Below w.heap.size w w':=by
 have hu38:=Try.underlying38
 have HR0:=Aside0.mk hr0
 have HC0:=Aside0.mk hc0
 clear hr0 hc0
 have HB:=am (Below.refl w.heap.size w)
 have H : (spec_l2Sum.l0 k l0 (([] : List (S38))) 0) = some r:=h
 clear h
 obtain ⟨y496,hy_⟩ : ∃ y_ : List (S38),y_ = (([] : List (S38))):=⟨_,rfl⟩
 replace H : (spec_l2Sum.l0 k l0 y496 0) = some r:=Q162
 have Ny496:=Aside0.mk hy_
 clear hy_
 have H':=Aside0.mk H
 clear H
 go_enter Try.func58,Try.ntmps58
 go_wp2_with (first|((with_reducible refine gate_dst (N:=7) rfl ?_);refine Kd.R_lit k38 _ 38 ?hg (N:=7) ?hd (xs:=([] : List (S38))) (inner:=[]) (ok:=fun _=>True) (okp:=fun _=>True) ?hr ?hp (fun _ hk=>hk) trivial (Below.refl _ _) (Nat.le_refl _) (by simp) ?_;(case hd=>rfl);(case hg=>rfl);(case hr=>first|(go_simp;done)|(go_simp;rfl));(case hp=>exact (Reps.none _ _));intro v497 w2 ho3 hb hg_ hnew_;clear hg_ hnew_;(first|rw [← Ny496.out] at ho3|(simp only [Int.reduceToNat] at ho3;rw [← Ny496.out] at ho3));have HO498:=am (Kd.R_lower ho3 (below_size Q80));replace HB:=am (below_step Q80 hb);clear hb ho3))
 go_loopg [3,4] k (fun kq v3 v4 w'=>∃ (x3_1 : List (S38)) (x4_1 : Int),v4 = .int .i64 x4_1 ∧ Aside0 (spec_l2Sum.l0 kq l0 x3_1 x4_1 = some r) ∧ Aside0 (kq ≤ k) ∧ Aside0 (Kd.R k38 38 w' w.heap.size (fun _=>True) v3 x3_1) ∧ Aside0 (Below w.heap.size w w'))
 case atStart=>exact ⟨(y496),(0),Q7,H',⟨Nat.le_refl _⟩,⟨by (with_reducible repeat (first|apply Kd.R_alloc|apply Kd.R_drewN|apply Kd.R_drew));exact HO498.out⟩,⟨Q80⟩⟩
 case round =>
  clear H'
  try clear p2
  obtain ⟨x3_1,x4_1,rfl,HA,HK1,HO_3,HB⟩:=hrel
  cases gk with
  | zero=>exact absurd HA.out (by simp [spec_l2Sum.l0])
  | succ k1 =>
   have H:=HA.out
   clear HA
   simp only [spec_l2Sum.l0] at H
   by_cases c4 : x4_1 < (l0.length : Int)
   ·rw [if_pos c4] at H
    have c4b0 : decide (x4_1 < (l0.length : Int)) = true:=decide_eq_true c4
    clear c4
    have c5 : 0 ≤ x4_1:=nn_ H
    rw [if_pos c5] at H
    have c5b0 : decide (0 ≤ x4_1) = true:=decide_eq_true c5
    clear c5
    replace H:=Option.bind_eq_some_iff.mp H
    obtain ⟨t500,A60,H⟩:=H
    replace H : (spec_l2Sum.l0 k1 l0 t500 (wrap64 (x4_1 + 1))) = some r:=H
    have A6:=Aside0.mk A60
    clear A60
    have H':=Aside0.mk H
    clear H
    have p499 : 0 ≤ (x4_1 : Int):=of_decide_eq_true Q8
    have q499 : x4_1 < (l0.length : Int):=of_decide_eq_true Q8
    obtain ⟨ad499,e499,hx499_0,hx499_1,hx499_2,hx499_3,hx499_4⟩:=at_T38 HR0.out x4_1 p499 q499
    cases e499
    replace hx499_0:=cb_ HB hx499_0
    replace hx499_1:=cb_ HB hx499_1
    replace hx499_2:=cb_ HB hx499_2
    replace hx499_3:=cb_ HB hx499_3
    replace hx499_4:=cb_ HB hx499_4
    replace p499:=eq_true p499
    replace q499:=eq_true q499
    obtain ⟨Ao7,co7,eo7⟩:=Kd.R_slice HO_3.out
    subst eo7
    go_wp2_with (first|((with_reducible refine gate_callee (f:=88) rfl ?_);refine goesL_ (some 19) rfl rfl Try.func88 Q1 rfl #[.slice Ao7 x3_1.length co7,.agg #[.int .i64 ((rd_T38 l0 x4_1).f0),.int .i64 ((rd_T38 l0 x4_1).f1),.int .i64 ((rd_T38 l0 x4_1).f2.f0),.int .i64 ((rd_T38 l0 x4_1).f2.f1),.int .i64 ((rd_T38 l0 x4_1).f3)]] rfl Q84 ?_;(with_reducible refine (spec_l2Put.calls k1 _ _ x3_1 ((rd_T38 l0 x4_1).f0) ((rd_T38 l0 x4_1).f1) ((rd_T38 l0 x4_1).f2.f0) ((rd_T38 l0 x4_1).f2.f1) ((rd_T38 l0 x4_1).f3) t500 _ ?side1 ?side2 A6.out).mono ?_);(case side1=>exact Q112);(case side2=>exact (Kd.R_reads' HO_3.out).2.1);rintro e w8 ⟨v501,rfl,ho0,hb⟩;refine ⟨_,rfl,?_⟩;have HO502:=am (Kd.R_lower (Kd.R_new' ho0 (Kd.R_lt Q22)) (below_size Q80));replace HO_3:=am (Kd.R_elder' Q22 (Kd.R_base ho0) hb);replace HB:=am (below_step Q80 hb);(try clear hb ho0)))
    go_roundg k1
    case measure=>have:=HK1.out;omega
    case rel=>exact ⟨(t500),(wrap64 (x4_1 + 1)),Q7,H',⟨Q3⟩,⟨by (with_reducible repeat (first|apply Kd.R_alloc|apply Kd.R_drewN|apply Kd.R_drew));exact Kd.R_mono HO502.out (fun _ hk=>trivial)⟩,⟨Q80⟩⟩
   ·rw [if_neg c4] at H
    have c4b0 : decide (x4_1 < (l0.length : Int)) = false:=decide_eq_false c4
    clear c4
    obtain ⟨y503,hy_⟩ : ∃ y_ : List (S38),y_ = (([] : List (S38))):=⟨_,rfl⟩
    replace H : (spec_l2Sum.l1 k1 x3_1 y503 0) = some r:=Q162
    have Ny503:=Aside0.mk hy_
    clear hy_
    have H':=Aside0.mk H
    clear H
    go_wp2_with (first|((with_reducible refine gate_dst (N:=20) rfl ?_);refine Kd.R_lit k38 _ 38 ?hg (N:=20) ?hd (xs:=([] : List (S38))) (inner:=[]) (ok:=fun _=>True) (okp:=fun _=>True) ?hr ?hp (fun _ hk=>hk) trivial (Below.refl _ _) (Nat.le_refl _) (by simp) ?_;(case hd=>rfl);(case hg=>rfl);(case hr=>first|(go_simp;done)|(go_simp;rfl));(case hp=>exact (Reps.none _ _));intro v504 w9 ho10 hb hg_ hnew_;clear hg_ hnew_;(first|rw [← Ny503.out] at ho10|(simp only [Int.reduceToNat] at ho10;rw [← Ny503.out] at ho10));have HO505:=am (Kd.R_lower (Kd.R_new' ho10 (Kd.R_lt Q22)) (below_size Q80));replace HO_3:=am (Kd.R_elder' Q22 (Kd.R_base ho10) hb);replace HB:=am (below_step Q80 hb);clear hb ho10))
    go_loopg [5,6] k1 (fun kq v5 v6 w'=>∃ (x5_2 : List (S38)) (x6_2 : Int),v6 = .int .i64 x6_2 ∧ Aside0 (spec_l2Sum.l1 kq x3_1 x5_2 x6_2 = some r) ∧ Aside0 (kq ≤ k1) ∧ Aside0 (Kd.R k38 38 w' w.heap.size (fun k_=>some k_ ≠ (v5 : Value).ownBlock) u3 x3_1) ∧ Aside0 (Kd.R k38 38 w' w.heap.size (fun k_=>some k_ ≠ (u3 : Value).ownBlock) v5 x5_2) ∧ Aside0 (Below w.heap.size w w'))
    case atStart=>exact ⟨(y503),(0),Q7,H',⟨Nat.le_refl _⟩,⟨by (with_reducible repeat (first|apply Kd.R_alloc|apply Kd.R_drewN|apply Kd.R_drew));exact Kd.R_mono HO_3.out (fun _ hk=>hk.2)⟩,⟨by (with_reducible repeat (first|apply Kd.R_alloc|apply Kd.R_drewN|apply Kd.R_drew));exact Kd.R_mono HO505.out (fun _ hk=>hk.2)⟩,⟨Q80⟩⟩
    case round =>
     clear H'
     try clear p2
     try clear c4
     try clear c4b0
     try clear p4
     try clear q4
     try clear hx4
     try clear c5
     try clear c5b0
     try clear p6
     try clear c8
     try clear hx499_0
     try clear hx499_1
     try clear hx499_2
     try clear hx499_3
     try clear hx499_4
     try clear p2
     try clear p499
     try clear q499
     obtain ⟨x5_2,x6_2,rfl,HA,HK2,HO_3,HO_5,HB⟩:=hrel
     cases gk with
     | zero=>exact absurd HA.out (by simp [spec_l2Sum.l1])
     | succ k2 =>
      have H:=HA.out
      clear HA
      simp only [spec_l2Sum.l1] at H
      by_cases c11 : x6_2 < (x3_1.length : Int)
      ·rw [if_pos c11] at H
       have c11b0 : decide (x6_2 < (x3_1.length : Int)) = true:=decide_eq_true c11
       clear c11
       have c12 : 0 ≤ x6_2:=nn_ H
       rw [if_pos c12] at H
       have c12b0 : decide (0 ≤ x6_2) = true:=decide_eq_true c12
       clear c12
       by_cases c13 : ((rd_T38 x3_1 x6_2).f3) = 0
       ·rw [if_pos c13] at H
        have c13b0 : (((rd_T38 x3_1 x6_2).f3) == 0) = true:=beq_iff_eq.mpr c13
        have c13b1 : (((rd_T38 x3_1 x6_2).f3) != 0) = false:=bne_eq_false_iff_eq.mpr c13
        clear c13
        have H':=Aside0.mk H
        clear H
        obtain ⟨Ao14,co14,eo14⟩:=Kd.R_slice HO_3.out
        subst eo14
        have p506 : 0 ≤ (x6_2 : Int):=of_decide_eq_true Q8
        have q506 : x6_2 < (x3_1.length : Int):=of_decide_eq_true Q8
        obtain ⟨ad506,e506,hx506_0,hx506_1,hx506_2,hx506_3,hx506_4⟩:=at_T38 (Kd.R_reads' HO_3.out).2.2 x6_2 p506 q506
        cases e506
        replace p506:=eq_true p506
        replace q506:=eq_true q506
        go_wp2
        go_roundg k2
        case measure=>have:=HK1.out;have:=HK2.out;omega
        case rel=>exact ⟨(x5_2),(wrap64 (x6_2 + 1)),Q7,H',⟨Q6⟩,⟨Q22⟩,⟨Q21⟩,⟨Q80⟩⟩
       ·rw [if_neg c13] at H
        have c13b0 : (((rd_T38 x3_1 x6_2).f3) == 0) = false:=beq_eq_false_iff_ne.mpr c13
        have c13b1 : (((rd_T38 x3_1 x6_2).f3) != 0) = true:=bne_iff_ne.mpr c13
        have c15 : x5_2.length < 3518437208883:=nn_ H
        rw [if_pos c15] at H
        have LMc15:=Aside0.mk c15
        clear c15
        obtain ⟨y508,hy_⟩ : ∃ y_ : List (S38),y_ = (x5_2 ++ [(⟨(rd_T38 x3_1 x6_2).f0,(rd_T38 x3_1 x6_2).f1,(⟨(rd_T38 x3_1 x6_2).f2.f0,(rd_T38 x3_1 x6_2).f2.f1⟩ : S36),(rd_T38 x3_1 x6_2).f3⟩ : S38)]):=⟨_,rfl⟩
        replace H : (spec_l2Sum.l1 k2 x3_1 y508 (wrap64 (x6_2 + 1))) = some r:=Q162
        have Ny508:=Aside0.mk hy_
        clear hy_
        have H':=Aside0.mk H
        clear H
        obtain ⟨Ao16,co16,eo16⟩:=Kd.R_slice HO_3.out
        subst eo16
        have p506 : 0 ≤ (x6_2 : Int):=of_decide_eq_true Q8
        have q506 : x6_2 < (x3_1.length : Int):=of_decide_eq_true Q8
        obtain ⟨ad506,e506,hx506_0,hx506_1,hx506_2,hx506_3,hx506_4⟩:=at_T38 (Kd.R_reads' HO_3.out).2.2 x6_2 p506 q506
        cases e506
        replace p506:=eq_true p506
        replace q506:=eq_true q506
        have p507 : 0 ≤ (x6_2 : Int):=of_decide_eq_true Q8
        have q507 : x6_2 < (x3_1.length : Int):=of_decide_eq_true Q8
        obtain ⟨ad507,e507,hx507_0,hx507_1,hx507_2,hx507_3,hx507_4⟩:=at_T38 (Kd.R_reads' HO_3.out).2.2 x6_2 p507 q507
        obtain rfl : ad506 = ad507:=(by injection e507)
        replace p507:=eq_true p507
        replace q507:=eq_true q507
        go_wp2_with (first|((with_reducible refine gate_builtin (b:=.append) (xs:=#[.tmp 33,.tmp 38]) rfl ?_);at_builtin;refine Kd.R_append k38 (w0:=w) w.heap.size rfl (.tmp 33) (.tmp 38) 23 38 (.agg #[(.int .i64 0),(.int .i64 0),(.int .i64 0),(.int .i64 0),(.int .i64 0)]) 40 rfl Try.underlying23 info38 rfl Q0 (by omega) u5 x5_2 (⟨(rd_T38 x3_1 x6_2).f0,(rd_T38 x3_1 x6_2).f1,(⟨(rd_T38 x3_1 x6_2).f2.f0,(rd_T38 x3_1 x6_2).f2.f1⟩ : S36),(rd_T38 x3_1 x6_2).f3⟩ : S38) [.int .i64 ((rd_T38 x3_1 x6_2).f0),.int .i64 ((rd_T38 x3_1 x6_2).f1),.int .i64 ((rd_T38 x3_1 x6_2).f2.f0),.int .i64 ((rd_T38 x3_1 x6_2).f2.f1),.int .i64 ((rd_T38 x3_1 x6_2).f3)] (fun k_=>some k_ ≠ (.slice (some ad506) x3_1.length co16 : Value).ownBlock) (fun _=>False) rfl rfl ?aP (fun _ hk=>hk.elim) ?aF ?aO ?aB ?aS ?aL ?_;(case aP=>exact k38_mkM _ _ _ (⟨(rd_T38 x3_1 x6_2).f0,(rd_T38 x3_1 x6_2).f1,(⟨(rd_T38 x3_1 x6_2).f2.f0,(rd_T38 x3_1 x6_2).f2.f1⟩ : S36),(rd_T38 x3_1 x6_2).f3⟩ : S38));(case aB=>exact Q80);(case aF=>exact (fun k_ hk=>Kd.fresh' (Kd.R_lt Q22) k_ hk));(case aO=>exact Q21);(case aS=>exact (below_size Q80));(case aL=>have:=LMc15.out;omega);intro v509 w17 ho hb hg hat;rw [← Ny508.out] at ho;replace HO_3:=am (Kd.R_after (ok:=(fun _=>True)) (by (with_reducible repeat (first|apply Kd.R_alloc|apply Kd.R_drewN|apply Kd.R_drew));exact Kd.R_mono HO_3.out (fun _ hk=>⟨trivial,hk⟩)) hg hat);replace HB:=am (hb);have HO510:=am (ho);clear HO_5;clear ho hb hg hat))
        go_roundg k2
        case measure=>have:=HK1.out;have:=HK2.out;omega
        case rel=>exact ⟨(y508),(wrap64 (x6_2 + 1)),Q7,H',⟨Q6⟩,⟨by (with_reducible repeat (first|apply Kd.R_alloc|apply Kd.R_drewN|apply Kd.R_drew));exact Kd.R_mono HO_3.out (fun _ hk=>hk.2)⟩,⟨by (with_reducible repeat (first|apply Kd.R_alloc|apply Kd.R_drewN|apply Kd.R_drew));exact HO510.out⟩,⟨Q80⟩⟩
      ·rw [if_neg c11] at H
       have c11b0 : decide (x6_2 < (x3_1.length : Int)) = false:=decide_eq_false c11
       clear c11
       obtain rfl:=Option.some.inj H
       obtain ⟨Ao18,co18,eo18⟩:=Kd.R_slice HO_3.out
       subst eo18
       go_wp2
       go_ret
       exact ⟨_,Q18,by (with_reducible repeat (first|apply Kd.R_alloc|apply Kd.R_drewN|apply Kd.R_drew));exact Kd.R_mono HO_5.out (fun _ hk=>trivial),Q80⟩
mutual
def spec_BatchMove.j0 : Nat → List (S38) → List (S36) → List (S38) → Bool → Option ((List (S38)))
 | 0, _, _, _, _ => none
 | k + 1, x0, x1, x5, x16 => if x16 = true then (some x5) else (spec_BatchMove.l0 k x0 x1 x5 0)
def spec_BatchMove.l0 : Nat → List (S38) → List (S36) → List (S38) → Int → Option ((List (S38)))
 | 0, _, _, _, _ => none
 | k + 1, x0, x1, x5, x6 => if x6 < (x0.length : Int) then (if 0 ≤ x6 then ((spec_FrontMove.f k x1 ((rd_T38 x0 x6).f2.f0) ((rd_T38 x0 x6).f2.f1)).bind fun bt518 => (if x5.length < 3518437208883 then (spec_BatchMove.l0 k x0 x1 (x5 ++ [(⟨(rd_T38 x0 x6).f0, (rd_T38 x0 x6).f1, (⟨bt518.1, bt518.2⟩ : S36), (rd_T38 x0 x6).f3⟩ : S38)]) (wrap64 (x6 + 1))) else (none))) else (none)) else ((spec_l2Sum.f k x5).bind fun t523 => ((spec_l2Fit.f k t523).bind fun t526 => (some t526)))
end
def spec_BatchMove.f (k : Nat) (l0 : List (S38)) (l1 : List (S36)) : Option ((List (S38))) := (some (([] : List (S38)) : List (S38))).bind fun y511 => ((spec_RowsOk.f k l0).bind fun t514 => (if t514 = true then ((spec_FrontOk.f k l1).bind fun t515 => (spec_BatchMove.j0 k l0 l1 y511 (!t515))) else (spec_BatchMove.j0 k l0 l1 y511 true)))
end Go.Proofs.Ytjlkffmdmifahaa.PFnBatchMove
