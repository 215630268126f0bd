/- Functions that the law comes to: each as a plain Lean function, with the contract of the Go function. -/
import Derived.Test.YtjlkffmdmifahaaVFnBatchMovew
import Derived.Test.YtjlkffmdmifahaaVFnBatchMovep0
import Derived.Test.YtjlkffmdmifahaaVFnBatchMovep2
import Derived.Test.YtjlkffmdmifahaaVFnBatchMoveg0
namespace Go.Proofs.Ytjlkffmdmifahaa.PFnBatchMove
open Go.RowKit Go.Proofs.YtjlkffmdmifahaaW.PrintWords Go.Proofs.YtjlkffmdmifahaaW.PrintLast Go.Proofs.YtjlkffmdmifahaaW.PrintMore
attribute [local go_sem] max2_int min2_int max_two min_two max_three min_three max_four min_four
set_option linter.unusedVariables false
set_option linter.unusedSimpArgs false
attribute [local go_sem high] eqA36 eqA38 eqA83
set_option maxHeartbeats 8000000 in
set_option maxRecDepth 100000 in
theorem impl_RowsOk.calls (k : Nat) (A0 : Option Addr) (c0 : Nat) (l0 : List (S38)) (r : Bool) (w : World) (hr0 : Kd.C k38 w A0 l0.length l0) (hc0 : l0.length ≤ c0) (h : impl_RowsOk.f k l0 = some r) :
  Calls Try.prog 39 #[.slice A0 l0.length c0] w fun e w'=>e = .returned (.bool r) ∧ Below w.heap.size w w':=by
 have hu38:=Try.underlying38
 have hu36:=Try.underlying36
 have HR0:=Aside0.mk hr0
 have HC0:=Aside0.mk hc0
 clear hr0 hc0
 have HB:=am (Below.refl w.heap.size w)
 have H : (impl_RowsOk.l0 k l0 l0 (l0.length : Int) 0) = some r:=h
 clear h
 have H':=Aside0.mk H
 clear H
 go_enter Try.func39,Try.ntmps39
 go_wp2
 go_loopg [7] k (fun kq v7 w'=>∃ (x7_1 : Int),v7 = .int .i64 x7_1 ∧ Aside0 (impl_RowsOk.l0 kq l0 l0 (l0.length : Int) x7_1 = some r) ∧ Aside0 (kq ≤ k) ∧ Aside0 (Below w.heap.size w w'))
 case atStart=>exact ⟨(0),Q7,H',⟨Nat.le_refl _⟩,⟨Q80⟩⟩
 case round =>
  clear H'
  obtain ⟨x7_1,rfl,HA,HK1,HB⟩:=hrel
  cases gk with
  | zero=>exact absurd HA.out (by simp [impl_RowsOk.l0])
  | succ k1 =>
   have H:=HA.out
   clear HA
   simp only [impl_RowsOk.l0] at H
   by_cases c2 : x7_1 < (l0.length : Int)
   ·rw [if_pos c2] at H
    have c2b0 : decide (x7_1 < (l0.length : Int)) = true:=decide_eq_true c2
    clear c2
    have c3 : 0 ≤ x7_1:=nn_ H
    rw [if_pos c3] at H
    have c3b0 : decide (0 ≤ x7_1) = true:=decide_eq_true c3
    clear c3
    have c4 : x7_1 < (l0.length : Int):=nn_ H
    rw [if_pos c4] at H
    have c4b0 : decide (x7_1 < (l0.length : Int)) = true:=decide_eq_true c4
    clear c4
    by_cases c5 : ((rd_T38 l0 x7_1).f0) < 0
    ·rw [if_pos c5] at H
     have c5b0 : decide (((rd_T38 l0 x7_1).f0) < 0) = true:=decide_eq_true c5
     clear c5
     obtain rfl:=Option.some.inj H
     have p344 : 0 ≤ (x7_1 : Int):=of_decide_eq_true Q8
     have q344 : x7_1 < (l0.length : Int):=of_decide_eq_true Q8
     obtain ⟨ad344,e344,hx344_0,hx344_1,hx344_2,hx344_3,hx344_4⟩:=at_T38 HR0.out x7_1 p344 q344
     cases e344
     replace hx344_0:=cb_ HB hx344_0
     replace hx344_1:=cb_ HB hx344_1
     replace hx344_2:=cb_ HB hx344_2
     replace hx344_3:=cb_ HB hx344_3
     replace hx344_4:=cb_ HB hx344_4
     replace p344:=eq_true p344
     replace q344:=eq_true q344
     go_wp2_with (first|((with_reducible refine gate_dst (N:=4) rfl ?_);refine bE_ 4 #[.int .i64 0,.int .i64 0,.int .i64 0,.int .i64 0,.int .i64 0] 38 ?_;intro gb345 hg w6 hbox hb;have BK345:=am (hbox);have GW345:=am ((Q173 : w.heap.size ≤ gb345));replace HB:=am (below_step Q80 hb);have GE345:=GW345;clear hb hbox hg;obtain ⟨hcz7_0,hcz7_1,hcz7_2,hcz7_3,hcz7_4,hfz7_0,hfz7_1,hfz7_2,hfz7_3,hfz7_4⟩:=bx5_ BK345))
     go_ret
     exact ⟨Q18,Q94⟩
    ·rw [if_neg c5] at H
     have c5b0 : decide (((rd_T38 l0 x7_1).f0) < 0) = false:=decide_eq_false c5
     clear c5
     by_cases c8 : ((rd_T38 l0 x7_1).f0) ≥ 4
     ·rw [if_pos c8] at H
      have c8b0 : decide (4 ≤ ((rd_T38 l0 x7_1).f0)) = true:=decide_eq_true c8
      clear c8
      obtain rfl:=Option.some.inj H
      have p344 : 0 ≤ (x7_1 : Int):=of_decide_eq_true Q8
      have q344 : x7_1 < (l0.length : Int):=of_decide_eq_true Q8
      obtain ⟨ad344,e344,hx344_0,hx344_1,hx344_2,hx344_3,hx344_4⟩:=at_T38 HR0.out x7_1 p344 q344
      cases e344
      replace hx344_0:=cb_ HB hx344_0
      replace hx344_1:=cb_ HB hx344_1
      replace hx344_2:=cb_ HB hx344_2
      replace hx344_3:=cb_ HB hx344_3
      replace hx344_4:=cb_ HB hx344_4
      replace p344:=eq_true p344
      replace q344:=eq_true q344
      go_wp2_with (first|((with_reducible refine gate_dst (N:=4) rfl ?_);refine bE_ 4 #[.int .i64 0,.int .i64 0,.int .i64 0,.int .i64 0,.int .i64 0] 38 ?_;intro gb345 hg w9 hbox hb;have BK345:=am (hbox);have GW345:=am ((Q173 : w.heap.size ≤ gb345));replace HB:=am (below_step Q80 hb);have GE345:=GW345;clear hb hbox hg;obtain ⟨hcz10_0,hcz10_1,hcz10_2,hcz10_3,hcz10_4,hfz10_0,hfz10_1,hfz10_2,hfz10_3,hfz10_4⟩:=bx5_ BK345))
      go_ret
      exact ⟨Q18,Q94⟩
     ·rw [if_neg c8] at H
      have c8b0 : decide (4 ≤ ((rd_T38 l0 x7_1).f0)) = false:=decide_eq_false c8
      clear c8
      by_cases c11 : ((rd_T38 l0 x7_1).f1) < 0
      ·rw [if_pos c11] at H
       have c11b0 : decide (((rd_T38 l0 x7_1).f1) < 0) = true:=decide_eq_true c11
       clear c11
       obtain rfl:=Option.some.inj H
       have p344 : 0 ≤ (x7_1 : Int):=of_decide_eq_true Q8
       have q344 : x7_1 < (l0.length : Int):=of_decide_eq_true Q8
       obtain ⟨ad344,e344,hx344_0,hx344_1,hx344_2,hx344_3,hx344_4⟩:=at_T38 HR0.out x7_1 p344 q344
       cases e344
       replace hx344_0:=cb_ HB hx344_0
       replace hx344_1:=cb_ HB hx344_1
       replace hx344_2:=cb_ HB hx344_2
       replace hx344_3:=cb_ HB hx344_3
       replace hx344_4:=cb_ HB hx344_4
       replace p344:=eq_true p344
       replace q344:=eq_true q344
       go_wp2_with (first|((with_reducible refine gate_dst (N:=4) rfl ?_);refine bE_ 4 #[.int .i64 0,.int .i64 0,.int .i64 0,.int .i64 0,.int .i64 0] 38 ?_;intro gb345 hg w12 hbox hb;have BK345:=am (hbox);have GW345:=am ((Q173 : w.heap.size ≤ gb345));replace HB:=am (below_step Q80 hb);have GE345:=GW345;clear hb hbox hg;obtain ⟨hcz13_0,hcz13_1,hcz13_2,hcz13_3,hcz13_4,hfz13_0,hfz13_1,hfz13_2,hfz13_3,hfz13_4⟩:=bx5_ BK345))
       go_ret
       exact ⟨Q18,Q94⟩
      ·rw [if_neg c11] at H
       have c11b0 : decide (((rd_T38 l0 x7_1).f1) < 0) = false:=decide_eq_false c11
       clear c11
       by_cases c14 : ((rd_T38 l0 x7_1).f1) ≥ 100
       ·rw [if_pos c14] at H
        have c14b0 : decide (100 ≤ ((rd_T38 l0 x7_1).f1)) = true:=decide_eq_true c14
        clear c14
        obtain rfl:=Option.some.inj H
        have p344 : 0 ≤ (x7_1 : Int):=of_decide_eq_true Q8
        have q344 : x7_1 < (l0.length : Int):=of_decide_eq_true Q8
        obtain ⟨ad344,e344,hx344_0,hx344_1,hx344_2,hx344_3,hx344_4⟩:=at_T38 HR0.out x7_1 p344 q344
        cases e344
        replace hx344_0:=cb_ HB hx344_0
        replace hx344_1:=cb_ HB hx344_1
        replace hx344_2:=cb_ HB hx344_2
        replace hx344_3:=cb_ HB hx344_3
        replace hx344_4:=cb_ HB hx344_4
        replace p344:=eq_true p344
        replace q344:=eq_true q344
        go_wp2_with (first|((with_reducible refine gate_dst (N:=4) rfl ?_);refine bE_ 4 #[.int .i64 0,.int .i64 0,.int .i64 0,.int .i64 0,.int .i64 0] 38 ?_;intro gb345 hg w15 hbox hb;have BK345:=am (hbox);have GW345:=am ((Q173 : w.heap.size ≤ gb345));replace HB:=am (below_step Q80 hb);have GE345:=GW345;clear hb hbox hg;obtain ⟨hcz16_0,hcz16_1,hcz16_2,hcz16_3,hcz16_4,hfz16_0,hfz16_1,hfz16_2,hfz16_3,hfz16_4⟩:=bx5_ BK345))
        go_ret
        exact ⟨Q18,Q94⟩
       ·rw [if_neg c14] at H
        have c14b0 : decide (100 ≤ ((rd_T38 l0 x7_1).f1)) = false:=decide_eq_false c14
        clear c14
        replace H:=Option.bind_eq_some_iff.mp H
        obtain ⟨t346,A170,H⟩:=H
        replace H : (if t346 = true then (if ((rd_T38 l0 x7_1).f3) < (-99999) then (some false) else (if ((rd_T38 l0 x7_1).f3) > 99999 then (some false) else (impl_RowsOk.l0 k1 l0 l0 (l0.length : Int) (wrap64 (x7_1 + 1))))) else (some false)) = some r:=H
        have A17:=Aside0.mk A170
        clear A170
        by_cases c18 : t346 = true
        ·subst c18
         have H1 : (if ((rd_T38 l0 x7_1).f3) < (-99999) then (some false) else (if ((rd_T38 l0 x7_1).f3) > 99999 then (some false) else (impl_RowsOk.l0 k1 l0 l0 (l0.length : Int) (wrap64 (x7_1 + 1))))) = some r:=by rw [if_pos rfl] at H;exact H
         clear H
         have H:=H1
         clear H1
         by_cases c19 : ((rd_T38 l0 x7_1).f3) < (-99999)
         ·rw [if_pos c19] at H
          have c19b0 : decide (((rd_T38 l0 x7_1).f3) < (-99999)) = true:=decide_eq_true c19
          clear c19
          obtain rfl:=Option.some.inj H
          have p344 : 0 ≤ (x7_1 : Int):=of_decide_eq_true Q8
          have q344 : x7_1 < (l0.length : Int):=of_decide_eq_true Q8
          obtain ⟨ad344,e344,hx344_0,hx344_1,hx344_2,hx344_3,hx344_4⟩:=at_T38 HR0.out x7_1 p344 q344
          cases e344
          replace hx344_0:=cb_ HB hx344_0
          replace hx344_1:=cb_ HB hx344_1
          replace hx344_2:=cb_ HB hx344_2
          replace hx344_3:=cb_ HB hx344_3
          replace hx344_4:=cb_ HB hx344_4
          replace p344:=eq_true p344
          replace q344:=eq_true q344
          go_wp2_with (first|((with_reducible refine gate_dst (N:=4) rfl ?_);refine bE_ 4 #[.int .i64 0,.int .i64 0,.int .i64 0,.int .i64 0,.int .i64 0] 38 ?_;intro gb345 hg w20 hbox hb;have BK345:=am (hbox);have GW345:=am ((Q173 : w.heap.size ≤ gb345));replace HB:=am (below_step Q80 hb);have GE345:=GW345;clear hb hbox hg;obtain ⟨hcz21_0,hcz21_1,hcz21_2,hcz21_3,hcz21_4,hfz21_0,hfz21_1,hfz21_2,hfz21_3,hfz21_4⟩:=bx5_ BK345)|(go_at_call 62;(with_reducible refine (impl_TimeOk.calls ((rd_T38 l0 x7_1).f2.f0) ((rd_T38 l0 x7_1).f2.f1) true _ A17.out).mono ?_);rintro e w22 ⟨rfl,hb⟩;replace BK345:=am (blk_below (g:=gb345) (o:=.cells #[.int .i64 ((rd_T38 l0 x7_1).f0),.int .i64 ((rd_T38 l0 x7_1).f1),.int .i64 ((rd_T38 l0 x7_1).f2.f0),.int .i64 ((rd_T38 l0 x7_1).f2.f1),.int .i64 ((rd_T38 l0 x7_1).f3)] 38 (0,0)) Q171 hb);replace HB:=am (below_step Q94 hb);(try clear hb);obtain ⟨hcz23_0,hcz23_1,hcz23_2,hcz23_3,hcz23_4,hfz23_0,hfz23_1,hfz23_2,hfz23_3,hfz23_4⟩:=bx5_ BK345))
          go_ret
          exact ⟨Q18,Q94⟩
         ·rw [if_neg c19] at H
          have c19b0 : decide (((rd_T38 l0 x7_1).f3) < (-99999)) = false:=decide_eq_false c19
          clear c19
          by_cases c24 : ((rd_T38 l0 x7_1).f3) > 99999
          ·rw [if_pos c24] at H
           have c24b0 : decide (99999 < ((rd_T38 l0 x7_1).f3)) = true:=decide_eq_true c24
           clear c24
           obtain rfl:=Option.some.inj H
           have p344 : 0 ≤ (x7_1 : Int):=of_decide_eq_true Q8
           have q344 : x7_1 < (l0.length : Int):=of_decide_eq_true Q8
           obtain ⟨ad344,e344,hx344_0,hx344_1,hx344_2,hx344_3,hx344_4⟩:=at_T38 HR0.out x7_1 p344 q344
           cases e344
           replace hx344_0:=cb_ HB hx344_0
           replace hx344_1:=cb_ HB hx344_1
           replace hx344_2:=cb_ HB hx344_2
           replace hx344_3:=cb_ HB hx344_3
           replace hx344_4:=cb_ HB hx344_4
           replace p344:=eq_true p344
           replace q344:=eq_true q344
           go_wp2_with (first|((with_reducible refine gate_dst (N:=4) rfl ?_);refine bE_ 4 #[.int .i64 0,.int .i64 0,.int .i64 0,.int .i64 0,.int .i64 0] 38 ?_;intro gb345 hg w25 hbox hb;have BK345:=am (hbox);have GW345:=am ((Q173 : w.heap.size ≤ gb345));replace HB:=am (below_step Q80 hb);have GE345:=GW345;clear hb hbox hg;obtain ⟨hcz26_0,hcz26_1,hcz26_2,hcz26_3,hcz26_4,hfz26_0,hfz26_1,hfz26_2,hfz26_3,hfz26_4⟩:=bx5_ BK345)|(go_at_call 62;(with_reducible refine (impl_TimeOk.calls ((rd_T38 l0 x7_1).f2.f0) ((rd_T38 l0 x7_1).f2.f1) true _ A17.out).mono ?_);rintro e w27 ⟨rfl,hb⟩;replace BK345:=am (blk_below (g:=gb345) (o:=.cells #[.int .i64 ((rd_T38 l0 x7_1).f0),.int .i64 ((rd_T38 l0 x7_1).f1),.int .i64 ((rd_T38 l0 x7_1).f2.f0),.int .i64 ((rd_T38 l0 x7_1).f2.f1),.int .i64 ((rd_T38 l0 x7_1).f3)] 38 (0,0)) Q171 hb);replace HB:=am (below_step Q94 hb);(try clear hb);obtain ⟨hcz28_0,hcz28_1,hcz28_2,hcz28_3,hcz28_4,hfz28_0,hfz28_1,hfz28_2,hfz28_3,hfz28_4⟩:=bx5_ BK345))
           go_ret
           exact ⟨Q18,Q94⟩
          ·rw [if_neg c24] at H
           have c24b0 : decide (99999 < ((rd_T38 l0 x7_1).f3)) = false:=decide_eq_false c24
           clear c24
           have H':=Aside0.mk H
           clear H
           have p344 : 0 ≤ (x7_1 : Int):=of_decide_eq_true Q8
           have q344 : x7_1 < (l0.length : Int):=of_decide_eq_true Q8
           obtain ⟨ad344,e344,hx344_0,hx344_1,hx344_2,hx344_3,hx344_4⟩:=at_T38 HR0.out x7_1 p344 q344
           cases e344
           replace hx344_0:=cb_ HB hx344_0
           replace hx344_1:=cb_ HB hx344_1
           replace hx344_2:=cb_ HB hx344_2
           replace hx344_3:=cb_ HB hx344_3
           replace hx344_4:=cb_ HB hx344_4
           replace p344:=eq_true p344
           replace q344:=eq_true q344
           go_wp2_with (first|((with_reducible refine gate_dst (N:=4) rfl ?_);refine bE_ 4 #[.int .i64 0,.int .i64 0,.int .i64 0,.int .i64 0,.int .i64 0] 38 ?_;intro gb345 hg w29 hbox hb;have BK345:=am (hbox);have GW345:=am ((Q173 : w.heap.size ≤ gb345));replace HB:=am (below_step Q80 hb);have GE345:=GW345;clear hb hbox hg;obtain ⟨hcz30_0,hcz30_1,hcz30_2,hcz30_3,hcz30_4,hfz30_0,hfz30_1,hfz30_2,hfz30_3,hfz30_4⟩:=bx5_ BK345)|(go_at_call 62;(with_reducible refine (impl_TimeOk.calls ((rd_T38 l0 x7_1).f2.f0) ((rd_T38 l0 x7_1).f2.f1) true _ A17.out).mono ?_);rintro e w31 ⟨rfl,hb⟩;replace BK345:=am (blk_below (g:=gb345) (o:=.cells #[.int .i64 ((rd_T38 l0 x7_1).f0),.int .i64 ((rd_T38 l0 x7_1).f1),.int .i64 ((rd_T38 l0 x7_1).f2.f0),.int .i64 ((rd_T38 l0 x7_1).f2.f1),.int .i64 ((rd_T38 l0 x7_1).f3)] 38 (0,0)) Q171 hb);replace HB:=am (below_step Q94 hb);(try clear hb);obtain ⟨hcz32_0,hcz32_1,hcz32_2,hcz32_3,hcz32_4,hfz32_0,hfz32_1,hfz32_2,hfz32_3,hfz32_4⟩:=bx5_ BK345))
           go_roundg k1
           case measure=>have:=HK1.out;omega
           case rel=>exact ⟨(wrap64 (x7_1 + 1)),Q7,H',⟨Q3⟩,⟨Q94⟩⟩
        ·replace c18:=Bool.eq_false_iff.mpr c18
         subst c18
         have H1 : (some false) = some r:=by rw [if_neg (show ¬ (false = true) by decide)] at H;exact H
         clear H
         have H:=H1
         clear H1
         obtain rfl:=Option.some.inj H
         have p344 : 0 ≤ (x7_1 : Int):=of_decide_eq_true Q8
         have q344 : x7_1 < (l0.length : Int):=of_decide_eq_true Q8
         obtain ⟨ad344,e344,hx344_0,hx344_1,hx344_2,hx344_3,hx344_4⟩:=at_T38 HR0.out x7_1 p344 q344
         cases e344
         replace hx344_0:=cb_ HB hx344_0
         replace hx344_1:=cb_ HB hx344_1
         replace hx344_2:=cb_ HB hx344_2
         replace hx344_3:=cb_ HB hx344_3
         replace hx344_4:=cb_ HB hx344_4
         replace p344:=eq_true p344
         replace q344:=eq_true q344
         go_wp2_with (first|((with_reducible refine gate_dst (N:=4) rfl ?_);refine bE_ 4 #[.int .i64 0,.int .i64 0,.int .i64 0,.int .i64 0,.int .i64 0] 38 ?_;intro gb345 hg w33 hbox hb;have BK345:=am (hbox);have GW345:=am ((Q173 : w.heap.size ≤ gb345));replace HB:=am (below_step Q80 hb);have GE345:=GW345;clear hb hbox hg;obtain ⟨hcz34_0,hcz34_1,hcz34_2,hcz34_3,hcz34_4,hfz34_0,hfz34_1,hfz34_2,hfz34_3,hfz34_4⟩:=bx5_ BK345)|(go_at_call 62;(with_reducible refine (impl_TimeOk.calls ((rd_T38 l0 x7_1).f2.f0) ((rd_T38 l0 x7_1).f2.f1) false _ A17.out).mono ?_);rintro e w35 ⟨rfl,hb⟩;replace BK345:=am (blk_below (g:=gb345) (o:=.cells #[.int .i64 ((rd_T38 l0 x7_1).f0),.int .i64 ((rd_T38 l0 x7_1).f1),.int .i64 ((rd_T38 l0 x7_1).f2.f0),.int .i64 ((rd_T38 l0 x7_1).f2.f1),.int .i64 ((rd_T38 l0 x7_1).f3)] 38 (0,0)) Q171 hb);replace HB:=am (below_step Q94 hb);(try clear hb)))
         go_ret
         exact ⟨Q18,Q94⟩
   ·rw [if_neg c2] at H
    have c2b0 : decide (x7_1 < (l0.length : Int)) = false:=decide_eq_false c2
    clear c2
    obtain rfl:=Option.some.inj H
    go_wp2
    go_ret
    exact ⟨Q18,Q80⟩
def impl_FrontOk.l0 : Nat → List (S36) → List (S36) → Int → Int → Option (Bool)
 | 0, _, _, _, _ => none
 | k + 1, x0, x5, x6, x7 => if x7 < x6 then (if 0 ≤ x7 then (if x7 < (x5.length : Int) then ((impl_TimeOk.f ((rd_T36 x5 x7).f0) ((rd_T36 x5 x7).f1)).bind fun t349 => (if t349 = true then (if x7 > 0 then (if 0 ≤ (wrap64 (x7 - 1)) then (if (wrap64 (x7 - 1)) < (x0.length : Int) then (if ((rd_T36 x0 (wrap64 (x7 - 1))).f0) ≥ ((rd_T36 x5 x7).f0) then (some false) else (if ((rd_T36 x0 (wrap64 (x7 - 1))).f1) ≤ ((rd_T36 x5 x7).f1) then (some false) else (impl_FrontOk.l0 k x0 x5 x6 (wrap64 (x7 + 1))))) else (none)) else (none)) else (impl_FrontOk.l0 k x0 x5 x6 (wrap64 (x7 + 1)))) else (some false))) else (none)) else (none)) else (some true)
def impl_FrontOk.f (k : Nat) (l0 : List (S36)) : Option (Bool) := impl_FrontOk.l0 k l0 l0 (l0.length : Int) 0
def impl_FrontOk.T4 : Bool × List (List Nat × List Nat) := (true, [([], []), ([0], [0]), ([1], [1]), ([2, 1], [2]), ([3], [3]), ([4, 3], [3, 4]), ([5, 3, 3], [3, 5]), ([6], [6]), ([6], [6]), ([8, 6], [6, 8]), ([7, 9, 6], [6, 7, 9]), ([10, 6], [6, 10]), ([11, 6], [6, 11]), ([6], [6]), ([13, 6], [6, 13]), ([12, 14, 6], [6, 12, 14]), ([15, 6, 6], [6, 15]), ([16], [16]), ([16], [16]), ([18, 16], [16, 18]), ([17, 19, 16], [16, 17, 19]), ([20, 16], [16, 20]), ([21, 16], [16, 21]), ([16], [16]), ([23, 16], [16, 23]), ([22, 24, 16], [16, 22, 24]), ([16, 25, 6], [6, 16, 25]), ([6, 26, 3], [3, 6, 26]), ([3, 27], [3, 27])])
def impl_FrontOk.B4 : List Nat := [0, 1, 3, 7, 15, 31, 63, 127, 127, 383, 1023, 2047, 4095, 127, 8319, 32767, 65535, 131071, 131071, 393215, 1048575, 2097151, 4194303, 131071, 8519679, 33554431, 67108863, 134217727, 268435455]
theorem impl_FrontOk.tab4 : rtab .any (opsOf Try.f53 4) = impl_FrontOk.T4:=by kernel_rfl
theorem impl_FrontOk.bits4 : waitsOk impl_FrontOk.T4.2 impl_FrontOk.B4 = true:=by kernel_rfl
set_option maxHeartbeats 8000000 in
set_option maxRecDepth 100000 in
theorem impl_FrontOk.calls (k : Nat) (A0 : Option Addr) (c0 : Nat) (l0 : List (S36)) (r : Bool) (w : World) (hr0 : Kd.C k36 w A0 l0.length l0) (hc0 : l0.length ≤ c0) (h : impl_FrontOk.f k l0 = some r) :
  Calls Try.prog 53 #[.slice A0 l0.length c0] w fun e w'=>e = .returned (.bool r) ∧ Below w.heap.size w w':=by
 have hu36:=Try.underlying36
 have HR0:=Aside0.mk hr0
 have HC0:=Aside0.mk hc0
 clear hr0 hc0
 have HB:=am (Below.refl w.heap.size w)
 have H : (impl_FrontOk.l0 k l0 l0 (l0.length : Int) 0) = some r:=h
 clear h
 have H':=Aside0.mk H
 clear H
 go_enter Try.func53,Try.ntmps53
 go_wp2
 go_loopg [7] k (fun kq v7 w'=>∃ (x7_1 : Int),v7 = .int .i64 x7_1 ∧ Aside0 (impl_FrontOk.l0 kq l0 l0 (l0.length : Int) x7_1 = some r) ∧ Aside0 (kq ≤ k) ∧ Aside0 (Below w.heap.size w w'))
 case atStart=>exact ⟨(0),Q7,H',⟨Nat.le_refl _⟩,⟨Q80⟩⟩
 case round =>
  clear H'
  obtain ⟨x7_1,rfl,HA,HK1,HB⟩:=hrel
  cases gk with
  | zero=>exact absurd HA.out (by simp [impl_FrontOk.l0])
  | succ k1 =>
   have H:=HA.out
   clear HA
   simp only [impl_FrontOk.l0] at H
   by_cases c2 : x7_1 < (l0.length : Int)
   ·rw [if_pos c2] at H
    have c2b0 : decide (x7_1 < (l0.length : Int)) = true:=decide_eq_true c2
    clear c2
    have c3 : 0 ≤ x7_1:=nn_ H
    rw [if_pos c3] at H
    have c3b0 : decide (0 ≤ x7_1) = true:=decide_eq_true c3
    clear c3
    have c4 : x7_1 < (l0.length : Int):=nn_ H
    rw [if_pos c4] at H
    have c4b0 : decide (x7_1 < (l0.length : Int)) = true:=decide_eq_true c4
    clear c4
    replace H:=Option.bind_eq_some_iff.mp H
    obtain ⟨t349,A50,H⟩:=H
    replace H : (if t349 = true then (if x7_1 > 0 then (if 0 ≤ (wrap64 (x7_1 - 1)) then (if (wrap64 (x7_1 - 1)) < (l0.length : Int) then (if ((rd_T36 l0 (wrap64 (x7_1 - 1))).f0) ≥ ((rd_T36 l0 x7_1).f0) then (some false) else (if ((rd_T36 l0 (wrap64 (x7_1 - 1))).f1) ≤ ((rd_T36 l0 x7_1).f1) then (some false) else (impl_FrontOk.l0 k1 l0 l0 (l0.length : Int) (wrap64 (x7_1 + 1))))) else (none)) else (none)) else (impl_FrontOk.l0 k1 l0 l0 (l0.length : Int) (wrap64 (x7_1 + 1)))) else (some false)) = some r:=H
    have A5:=Aside0.mk A50
    clear A50
    by_cases c6 : t349 = true
    ·subst c6
     have H1 : (if x7_1 > 0 then (if 0 ≤ (wrap64 (x7_1 - 1)) then (if (wrap64 (x7_1 - 1)) < (l0.length : Int) then (if ((rd_T36 l0 (wrap64 (x7_1 - 1))).f0) ≥ ((rd_T36 l0 x7_1).f0) then (some false) else (if ((rd_T36 l0 (wrap64 (x7_1 - 1))).f1) ≤ ((rd_T36 l0 x7_1).f1) then (some false) else (impl_FrontOk.l0 k1 l0 l0 (l0.length : Int) (wrap64 (x7_1 + 1))))) else (none)) else (none)) else (impl_FrontOk.l0 k1 l0 l0 (l0.length : Int) (wrap64 (x7_1 + 1)))) = some r:=by rw [if_pos rfl] at H;exact H
     clear H
     have H:=H1
     clear H1
     by_cases c7 : x7_1 > 0
     ·rw [if_pos c7] at H
      have c7b0 : decide (0 < x7_1) = true:=decide_eq_true c7
      clear c7
      obtain ⟨ji8,hji8⟩ : ∃ j_ : Int,(wrap64 (x7_1 - 1)) = j_:=⟨_,rfl⟩
      replace H : (if 0 ≤ (ji8) then (if (ji8) < (l0.length : Int) then (if ((rd_T36 l0 (ji8)).f0) ≥ ((rd_T36 l0 x7_1).f0) then (some false) else (if ((rd_T36 l0 (ji8)).f1) ≤ ((rd_T36 l0 x7_1).f1) then (some false) else (impl_FrontOk.l0 k1 l0 l0 (l0.length : Int) (wrap64 (x7_1 + 1))))) else (none)) else (none)) = some r:=Q11
      (try rw [hji8] at A5)
      have hji8w : (IntKind.i64.wrap (x7_1 - 1)) = ji8:=(i64_w _).trans hji8
      have c9 : 0 ≤ (ji8):=nn_ H
      rw [if_pos c9] at H
      have c9b0 : decide (0 ≤ (ji8)) = true:=decide_eq_true c9
      clear c9
      have c10 : (ji8) < (l0.length : Int):=nn_ H
      rw [if_pos c10] at H
      have c10b0 : decide ((ji8) < (l0.length : Int)) = true:=decide_eq_true c10
      clear c10
      by_cases c11 : ((rd_T36 l0 (ji8)).f0) ≥ ((rd_T36 l0 x7_1).f0)
      ·rw [if_pos c11] at H
       have c11b0 : decide (((rd_T36 l0 x7_1).f0) ≤ ((rd_T36 l0 (ji8)).f0)) = true:=decide_eq_true c11
       clear c11
       obtain rfl:=Option.some.inj H
       have p347 : 0 ≤ (x7_1 : Int):=of_decide_eq_true Q8
       have q347 : x7_1 < (l0.length : Int):=of_decide_eq_true Q8
       obtain ⟨ad347,e347,hx347_0,hx347_1⟩:=at_T36 HR0.out x7_1 p347 q347
       cases e347
       replace hx347_0:=cb_ HB hx347_0
       replace hx347_1:=cb_ HB hx347_1
       replace p347:=eq_true p347
       replace q347:=eq_true q347
       try go_wp2_with (first|((with_reducible refine gate_dst (N:=4) rfl ?_);refine bE_ 4 #[.int .i64 0,.int .i64 0] 36 ?_;intro gb348 hg w12 hbox hb;have BK348:=am (hbox);have GW348:=am ((Q173 : w.heap.size ≤ gb348));replace HB:=am (below_step Q80 hb);have GE348:=GW348;clear hb hbox hg;obtain ⟨hcz13_0,hcz13_1,hfz13_0,hfz13_1⟩:=bx2_ BK348))
       have n0_ : Aside0 (((w12.setCell ⟨gb348,0,none⟩ (.int .i64 ((rd_T36 l0 x7_1).f0))).setCell ⟨gb348,1,none⟩ (.int .i64 ((rd_T36 l0 x7_1).f1))).heap[gb348]? = some (.cells #[.int .i64 ((rd_T36 l0 x7_1).f0),.int .i64 ((rd_T36 l0 x7_1).f1)] 36 (0,0))):=⟨Q169⟩
       have n1_ : Aside0 (Below w.heap.size w ((w12.setCell ⟨gb348,0,none⟩ (.int .i64 ((rd_T36 l0 x7_1).f0))).setCell ⟨gb348,1,none⟩ (.int .i64 ((rd_T36 l0 x7_1).f1)))):=⟨Q95⟩
       (try clear BK348)
       (try clear HB)
       generalize ((w12.setCell ⟨gb348,0,none⟩ (.int .i64 ((rd_T36 l0 x7_1).f0))).setCell ⟨gb348,1,none⟩ (.int .i64 ((rd_T36 l0 x7_1).f1))) = w14 at n0_ n1_ ⊢
       have BK348:=n0_
       have HB:=n1_
       clear n0_ n1_
       replace BK348:=am (blk_drew BK348.out)
       replace HB:=am (below_drew1 HB.out)
       have p350 : 0 ≤ ((ji8) : Int):=of_decide_eq_true Q8
       have q350 : (ji8) < (l0.length : Int):=of_decide_eq_true Q8
       obtain ⟨ad350,e350,hx350_0,hx350_1⟩:=at_T36 HR0.out (ji8) p350 q350
       have hw350_1:=hx350_1
       have hw350_0:=hx350_0
       obtain rfl : ad347 = ad350:=(by injection e350)
       replace hx350_0:=cb_ HB hx350_0
       replace hx350_1:=cb_ HB hx350_1
       replace p350:=eq_true p350
       replace q350:=eq_true q350
       refine start_ (n:=29) (S:=fun w'=>w'.cell? ⟨gb348,0,none⟩ = some (.int .i64 ((rd_T36 l0 x7_1).f0)) ∧ w'.cell? ⟨gb348,1,none⟩ = some (.int .i64 ((rd_T36 l0 x7_1).f1)) ∧ w'.cell? (ad347.add (((ji8)).toNat * 2)) = some (.int .i64 ((rd_T36 l0 (ji8)).f0)) ∧ w'.cell? ⟨(ad347.add (((ji8)).toNat * 2)).block,(ad347.add (((ji8)).toNat * 2)).off + 1,none⟩ = some (.int .i64 ((rd_T36 l0 (ji8)).f1))) (ds:=[]) b29_0 Q1 rfl rfl ⟨(blk_cell BK348.out 0).trans rfl,(blk_cell BK348.out 1).trans rfl,(cb_ HB hw350_0:),(cb_ HB hw350_1:)⟩ (fun hHeld=>?_);refine with_tabW impl_FrontOk.tab4 impl_FrontOk.bits4 (fun HT_ HW_=>?_)
       generalize w14.drew = w15 at BK348 HB hx350_0 hx350_1 hHeld ⊢
       refine tU_ 0 12 b29_1 hHeld ?_
       refine one_ (i:=1) (N:=some 13) b29_2 rfl rfl (one_of HT_.out Q1) Q0 (fun K hK=>?_)
       refine goes_ Try.func62 Q1 rfl #[.agg #[.int .i64 ((rd_T36 l0 x7_1).f0),.int .i64 ((rd_T36 l0 x7_1).f1)]] (by rfl) rfl rfl Q84 ?_
       with_reducible refine (impl_TimeOk.calls ((rd_T36 l0 x7_1).f0) ((rd_T36 l0 x7_1).f1) true _ A5.out).mono ?_
       rintro e w16 ⟨rfl,hb⟩
       refine ⟨_,rfl,?_⟩
       replace BK348:=am (blk_below (g:=gb348) (o:=.cells #[.int .i64 ((rd_T36 l0 x7_1).f0),.int .i64 ((rd_T36 l0 x7_1).f1)] 36 (0,0)) Q50 hb)
       replace HB:=am (below_step Q95 hb)
       (try clear hb)
       (try clear hb2)
       (try clear hk)
       (try clear hi)
       refine hK.out _ _ ⟨(blk_cell BK348.out 0).trans rfl,(blk_cell BK348.out 1).trans rfl,(cb_ HB hw350_0:),(cb_ HB hw350_1:)⟩ (fun hHeld=>?_)
       clear hK K
       refine norm_ (a':=?_) ?_ ?_
       rotate_left
       ·show Act.put _ (some 13) _ = _
        simp only [Act.put,sA_,sZ_,sS_,i64_w,i32_w]
        rfl
       refine pU_ 2 14 b29_3 ?_
       refine pU_ 3 15 b29_4 ?_
       refine pU_ 4 16 b29_5 ?_
       refine pU_ 5 17 b29_6 ?_
       refine pU_ 6 18 b29_7 ?_
       refine pU_ 7 19 b29_8 ?_
       refine pU_ 8 20 b29_9 ?_
       refine pU_ 9 21 b29_10 ?_
       refine pU_ 10 22 b29_11 ?_
       refine pU_ 11 23 b29_12 ?_
       refine pU_ 13 25 c50 ?_
       refine tU_ 12 24 b29_14 hHeld ?_
       refine tU_ 14 26 b29_15 hHeld ?_
       refine pU_ 15 27 b29_16 ?_
       refine pU_ 16 28 b29_17 ?_
       refine pV_ 17 29 b29_18 ?_
       refine pV_ 18 30 b29_19 ?_
       refine pV_ 19 31 b29_20 ?_
       refine pV_ 20 32 b29_21 ?_
       refine pV_ 21 33 b29_22 ?_
       refine pV_ 22 34 b29_23 ?_
       refine pV_ 23 35 b29_24 ?_
       refine pV_ 24 36 b29_25 ?_
       refine pV_ 25 37 b29_26 ?_
       refine pU_ 26 38 b29_27 ?_
       refine pU_ 27 39 b29_28 ?_
       refine pU_ 28 40 b29_29 ?_
       refine done_ (done_of HT_.out Q1) ?_
       try go_wp2
       go_ret
       exact ⟨by first|rfl|(simp [errW_none,errW_some] <;> rfl)|(simp only [← hji8];first|rfl|(simp [errW_none,errW_some] <;> rfl))|(simp [*,errW_none,errW_some] <;> rfl),Q95⟩
      ·rw [if_neg c11] at H
       have c11b0 : decide (((rd_T36 l0 x7_1).f0) ≤ ((rd_T36 l0 (ji8)).f0)) = false:=decide_eq_false c11
       clear c11
       by_cases c17 : ((rd_T36 l0 (ji8)).f1) ≤ ((rd_T36 l0 x7_1).f1)
       ·rw [if_pos c17] at H
        have c17b0 : decide (((rd_T36 l0 (ji8)).f1) ≤ ((rd_T36 l0 x7_1).f1)) = true:=decide_eq_true c17
        clear c17
        obtain rfl:=Option.some.inj H
        have p347 : 0 ≤ (x7_1 : Int):=of_decide_eq_true Q8
        have q347 : x7_1 < (l0.length : Int):=of_decide_eq_true Q8
        obtain ⟨ad347,e347,hx347_0,hx347_1⟩:=at_T36 HR0.out x7_1 p347 q347
        cases e347
        replace hx347_0:=cb_ HB hx347_0
        replace hx347_1:=cb_ HB hx347_1
        replace p347:=eq_true p347
        replace q347:=eq_true q347
        try go_wp2_with (first|((with_reducible refine gate_dst (N:=4) rfl ?_);refine bE_ 4 #[.int .i64 0,.int .i64 0] 36 ?_;intro gb348 hg w18 hbox hb;have BK348:=am (hbox);have GW348:=am ((Q173 : w.heap.size ≤ gb348));replace HB:=am (below_step Q80 hb);have GE348:=GW348;clear hb hbox hg;obtain ⟨hcz19_0,hcz19_1,hfz19_0,hfz19_1⟩:=bx2_ BK348))
        have n0_ : Aside0 (((w18.setCell ⟨gb348,0,none⟩ (.int .i64 ((rd_T36 l0 x7_1).f0))).setCell ⟨gb348,1,none⟩ (.int .i64 ((rd_T36 l0 x7_1).f1))).heap[gb348]? = some (.cells #[.int .i64 ((rd_T36 l0 x7_1).f0),.int .i64 ((rd_T36 l0 x7_1).f1)] 36 (0,0))):=⟨Q169⟩
        have n1_ : Aside0 (Below w.heap.size w ((w18.setCell ⟨gb348,0,none⟩ (.int .i64 ((rd_T36 l0 x7_1).f0))).setCell ⟨gb348,1,none⟩ (.int .i64 ((rd_T36 l0 x7_1).f1)))):=⟨Q95⟩
        (try clear BK348)
        (try clear HB)
        generalize ((w18.setCell ⟨gb348,0,none⟩ (.int .i64 ((rd_T36 l0 x7_1).f0))).setCell ⟨gb348,1,none⟩ (.int .i64 ((rd_T36 l0 x7_1).f1))) = w20 at n0_ n1_ ⊢
        have BK348:=n0_
        have HB:=n1_
        clear n0_ n1_
        replace BK348:=am (blk_drew BK348.out)
        replace HB:=am (below_drew1 HB.out)
        have p350 : 0 ≤ ((ji8) : Int):=of_decide_eq_true Q8
        have q350 : (ji8) < (l0.length : Int):=of_decide_eq_true Q8
        obtain ⟨ad350,e350,hx350_0,hx350_1⟩:=at_T36 HR0.out (ji8) p350 q350
        have hw350_1:=hx350_1
        have hw350_0:=hx350_0
        obtain rfl : ad347 = ad350:=(by injection e350)
        replace hx350_0:=cb_ HB hx350_0
        replace hx350_1:=cb_ HB hx350_1
        replace p350:=eq_true p350
        replace q350:=eq_true q350
        have p351 : 0 ≤ ((ji8) : Int):=of_decide_eq_true Q8
        have q351 : (ji8) < (l0.length : Int):=of_decide_eq_true Q8
        obtain ⟨ad351,e351,hx351_0,hx351_1⟩:=at_T36 HR0.out (ji8) p351 q351
        have hw351_1:=hx351_1
        have hw351_0:=hx351_0
        obtain rfl : ad347 = ad351:=(by injection e351)
        replace hx351_0:=cb_ HB hx351_0
        replace hx351_1:=cb_ HB hx351_1
        replace p351:=eq_true p351
        replace q351:=eq_true q351
        refine start_ (n:=29) (S:=fun w'=>w'.cell? ⟨gb348,0,none⟩ = some (.int .i64 ((rd_T36 l0 x7_1).f0)) ∧ w'.cell? ⟨gb348,1,none⟩ = some (.int .i64 ((rd_T36 l0 x7_1).f1)) ∧ w'.cell? (ad347.add (((ji8)).toNat * 2)) = some (.int .i64 ((rd_T36 l0 (ji8)).f0)) ∧ w'.cell? ⟨(ad347.add (((ji8)).toNat * 2)).block,(ad347.add (((ji8)).toNat * 2)).off + 1,none⟩ = some (.int .i64 ((rd_T36 l0 (ji8)).f1)) ∧ w'.cell? (ad347.add (((ji8)).toNat * 2)) = some (.int .i64 ((rd_T36 l0 (ji8)).f0)) ∧ w'.cell? ⟨(ad347.add (((ji8)).toNat * 2)).block,(ad347.add (((ji8)).toNat * 2)).off + 1,none⟩ = some (.int .i64 ((rd_T36 l0 (ji8)).f1))) (ds:=[]) b29_0 Q1 rfl rfl ⟨(blk_cell BK348.out 0).trans rfl,(blk_cell BK348.out 1).trans rfl,(cb_ HB hw350_0:),(cb_ HB hw350_1:),(cb_ HB hw351_0:),(cb_ HB hw351_1:)⟩ (fun hHeld=>?_);refine with_tabW impl_FrontOk.tab4 impl_FrontOk.bits4 (fun HT_ HW_=>?_)
        generalize w20.drew = w21 at BK348 HB hx350_0 hx350_1 hx351_0 hx351_1 hHeld ⊢
        refine tU_ 0 12 b29_1 hHeld ?_
        refine one_ (i:=1) (N:=some 13) b29_2 rfl rfl (one_of HT_.out Q1) Q0 (fun K hK=>?_)
        refine goes_ Try.func62 Q1 rfl #[.agg #[.int .i64 ((rd_T36 l0 x7_1).f0),.int .i64 ((rd_T36 l0 x7_1).f1)]] (by rfl) rfl rfl Q84 ?_
        with_reducible refine (impl_TimeOk.calls ((rd_T36 l0 x7_1).f0) ((rd_T36 l0 x7_1).f1) true _ A5.out).mono ?_
        rintro e w22 ⟨rfl,hb⟩
        refine ⟨_,rfl,?_⟩
        replace BK348:=am (blk_below (g:=gb348) (o:=.cells #[.int .i64 ((rd_T36 l0 x7_1).f0),.int .i64 ((rd_T36 l0 x7_1).f1)] 36 (0,0)) Q50 hb)
        replace HB:=am (below_step Q95 hb)
        (try clear hb)
        (try clear hb2)
        (try clear hk)
        (try clear hi)
        refine hK.out _ _ ⟨(blk_cell BK348.out 0).trans rfl,(blk_cell BK348.out 1).trans rfl,(cb_ HB hw350_0:),(cb_ HB hw350_1:),(cb_ HB hw351_0:),(cb_ HB hw351_1:)⟩ (fun hHeld=>?_)
        clear hK K
        refine norm_ (a':=?_) ?_ ?_
        rotate_left
        ·show Act.put _ (some 13) _ = _
         simp only [Act.put,sA_,sZ_,sS_,i64_w,i32_w]
         rfl
        refine pU_ 2 14 b29_3 ?_
        refine pU_ 3 15 b29_4 ?_
        refine pU_ 4 16 b29_5 ?_
        refine pU_ 5 17 b29_6 ?_
        refine pU_ 6 18 b29_7 ?_
        refine pU_ 7 19 b29_8 ?_
        refine pU_ 8 20 b29_9 ?_
        refine pU_ 9 21 b29_10 ?_
        refine pU_ 10 22 b29_11 ?_
        refine pU_ 11 23 b29_12 ?_
        refine pU_ 13 25 c50 ?_
        refine tU_ 12 24 b29_14 hHeld ?_
        refine tU_ 14 26 b29_15 hHeld ?_
        refine pU_ 15 27 b29_16 ?_
        refine pU_ 16 28 b29_17 ?_
        refine pU_ 17 29 b29_18 ?_
        refine pU_ 18 30 b29_19 ?_
        refine pU_ 19 31 b29_20 ?_
        refine pU_ 20 32 b29_21 ?_
        refine pU_ 21 33 b29_22 ?_
        refine pU_ 23 35 c67 ?_
        refine tU_ 22 34 b29_24 hHeld ?_
        refine tU_ 24 36 b29_25 hHeld ?_
        refine pU_ 25 37 b29_26 ?_
        refine pU_ 26 38 b29_27 ?_
        refine pU_ 27 39 b29_28 ?_
        refine pU_ 28 40 b29_29 ?_
        refine done_ (done_of HT_.out Q1) ?_
        try go_wp2
        go_ret
        exact ⟨by first|rfl|(simp [errW_none,errW_some] <;> rfl)|(simp only [← hji8];first|rfl|(simp [errW_none,errW_some] <;> rfl))|(simp [*,errW_none,errW_some] <;> rfl),Q95⟩
       ·rw [if_neg c17] at H
        have c17b0 : decide (((rd_T36 l0 (ji8)).f1) ≤ ((rd_T36 l0 x7_1).f1)) = false:=decide_eq_false c17
        clear c17
        have H':=Aside0.mk H
        clear H
        have p347 : 0 ≤ (x7_1 : Int):=of_decide_eq_true Q8
        have q347 : x7_1 < (l0.length : Int):=of_decide_eq_true Q8
        obtain ⟨ad347,e347,hx347_0,hx347_1⟩:=at_T36 HR0.out x7_1 p347 q347
        cases e347
        replace hx347_0:=cb_ HB hx347_0
        replace hx347_1:=cb_ HB hx347_1
        replace p347:=eq_true p347
        replace q347:=eq_true q347
        try go_wp2_with (first|((with_reducible refine gate_dst (N:=4) rfl ?_);refine bE_ 4 #[.int .i64 0,.int .i64 0] 36 ?_;intro gb348 hg w23 hbox hb;have BK348:=am (hbox);have GW348:=am ((Q173 : w.heap.size ≤ gb348));replace HB:=am (below_step Q80 hb);have GE348:=GW348;clear hb hbox hg;obtain ⟨hcz24_0,hcz24_1,hfz24_0,hfz24_1⟩:=bx2_ BK348))
        have n0_ : Aside0 (((w23.setCell ⟨gb348,0,none⟩ (.int .i64 ((rd_T36 l0 x7_1).f0))).setCell ⟨gb348,1,none⟩ (.int .i64 ((rd_T36 l0 x7_1).f1))).heap[gb348]? = some (.cells #[.int .i64 ((rd_T36 l0 x7_1).f0),.int .i64 ((rd_T36 l0 x7_1).f1)] 36 (0,0))):=⟨Q169⟩
        have n1_ : Aside0 (Below w.heap.size w ((w23.setCell ⟨gb348,0,none⟩ (.int .i64 ((rd_T36 l0 x7_1).f0))).setCell ⟨gb348,1,none⟩ (.int .i64 ((rd_T36 l0 x7_1).f1)))):=⟨Q95⟩
        (try clear BK348)
        (try clear HB)
        generalize ((w23.setCell ⟨gb348,0,none⟩ (.int .i64 ((rd_T36 l0 x7_1).f0))).setCell ⟨gb348,1,none⟩ (.int .i64 ((rd_T36 l0 x7_1).f1))) = w25 at n0_ n1_ ⊢
        have BK348:=n0_
        have HB:=n1_
        clear n0_ n1_
        replace BK348:=am (blk_drew BK348.out)
        replace HB:=am (below_drew1 HB.out)
        have p350 : 0 ≤ ((ji8) : Int):=of_decide_eq_true Q8
        have q350 : (ji8) < (l0.length : Int):=of_decide_eq_true Q8
        obtain ⟨ad350,e350,hx350_0,hx350_1⟩:=at_T36 HR0.out (ji8) p350 q350
        have hw350_1:=hx350_1
        have hw350_0:=hx350_0
        obtain rfl : ad347 = ad350:=(by injection e350)
        replace hx350_0:=cb_ HB hx350_0
        replace hx350_1:=cb_ HB hx350_1
        replace p350:=eq_true p350
        replace q350:=eq_true q350
        have p351 : 0 ≤ ((ji8) : Int):=of_decide_eq_true Q8
        have q351 : (ji8) < (l0.length : Int):=of_decide_eq_true Q8
        obtain ⟨ad351,e351,hx351_0,hx351_1⟩:=at_T36 HR0.out (ji8) p351 q351
        have hw351_1:=hx351_1
        have hw351_0:=hx351_0
        obtain rfl : ad347 = ad351:=(by injection e351)
        replace hx351_0:=cb_ HB hx351_0
        replace hx351_1:=cb_ HB hx351_1
        replace p351:=eq_true p351
        replace q351:=eq_true q351
        refine start_ (n:=29) (S:=fun w'=>w'.cell? ⟨gb348,0,none⟩ = some (.int .i64 ((rd_T36 l0 x7_1).f0)) ∧ w'.cell? ⟨gb348,1,none⟩ = some (.int .i64 ((rd_T36 l0 x7_1).f1)) ∧ w'.cell? (ad347.add (((ji8)).toNat * 2)) = some (.int .i64 ((rd_T36 l0 (ji8)).f0)) ∧ w'.cell? ⟨(ad347.add (((ji8)).toNat * 2)).block,(ad347.add (((ji8)).toNat * 2)).off + 1,none⟩ = some (.int .i64 ((rd_T36 l0 (ji8)).f1)) ∧ w'.cell? (ad347.add (((ji8)).toNat * 2)) = some (.int .i64 ((rd_T36 l0 (ji8)).f0)) ∧ w'.cell? ⟨(ad347.add (((ji8)).toNat * 2)).block,(ad347.add (((ji8)).toNat * 2)).off + 1,none⟩ = some (.int .i64 ((rd_T36 l0 (ji8)).f1))) (ds:=[]) b29_0 Q1 rfl rfl ⟨(blk_cell BK348.out 0).trans rfl,(blk_cell BK348.out 1).trans rfl,(cb_ HB hw350_0:),(cb_ HB hw350_1:),(cb_ HB hw351_0:),(cb_ HB hw351_1:)⟩ (fun hHeld=>?_);refine with_tabW impl_FrontOk.tab4 impl_FrontOk.bits4 (fun HT_ HW_=>?_)
        generalize w25.drew = w26 at BK348 HB hx350_0 hx350_1 hx351_0 hx351_1 hHeld ⊢
        refine tU_ 0 12 b29_1 hHeld ?_
        refine one_ (i:=1) (N:=some 13) b29_2 rfl rfl (one_of HT_.out Q1) Q0 (fun K hK=>?_)
        refine goes_ Try.func62 Q1 rfl #[.agg #[.int .i64 ((rd_T36 l0 x7_1).f0),.int .i64 ((rd_T36 l0 x7_1).f1)]] (by rfl) rfl rfl Q84 ?_
        with_reducible refine (impl_TimeOk.calls ((rd_T36 l0 x7_1).f0) ((rd_T36 l0 x7_1).f1) true _ A5.out).mono ?_
        rintro e w27 ⟨rfl,hb⟩
        refine ⟨_,rfl,?_⟩
        replace BK348:=am (blk_below (g:=gb348) (o:=.cells #[.int .i64 ((rd_T36 l0 x7_1).f0),.int .i64 ((rd_T36 l0 x7_1).f1)] 36 (0,0)) Q50 hb)
        replace HB:=am (below_step Q95 hb)
        (try clear hb)
        (try clear hb2)
        (try clear hk)
        (try clear hi)
        refine hK.out _ _ ⟨(blk_cell BK348.out 0).trans rfl,(blk_cell BK348.out 1).trans rfl,(cb_ HB hw350_0:),(cb_ HB hw350_1:),(cb_ HB hw351_0:),(cb_ HB hw351_1:)⟩ (fun hHeld=>?_)
        clear hK K
        refine norm_ (a':=?_) ?_ ?_
        rotate_left
        ·show Act.put _ (some 13) _ = _
         simp only [Act.put,sA_,sZ_,sS_,i64_w,i32_w]
         rfl
        refine pU_ 2 14 b29_3 ?_
        refine pU_ 3 15 b29_4 ?_
        refine pU_ 4 16 b29_5 ?_
        refine pU_ 5 17 b29_6 ?_
        refine pU_ 6 18 b29_7 ?_
        refine pU_ 7 19 b29_8 ?_
        refine pU_ 8 20 b29_9 ?_
        refine pU_ 9 21 b29_10 ?_
        refine pU_ 10 22 b29_11 ?_
        refine pU_ 11 23 b29_12 ?_
        refine pU_ 13 25 c50 ?_
        refine tU_ 12 24 b29_14 hHeld ?_
        refine tU_ 14 26 b29_15 hHeld ?_
        refine pU_ 15 27 b29_16 ?_
        refine pU_ 16 28 b29_17 ?_
        refine pU_ 17 29 b29_18 ?_
        refine pU_ 18 30 b29_19 ?_
        refine pU_ 19 31 b29_20 ?_
        refine pU_ 20 32 b29_21 ?_
        refine pU_ 21 33 b29_22 ?_
        refine pU_ 23 35 c67 ?_
        refine tU_ 22 34 b29_24 hHeld ?_
        refine tU_ 24 36 b29_25 hHeld ?_
        refine pU_ 25 37 b29_26 ?_
        refine pU_ 26 38 b29_27 ?_
        refine pU_ 27 39 b29_28 ?_
        refine pU_ 28 40 b29_29 ?_
        refine done_ (done_of HT_.out Q1) ?_
        try go_wp2
        go_roundg k1
        case measure=>have:=HK1.out;omega
        case rel=>exact ⟨(wrap64 (x7_1 + 1)),Q7,H',⟨Q3⟩,⟨Q95⟩⟩
     ·rw [if_neg c7] at H
      have c7b0 : decide (0 < x7_1) = false:=decide_eq_false c7
      clear c7
      have H':=Aside0.mk H
      clear H
      have p347 : 0 ≤ (x7_1 : Int):=of_decide_eq_true Q8
      have q347 : x7_1 < (l0.length : Int):=of_decide_eq_true Q8
      obtain ⟨ad347,e347,hx347_0,hx347_1⟩:=at_T36 HR0.out x7_1 p347 q347
      cases e347
      replace hx347_0:=cb_ HB hx347_0
      replace hx347_1:=cb_ HB hx347_1
      replace p347:=eq_true p347
      replace q347:=eq_true q347
      try go_wp2_with (first|((with_reducible refine gate_dst (N:=4) rfl ?_);refine bE_ 4 #[.int .i64 0,.int .i64 0] 36 ?_;intro gb348 hg w28 hbox hb;have BK348:=am (hbox);have GW348:=am ((Q173 : w.heap.size ≤ gb348));replace HB:=am (below_step Q80 hb);have GE348:=GW348;clear hb hbox hg;obtain ⟨hcz29_0,hcz29_1,hfz29_0,hfz29_1⟩:=bx2_ BK348))
      have n0_ : Aside0 (((w28.setCell ⟨gb348,0,none⟩ (.int .i64 ((rd_T36 l0 x7_1).f0))).setCell ⟨gb348,1,none⟩ (.int .i64 ((rd_T36 l0 x7_1).f1))).heap[gb348]? = some (.cells #[.int .i64 ((rd_T36 l0 x7_1).f0),.int .i64 ((rd_T36 l0 x7_1).f1)] 36 (0,0))):=⟨Q169⟩
      have n1_ : Aside0 (Below w.heap.size w ((w28.setCell ⟨gb348,0,none⟩ (.int .i64 ((rd_T36 l0 x7_1).f0))).setCell ⟨gb348,1,none⟩ (.int .i64 ((rd_T36 l0 x7_1).f1)))):=⟨Q95⟩
      (try clear BK348)
      (try clear HB)
      generalize ((w28.setCell ⟨gb348,0,none⟩ (.int .i64 ((rd_T36 l0 x7_1).f0))).setCell ⟨gb348,1,none⟩ (.int .i64 ((rd_T36 l0 x7_1).f1))) = w30 at n0_ n1_ ⊢
      have BK348:=n0_
      have HB:=n1_
      clear n0_ n1_
      replace BK348:=am (blk_drew BK348.out)
      replace HB:=am (below_drew1 HB.out)
      refine start_ (n:=29) (S:=fun w'=>w'.cell? ⟨gb348,0,none⟩ = some (.int .i64 ((rd_T36 l0 x7_1).f0)) ∧ w'.cell? ⟨gb348,1,none⟩ = some (.int .i64 ((rd_T36 l0 x7_1).f1))) (ds:=[]) b29_0 Q1 rfl rfl ⟨(blk_cell BK348.out 0).trans rfl,(blk_cell BK348.out 1).trans rfl⟩ (fun hHeld=>?_);refine with_tabW impl_FrontOk.tab4 impl_FrontOk.bits4 (fun HT_ HW_=>?_)
      generalize w30.drew = w31 at BK348 HB hHeld ⊢
      refine tU_ 0 12 b29_1 hHeld ?_
      refine one_ (i:=1) (N:=some 13) b29_2 rfl rfl (one_of HT_.out Q1) Q0 (fun K hK=>?_)
      refine goes_ Try.func62 Q1 rfl #[.agg #[.int .i64 ((rd_T36 l0 x7_1).f0),.int .i64 ((rd_T36 l0 x7_1).f1)]] (by rfl) rfl rfl Q84 ?_
      with_reducible refine (impl_TimeOk.calls ((rd_T36 l0 x7_1).f0) ((rd_T36 l0 x7_1).f1) true _ A5.out).mono ?_
      rintro e w32 ⟨rfl,hb⟩
      refine ⟨_,rfl,?_⟩
      replace BK348:=am (blk_below (g:=gb348) (o:=.cells #[.int .i64 ((rd_T36 l0 x7_1).f0),.int .i64 ((rd_T36 l0 x7_1).f1)] 36 (0,0)) Q50 hb)
      replace HB:=am (below_step Q95 hb)
      (try clear hb)
      (try clear hb2)
      (try clear hk)
      (try clear hi)
      refine hK.out _ _ ⟨(blk_cell BK348.out 0).trans rfl,(blk_cell BK348.out 1).trans rfl⟩ (fun hHeld=>?_)
      clear hK K
      refine norm_ (a':=?_) ?_ ?_
      rotate_left
      ·show Act.put _ (some 13) _ = _
       simp only [Act.put,sA_,sZ_,sS_,i64_w,i32_w]
       rfl
      refine pU_ 2 14 b29_3 ?_
      refine pU_ 3 15 b29_4 ?_
      refine pU_ 4 16 b29_5 ?_
      refine pU_ 5 17 b29_6 ?_
      refine pU_ 6 18 b29_7 ?_
      refine pV_ 7 19 b29_8 ?_
      refine pV_ 8 20 b29_9 ?_
      refine pV_ 9 21 b29_10 ?_
      refine pV_ 10 22 b29_11 ?_
      refine pV_ 11 23 b29_12 ?_
      refine pV_ 12 24 b29_13 ?_
      refine pV_ 13 25 b29_14 ?_
      refine pV_ 14 26 b29_15 ?_
      refine pV_ 15 27 b29_16 ?_
      refine pV_ 16 28 b29_17 ?_
      refine pV_ 17 29 b29_18 ?_
      refine pV_ 18 30 b29_19 ?_
      refine pV_ 19 31 b29_20 ?_
      refine pV_ 20 32 b29_21 ?_
      refine pV_ 21 33 b29_22 ?_
      refine pV_ 22 34 b29_23 ?_
      refine pV_ 23 35 b29_24 ?_
      refine pV_ 24 36 b29_25 ?_
      refine pV_ 25 37 b29_26 ?_
      refine pV_ 26 38 b29_27 ?_
      refine pU_ 27 39 b29_28 ?_
      refine pU_ 28 40 b29_29 ?_
      refine done_ (done_of HT_.out Q1) ?_
      try go_wp2
      go_roundg k1
      case measure=>have:=HK1.out;omega
      case rel=>exact ⟨(wrap64 (x7_1 + 1)),Q7,H',⟨Q3⟩,⟨Q95⟩⟩
    ·replace c6:=Bool.eq_false_iff.mpr c6
     subst c6
     have H1 : (some false) = some r:=by rw [if_neg (show ¬ (false = true) by decide)] at H;exact H
     clear H
     have H:=H1
     clear H1
     obtain rfl:=Option.some.inj H
     have p347 : 0 ≤ (x7_1 : Int):=of_decide_eq_true Q8
     have q347 : x7_1 < (l0.length : Int):=of_decide_eq_true Q8
     obtain ⟨ad347,e347,hx347_0,hx347_1⟩:=at_T36 HR0.out x7_1 p347 q347
     cases e347
     replace hx347_0:=cb_ HB hx347_0
     replace hx347_1:=cb_ HB hx347_1
     replace p347:=eq_true p347
     replace q347:=eq_true q347
     try go_wp2_with (first|((with_reducible refine gate_dst (N:=4) rfl ?_);refine bE_ 4 #[.int .i64 0,.int .i64 0] 36 ?_;intro gb348 hg w33 hbox hb;have BK348:=am (hbox);have GW348:=am ((Q173 : w.heap.size ≤ gb348));replace HB:=am (below_step Q80 hb);have GE348:=GW348;clear hb hbox hg;obtain ⟨hcz34_0,hcz34_1,hfz34_0,hfz34_1⟩:=bx2_ BK348))
     have n0_ : Aside0 (((w33.setCell ⟨gb348,0,none⟩ (.int .i64 ((rd_T36 l0 x7_1).f0))).setCell ⟨gb348,1,none⟩ (.int .i64 ((rd_T36 l0 x7_1).f1))).heap[gb348]? = some (.cells #[.int .i64 ((rd_T36 l0 x7_1).f0),.int .i64 ((rd_T36 l0 x7_1).f1)] 36 (0,0))):=⟨Q169⟩
     have n1_ : Aside0 (Below w.heap.size w ((w33.setCell ⟨gb348,0,none⟩ (.int .i64 ((rd_T36 l0 x7_1).f0))).setCell ⟨gb348,1,none⟩ (.int .i64 ((rd_T36 l0 x7_1).f1)))):=⟨Q95⟩
     (try clear BK348)
     (try clear HB)
     generalize ((w33.setCell ⟨gb348,0,none⟩ (.int .i64 ((rd_T36 l0 x7_1).f0))).setCell ⟨gb348,1,none⟩ (.int .i64 ((rd_T36 l0 x7_1).f1))) = w35 at n0_ n1_ ⊢
     have BK348:=n0_
     have HB:=n1_
     clear n0_ n1_
     replace BK348:=am (blk_drew BK348.out)
     replace HB:=am (below_drew1 HB.out)
     refine start_ (n:=29) (S:=fun w'=>w'.cell? ⟨gb348,0,none⟩ = some (.int .i64 ((rd_T36 l0 x7_1).f0)) ∧ w'.cell? ⟨gb348,1,none⟩ = some (.int .i64 ((rd_T36 l0 x7_1).f1))) (ds:=[]) b29_0 Q1 rfl rfl ⟨(blk_cell BK348.out 0).trans rfl,(blk_cell BK348.out 1).trans rfl⟩ (fun hHeld=>?_);refine with_tabW impl_FrontOk.tab4 impl_FrontOk.bits4 (fun HT_ HW_=>?_)
     generalize w35.drew = w36 at BK348 HB hHeld ⊢
     refine tU_ 0 12 b29_1 hHeld ?_
     refine one_ (i:=1) (N:=some 13) b29_2 rfl rfl (one_of HT_.out Q1) Q0 (fun K hK=>?_)
     refine goes_ Try.func62 Q1 rfl #[.agg #[.int .i64 ((rd_T36 l0 x7_1).f0),.int .i64 ((rd_T36 l0 x7_1).f1)]] (by rfl) rfl rfl Q84 ?_
     with_reducible refine (impl_TimeOk.calls ((rd_T36 l0 x7_1).f0) ((rd_T36 l0 x7_1).f1) false _ A5.out).mono ?_
     rintro e w37 ⟨rfl,hb⟩
     refine ⟨_,rfl,?_⟩
     replace BK348:=am (blk_below (g:=gb348) (o:=.cells #[.int .i64 ((rd_T36 l0 x7_1).f0),.int .i64 ((rd_T36 l0 x7_1).f1)] 36 (0,0)) Q50 hb)
     replace HB:=am (below_step Q95 hb)
     (try clear hb)
     (try clear hb2)
     (try clear hk)
     (try clear hi)
     refine hK.out _ _ ⟨(blk_cell BK348.out 0).trans rfl,(blk_cell BK348.out 1).trans rfl⟩ (fun hHeld=>?_)
     clear hK K
     refine norm_ (a':=?_) ?_ ?_
     rotate_left
     ·show Act.put _ (some 13) _ = _
      simp only [Act.put,sA_,sZ_,sS_,i64_w,i32_w]
      rfl
     refine pU_ 2 14 b29_3 ?_
     refine pU_ 3 15 b29_4 ?_
     refine pV_ 4 16 b29_5 ?_
     refine pV_ 5 17 b29_6 ?_
     refine pV_ 6 18 b29_7 ?_
     refine pV_ 7 19 b29_8 ?_
     refine pV_ 8 20 b29_9 ?_
     refine pV_ 9 21 b29_10 ?_
     refine pV_ 10 22 b29_11 ?_
     refine pV_ 11 23 b29_12 ?_
     refine pV_ 12 24 b29_13 ?_
     refine pV_ 13 25 b29_14 ?_
     refine pV_ 14 26 b29_15 ?_
     refine pV_ 15 27 b29_16 ?_
     refine pV_ 16 28 b29_17 ?_
     refine pV_ 17 29 b29_18 ?_
     refine pV_ 18 30 b29_19 ?_
     refine pV_ 19 31 b29_20 ?_
     refine pV_ 20 32 b29_21 ?_
     refine pV_ 21 33 b29_22 ?_
     refine pV_ 22 34 b29_23 ?_
     refine pV_ 23 35 b29_24 ?_
     refine pV_ 24 36 b29_25 ?_
     refine pV_ 25 37 b29_26 ?_
     refine pV_ 26 38 b29_27 ?_
     refine pV_ 27 39 b29_28 ?_
     refine pU_ 28 40 b29_29 ?_
     refine done_ (done_of HT_.out Q1) ?_
     try go_wp2
     go_ret
     exact ⟨Q18,Q95⟩
   ·rw [if_neg c2] at H
    have c2b0 : decide (x7_1 < (l0.length : Int)) = false:=decide_eq_false c2
    clear c2
    obtain rfl:=Option.some.inj H
    go_wp2
    go_ret
    exact ⟨Q18,Q80⟩
def impl_ahead.f (a0_0 : Int) (a0_1 : Int) (a1_0 : Int) (a1_1 : Int) : Option (Bool) := if a0_0 < a1_0 then (some true) else (if a0_0 = a1_0 then (some (decide (a0_1 < a1_1))) else (some false))
set_option maxHeartbeats 8000000 in
set_option maxRecDepth 100000 in
theorem impl_ahead.calls (a0_0 : Int) (a0_1 : Int) (a1_0 : Int) (a1_1 : Int) (r : Bool) (w : World) (h : impl_ahead.f a0_0 a0_1 a1_0 a1_1 = some r) :
  Calls Try.prog 91 #[.agg #[.int .i64 a0_0,.int .i64 a0_1],.agg #[.int .i64 a1_0,.int .i64 a1_1]] w fun e w'=>e = .returned (.bool r) ∧ Below w.heap.size w w':=by
 have hu36:=Try.underlying36
 have HB:=am (Below.refl w.heap.size w)
 have H : (if a0_0 < a1_0 then (some true) else (if a0_0 = a1_0 then (some (decide (a0_1 < a1_1))) else (some false))) = some r:=h
 clear h
 by_cases c3 : a0_0 < a1_0
 ·rw [if_pos c3] at H
  have c3b0 : decide (a0_0 < a1_0) = true:=decide_eq_true c3
  clear c3
  obtain rfl:=Option.some.inj H
  go_enter Try.func91,Try.ntmps91
  go_wp2_with (first|((with_reducible refine gate_dst (N:=2) rfl ?_);refine bE_ 2 #[.int .i64 a0_0,.int .i64 a0_1] 36 ?_;intro gb352 hg w4 hbox hb;have BK352:=am (hbox);have GW352:=am ((Q173 : w.heap.size ≤ gb352));replace HB:=am (below_step Q80 hb);have GE352:=GW352;clear hb hbox hg)|((with_reducible refine gate_dst (N:=3) rfl ?_);refine bE_ 3 #[.int .i64 a1_0,.int .i64 a1_1] 36 ?_;intro gb353 hg w5 hbox hb;have BK353:=am (hbox);have GW353:=am ((by rw [hg];exact (below_size Q96) : w.heap.size ≤ gb353));replace HB:=am (below_step Q96 hb);have NB352_353:=am ((Q183 : gb352 ≠ gb353));have NB353_352:=am ((Q184 : gb353 ≠ gb352));replace BK352:=am (blk_below (g:=gb352) (o:=.cells #[.int .i64 a0_0,.int .i64 a0_1] 36 (0,0)) Q51 hb);have GE353:=GW353;clear hb hbox hg;have hnb6:=NB352_353.out;have hnc6:=NB353_352.out;obtain ⟨hcz7_0,hcz7_1,hfz7_0,hfz7_1⟩:=bx2_ BK352;obtain ⟨hcz8_0,hcz8_1,hfz8_0,hfz8_1⟩:=bx2_ BK353))
  go_ret
  exact ⟨Q18,Q134⟩
 ·rw [if_neg c3] at H
  have c3b0 : decide (a0_0 < a1_0) = false:=decide_eq_false c3
  clear c3
  by_cases c9 : a0_0 = a1_0
  ·rw [if_pos c9] at H
   have c9b0 : (a0_0 == a1_0) = true:=beq_iff_eq.mpr c9
   have c9b1 : (a0_0 != a1_0) = false:=bne_eq_false_iff_eq.mpr c9
   clear c9
   obtain rfl:=Option.some.inj H
   go_enter Try.func91,Try.ntmps91
   go_wp2_with (first|((with_reducible refine gate_dst (N:=2) rfl ?_);refine bE_ 2 #[.int .i64 a0_0,.int .i64 a0_1] 36 ?_;intro gb352 hg w10 hbox hb;have BK352:=am (hbox);have GW352:=am ((Q173 : w.heap.size ≤ gb352));replace HB:=am (below_step Q80 hb);have GE352:=GW352;clear hb hbox hg)|((with_reducible refine gate_dst (N:=3) rfl ?_);refine bE_ 3 #[.int .i64 a1_0,.int .i64 a1_1] 36 ?_;intro gb353 hg w11 hbox hb;have BK353:=am (hbox);have GW353:=am ((by rw [hg];exact (below_size Q96) : w.heap.size ≤ gb353));replace HB:=am (below_step Q96 hb);have NB352_353:=am ((Q183 : gb352 ≠ gb353));have NB353_352:=am ((Q184 : gb353 ≠ gb352));replace BK352:=am (blk_below (g:=gb352) (o:=.cells #[.int .i64 a0_0,.int .i64 a0_1] 36 (0,0)) Q51 hb);have GE353:=GW353;clear hb hbox hg;have hnb12:=NB352_353.out;have hnc12:=NB353_352.out;obtain ⟨hcz13_0,hcz13_1,hfz13_0,hfz13_1⟩:=bx2_ BK352;obtain ⟨hcz14_0,hcz14_1,hfz14_0,hfz14_1⟩:=bx2_ BK353))
   go_ret
   exact ⟨Q18,Q134⟩
  ·rw [if_neg c9] at H
   have c9b0 : (a0_0 == a1_0) = false:=beq_eq_false_iff_ne.mpr c9
   have c9b1 : (a0_0 != a1_0) = true:=bne_iff_ne.mpr c9
   obtain rfl:=Option.some.inj H
   go_enter Try.func91,Try.ntmps91
   go_wp2_with (first|((with_reducible refine gate_dst (N:=2) rfl ?_);refine bE_ 2 #[.int .i64 a0_0,.int .i64 a0_1] 36 ?_;intro gb352 hg w15 hbox hb;have BK352:=am (hbox);have GW352:=am ((Q173 : w.heap.size ≤ gb352));replace HB:=am (below_step Q80 hb);have GE352:=GW352;clear hb hbox hg)|((with_reducible refine gate_dst (N:=3) rfl ?_);refine bE_ 3 #[.int .i64 a1_0,.int .i64 a1_1] 36 ?_;intro gb353 hg w16 hbox hb;have BK353:=am (hbox);have GW353:=am ((by rw [hg];exact (below_size Q96) : w.heap.size ≤ gb353));replace HB:=am (below_step Q96 hb);have NB352_353:=am ((Q183 : gb352 ≠ gb353));have NB353_352:=am ((Q184 : gb353 ≠ gb352));replace BK352:=am (blk_below (g:=gb352) (o:=.cells #[.int .i64 a0_0,.int .i64 a0_1] 36 (0,0)) Q51 hb);have GE353:=GW353;clear hb hbox hg;have hnb17:=NB352_353.out;have hnc17:=NB353_352.out;obtain ⟨hcz18_0,hcz18_1,hfz18_0,hfz18_1⟩:=bx2_ BK352;obtain ⟨hcz19_0,hcz19_1,hfz19_0,hfz19_1⟩:=bx2_ BK353))
   go_ret
   exact ⟨Q18,Q134⟩
def impl_rowAhead.f (a0_0 : Int) (a0_1 : Int) (a0_2 : Int) (a0_3 : Int) (a0_4 : Int) (a1_0 : Int) (a1_1 : Int) (a1_2 : Int) (a1_3 : Int) (a1_4 : Int) : Option (Bool) := if a0_0 = a1_0 then (if a0_1 = a1_1 then ((impl_ahead.f a0_2 a0_3 a1_2 a1_3).bind fun t356 => (some t356)) else (some (decide (a0_1 < a1_1)))) else (some (decide (a0_0 < a1_0)))
set_option maxHeartbeats 8000000 in
set_option maxRecDepth 100000 in
theorem impl_rowAhead.calls (a0_0 : Int) (a0_1 : Int) (a0_2 : Int) (a0_3 : Int) (a0_4 : Int) (a1_0 : Int) (a1_1 : Int) (a1_2 : Int) (a1_3 : Int) (a1_4 : Int) (r : Bool) (w : World) (h : impl_rowAhead.f a0_0 a0_1 a0_2 a0_3 a0_4 a1_0 a1_1 a1_2 a1_3 a1_4 = some r) :
  Calls Try.prog 64 #[.agg #[.int .i64 a0_0,.int .i64 a0_1,.int .i64 a0_2,.int .i64 a0_3,.int .i64 a0_4],.agg #[.int .i64 a1_0,.int .i64 a1_1,.int .i64 a1_2,.int .i64 a1_3,.int .i64 a1_4]] w fun e w'=>e = .returned (.bool r) ∧ Below w.heap.size w w':=by
 have hu38:=Try.underlying38
 have hu36:=Try.underlying36
 have HB:=am (Below.refl w.heap.size w)
 have H : (if a0_0 = a1_0 then (if a0_1 = a1_1 then ((impl_ahead.f a0_2 a0_3 a1_2 a1_3).bind fun t356=>(some t356)) else (some (decide (a0_1 < a1_1)))) else (some (decide (a0_0 < a1_0)))) = some r:=h
 clear h
 by_cases c3 : a0_0 = a1_0
 ·rw [if_pos c3] at H
  have c3b0 : (a0_0 == a1_0) = true:=beq_iff_eq.mpr c3
  have c3b1 : (a0_0 != a1_0) = false:=bne_eq_false_iff_eq.mpr c3
  clear c3
  by_cases c4 : a0_1 = a1_1
  ·rw [if_pos c4] at H
   have c4b0 : (a0_1 == a1_1) = true:=beq_iff_eq.mpr c4
   have c4b1 : (a0_1 != a1_1) = false:=bne_eq_false_iff_eq.mpr c4
   clear c4
   replace H:=Option.bind_eq_some_iff.mp H
   obtain ⟨t356,A50,H⟩:=H
   replace H : (some t356) = some r:=H
   have A5:=Aside0.mk A50
   clear A50
   obtain rfl:=Option.some.inj H
   go_enter Try.func64,Try.ntmps64
   go_wp2_with (first|((with_reducible refine gate_dst (N:=2) rfl ?_);refine bE_ 2 #[.int .i64 a0_0,.int .i64 a0_1,.int .i64 a0_2,.int .i64 a0_3,.int .i64 a0_4] 38 ?_;intro gb354 hg w6 hbox hb;have BK354:=am (hbox);have GW354:=am ((Q173 : w.heap.size ≤ gb354));replace HB:=am (below_step Q80 hb);have GE354:=GW354;clear hb hbox hg)|((with_reducible refine gate_dst (N:=3) rfl ?_);refine bE_ 3 #[.int .i64 a1_0,.int .i64 a1_1,.int .i64 a1_2,.int .i64 a1_3,.int .i64 a1_4] 38 ?_;intro gb355 hg w7 hbox hb;have BK355:=am (hbox);have GW355:=am ((by rw [hg];exact (below_size Q97) : w.heap.size ≤ gb355));replace HB:=am (below_step Q97 hb);have NB354_355:=am ((Q205 : gb354 ≠ gb355));have NB355_354:=am ((Q206 : gb355 ≠ gb354));replace BK354:=am (blk_below (g:=gb354) (o:=.cells #[.int .i64 a0_0,.int .i64 a0_1,.int .i64 a0_2,.int .i64 a0_3,.int .i64 a0_4] 38 (0,0)) Q52 hb);have GE355:=GW355;clear hb hbox hg;have hnb8:=NB354_355.out;have hnc8:=NB355_354.out;obtain ⟨hcz9_0,hcz9_1,hcz9_2,hcz9_3,hcz9_4,hfz9_0,hfz9_1,hfz9_2,hfz9_3,hfz9_4⟩:=bx5_ BK354;obtain ⟨hcz10_0,hcz10_1,hcz10_2,hcz10_3,hcz10_4,hfz10_0,hfz10_1,hfz10_2,hfz10_3,hfz10_4⟩:=bx5_ BK355)|((with_reducible refine gate_callee (f:=91) rfl ?_);refine goesL_ (some 31) rfl rfl Try.func91 Q1 rfl #[.agg #[.int .i64 a0_2,.int .i64 a0_3],.agg #[.int .i64 a1_2,.int .i64 a1_3]] rfl Q84 ?_;(with_reducible refine (impl_ahead.calls a0_2 a0_3 a1_2 a1_3 t356 _ A5.out).mono ?_);rintro e w11 ⟨rfl,hb⟩;refine ⟨_,rfl,?_⟩;replace BK354:=am (blk_below (g:=gb354) (o:=.cells #[.int .i64 a0_0,.int .i64 a0_1,.int .i64 a0_2,.int .i64 a0_3,.int .i64 a0_4] 38 (0,0)) Q52 hb);replace BK355:=am (blk_below (g:=gb355) (o:=.cells #[.int .i64 a1_0,.int .i64 a1_1,.int .i64 a1_2,.int .i64 a1_3,.int .i64 a1_4] 38 (0,0)) (by (with_reducible repeat (first|refine blk_drewN ?_ _|refine blk_drew ?_|refine blk_alloc ?_ _));exact BK355.out) hb);replace HB:=am (below_step Q135 hb);(try clear hb)))
   go_ret
   exact ⟨Q18,Q135⟩
  ·rw [if_neg c4] at H
   have c4b0 : (a0_1 == a1_1) = false:=beq_eq_false_iff_ne.mpr c4
   have c4b1 : (a0_1 != a1_1) = true:=bne_iff_ne.mpr c4
   obtain rfl:=Option.some.inj H
   go_enter Try.func64,Try.ntmps64
   go_wp2_with (first|((with_reducible refine gate_dst (N:=2) rfl ?_);refine bE_ 2 #[.int .i64 a0_0,.int .i64 a0_1,.int .i64 a0_2,.int .i64 a0_3,.int .i64 a0_4] 38 ?_;intro gb354 hg w12 hbox hb;have BK354:=am (hbox);have GW354:=am ((Q173 : w.heap.size ≤ gb354));replace HB:=am (below_step Q80 hb);have GE354:=GW354;clear hb hbox hg)|((with_reducible refine gate_dst (N:=3) rfl ?_);refine bE_ 3 #[.int .i64 a1_0,.int .i64 a1_1,.int .i64 a1_2,.int .i64 a1_3,.int .i64 a1_4] 38 ?_;intro gb355 hg w13 hbox hb;have BK355:=am (hbox);have GW355:=am ((by rw [hg];exact (below_size Q97) : w.heap.size ≤ gb355));replace HB:=am (below_step Q97 hb);have NB354_355:=am ((Q205 : gb354 ≠ gb355));have NB355_354:=am ((Q206 : gb355 ≠ gb354));replace BK354:=am (blk_below (g:=gb354) (o:=.cells #[.int .i64 a0_0,.int .i64 a0_1,.int .i64 a0_2,.int .i64 a0_3,.int .i64 a0_4] 38 (0,0)) Q52 hb);have GE355:=GW355;clear hb hbox hg;have hnb14:=NB354_355.out;have hnc14:=NB355_354.out;obtain ⟨hcz15_0,hcz15_1,hcz15_2,hcz15_3,hcz15_4,hfz15_0,hfz15_1,hfz15_2,hfz15_3,hfz15_4⟩:=bx5_ BK354;obtain ⟨hcz16_0,hcz16_1,hcz16_2,hcz16_3,hcz16_4,hfz16_0,hfz16_1,hfz16_2,hfz16_3,hfz16_4⟩:=bx5_ BK355))
   go_ret
   exact ⟨Q18,Q135⟩
 ·rw [if_neg c3] at H
  have c3b0 : (a0_0 == a1_0) = false:=beq_eq_false_iff_ne.mpr c3
  have c3b1 : (a0_0 != a1_0) = true:=bne_iff_ne.mpr c3
  obtain rfl:=Option.some.inj H
  go_enter Try.func64,Try.ntmps64
  go_wp2_with (first|((with_reducible refine gate_dst (N:=2) rfl ?_);refine bE_ 2 #[.int .i64 a0_0,.int .i64 a0_1,.int .i64 a0_2,.int .i64 a0_3,.int .i64 a0_4] 38 ?_;intro gb354 hg w17 hbox hb;have BK354:=am (hbox);have GW354:=am ((Q173 : w.heap.size ≤ gb354));replace HB:=am (below_step Q80 hb);have GE354:=GW354;clear hb hbox hg)|((with_reducible refine gate_dst (N:=3) rfl ?_);refine bE_ 3 #[.int .i64 a1_0,.int .i64 a1_1,.int .i64 a1_2,.int .i64 a1_3,.int .i64 a1_4] 38 ?_;intro gb355 hg w18 hbox hb;have BK355:=am (hbox);have GW355:=am ((by rw [hg];exact (below_size Q97) : w.heap.size ≤ gb355));replace HB:=am (below_step Q97 hb);have NB354_355:=am ((Q205 : gb354 ≠ gb355));have NB355_354:=am ((Q206 : gb355 ≠ gb354));replace BK354:=am (blk_below (g:=gb354) (o:=.cells #[.int .i64 a0_0,.int .i64 a0_1,.int .i64 a0_2,.int .i64 a0_3,.int .i64 a0_4] 38 (0,0)) Q52 hb);have GE355:=GW355;clear hb hbox hg;have hnb19:=NB354_355.out;have hnc19:=NB355_354.out;obtain ⟨hcz20_0,hcz20_1,hcz20_2,hcz20_3,hcz20_4,hfz20_0,hfz20_1,hfz20_2,hfz20_3,hfz20_4⟩:=bx5_ BK354;obtain ⟨hcz21_0,hcz21_1,hcz21_2,hcz21_3,hcz21_4,hfz21_0,hfz21_1,hfz21_2,hfz21_3,hfz21_4⟩:=bx5_ BK355))
  go_ret
  exact ⟨Q18,Q135⟩
def impl_BatchOk.l0 : Nat → List (S38) → List (S38) → Int → Int → Option (Bool)
 | 0, _, _, _, _ => none
 | k + 1, x0, x5, x6, x7 => if x7 < x6 then (if 0 ≤ x7 then (if x7 < (x5.length : Int) then (if ((rd_T38 x5 x7).f3) = 0 then (some false) else (if x7 > 0 then (if 0 ≤ (wrap64 (x7 - 1)) then (if (wrap64 (x7 - 1)) < (x0.length : Int) then ((impl_rowAhead.f ((rd_T38 x0 (wrap64 (x7 - 1))).f0) ((rd_T38 x0 (wrap64 (x7 - 1))).f1) ((rd_T38 x0 (wrap64 (x7 - 1))).f2.f0) ((rd_T38 x0 (wrap64 (x7 - 1))).f2.f1) ((rd_T38 x0 (wrap64 (x7 - 1))).f3) ((rd_T38 x5 x7).f0) ((rd_T38 x5 x7).f1) ((rd_T38 x5 x7).f2.f0) ((rd_T38 x5 x7).f2.f1) ((rd_T38 x5 x7).f3)).bind fun t360 => (if t360 = true then (impl_BatchOk.l0 k x0 x5 x6 (wrap64 (x7 + 1))) else (some false))) else (none)) else (none)) else (impl_BatchOk.l0 k x0 x5 x6 (wrap64 (x7 + 1))))) else (none)) else (none)) else ((impl_RowsOk.f k x0).bind fun t361 => (some t361))
def impl_BatchOk.f (k : Nat) (l0 : List (S38)) : Option (Bool) := impl_BatchOk.l0 k l0 l0 (l0.length : Int) 0
def impl_BatchOk.T4 : Bool × List (List Nat × List Nat) := (true, [([], []), ([0], [0]), ([1], [1]), ([2], [2]), ([3], [3]), ([4, 3], [3, 4]), ([5, 3, 3], [3, 5]), ([6], [6]), ([6], [6]), ([8, 6], [6, 8]), ([7, 9, 6], [6, 7, 9]), ([10, 6], [6, 10]), ([6], [6]), ([11, 12, 6, 6], [6, 11, 12]), ([13, 6], [6, 13]), ([6, 14, 3], [3, 6, 14]), ([3, 15], [3, 15])])
def impl_BatchOk.B4 : List Nat := [0, 1, 3, 7, 15, 31, 63, 127, 127, 383, 1023, 2047, 127, 8191, 16383, 32767, 65535]
theorem impl_BatchOk.tab4 : rtab .any (opsOf Try.f24 4) = impl_BatchOk.T4:=by kernel_rfl
theorem impl_BatchOk.bits4 : waitsOk impl_BatchOk.T4.2 impl_BatchOk.B4 = true:=by kernel_rfl
set_option maxHeartbeats 8000000 in
set_option maxRecDepth 100000 in
theorem impl_BatchOk.calls (k : Nat) (A0 : Option Addr) (c0 : Nat) (l0 : List (S38)) (r : Bool) (w : World) (hr0 : Kd.C k38 w A0 l0.length l0) (hc0 : l0.length ≤ c0) (h : impl_BatchOk.f k l0 = some r) :
  Calls Try.prog 24 #[.slice A0 l0.length c0] w fun e w'=>e = .returned (.bool r) ∧ Below w.heap.size w w':=by
 have hu38:=Try.underlying38
 have HR0:=Aside0.mk hr0
 have HC0:=Aside0.mk hc0
 clear hr0 hc0
 have HB:=am (Below.refl w.heap.size w)
 have H : (impl_BatchOk.l0 k l0 l0 (l0.length : Int) 0) = some r:=h
 clear h
 have H':=Aside0.mk H
 clear H
 go_enter Try.func24,Try.ntmps24
 go_wp2
 go_loopg [7] k (fun kq v7 w'=>∃ (x7_1 : Int),v7 = .int .i64 x7_1 ∧ Aside0 (impl_BatchOk.l0 kq l0 l0 (l0.length : Int) x7_1 = some r) ∧ Aside0 (kq ≤ k) ∧ Aside0 (Below w.heap.size w w'))
 case atStart=>exact ⟨(0),Q7,H',⟨Nat.le_refl _⟩,⟨Q80⟩⟩
 case round =>
  clear H'
  obtain ⟨x7_1,rfl,HA,HK1,HB⟩:=hrel
  cases gk with
  | zero=>exact absurd HA.out (by simp [impl_BatchOk.l0])
  | succ k1 =>
   have H:=HA.out
   clear HA
   simp only [impl_BatchOk.l0] at H
   by_cases c2 : x7_1 < (l0.length : Int)
   ·rw [if_pos c2] at H
    have c2b0 : decide (x7_1 < (l0.length : Int)) = true:=decide_eq_true c2
    clear c2
    have c3 : 0 ≤ x7_1:=nn_ H
    rw [if_pos c3] at H
    have c3b0 : decide (0 ≤ x7_1) = true:=decide_eq_true c3
    clear c3
    have c4 : x7_1 < (l0.length : Int):=nn_ H
    rw [if_pos c4] at H
    have c4b0 : decide (x7_1 < (l0.length : Int)) = true:=decide_eq_true c4
    clear c4
    by_cases c5 : ((rd_T38 l0 x7_1).f3) = 0
    ·rw [if_pos c5] at H
     have c5b0 : (((rd_T38 l0 x7_1).f3) == 0) = true:=beq_iff_eq.mpr c5
     have c5b1 : (((rd_T38 l0 x7_1).f3) != 0) = false:=bne_eq_false_iff_eq.mpr c5
     clear c5
     obtain rfl:=Option.some.inj H
     have p357 : 0 ≤ (x7_1 : Int):=of_decide_eq_true Q8
     have q357 : x7_1 < (l0.length : Int):=of_decide_eq_true Q8
     obtain ⟨ad357,e357,hx357_0,hx357_1,hx357_2,hx357_3,hx357_4⟩:=at_T38 HR0.out x7_1 p357 q357
     cases e357
     replace hx357_0:=cb_ HB hx357_0
     replace hx357_1:=cb_ HB hx357_1
     replace hx357_2:=cb_ HB hx357_2
     replace hx357_3:=cb_ HB hx357_3
     replace hx357_4:=cb_ HB hx357_4
     replace p357:=eq_true p357
     replace q357:=eq_true q357
     try go_wp2_with (first|((with_reducible refine gate_dst (N:=4) rfl ?_);refine bE_ 4 #[.int .i64 0,.int .i64 0,.int .i64 0,.int .i64 0,.int .i64 0] 38 ?_;intro gb358 hg w6 hbox hb;have BK358:=am (hbox);have GW358:=am ((Q173 : w.heap.size ≤ gb358));replace HB:=am (below_step Q80 hb);have GE358:=GW358;clear hb hbox hg;obtain ⟨hcz7_0,hcz7_1,hcz7_2,hcz7_3,hcz7_4,hfz7_0,hfz7_1,hfz7_2,hfz7_3,hfz7_4⟩:=bx5_ BK358))
     have n0_ : Aside0 ((((((w6.setCell ⟨gb358,0,none⟩ (.int .i64 ((rd_T38 l0 x7_1).f0))).setCell ⟨gb358,1,none⟩ (.int .i64 ((rd_T38 l0 x7_1).f1))).setCell ⟨gb358,2,none⟩ (.int .i64 ((rd_T38 l0 x7_1).f2.f0))).setCell ⟨gb358,3,none⟩ (.int .i64 ((rd_T38 l0 x7_1).f2.f1))).setCell ⟨gb358,4,none⟩ (.int .i64 ((rd_T38 l0 x7_1).f3))).heap[gb358]? = some (.cells #[.int .i64 ((rd_T38 l0 x7_1).f0),.int .i64 ((rd_T38 l0 x7_1).f1),.int .i64 ((rd_T38 l0 x7_1).f2.f0),.int .i64 ((rd_T38 l0 x7_1).f2.f1),.int .i64 ((rd_T38 l0 x7_1).f3)] 38 (0,0))):=⟨Q172⟩
     have n1_ : Aside0 (Below w.heap.size w (((((w6.setCell ⟨gb358,0,none⟩ (.int .i64 ((rd_T38 l0 x7_1).f0))).setCell ⟨gb358,1,none⟩ (.int .i64 ((rd_T38 l0 x7_1).f1))).setCell ⟨gb358,2,none⟩ (.int .i64 ((rd_T38 l0 x7_1).f2.f0))).setCell ⟨gb358,3,none⟩ (.int .i64 ((rd_T38 l0 x7_1).f2.f1))).setCell ⟨gb358,4,none⟩ (.int .i64 ((rd_T38 l0 x7_1).f3)))):=⟨Q98⟩
     (try clear BK358)
     (try clear HB)
     generalize (((((w6.setCell ⟨gb358,0,none⟩ (.int .i64 ((rd_T38 l0 x7_1).f0))).setCell ⟨gb358,1,none⟩ (.int .i64 ((rd_T38 l0 x7_1).f1))).setCell ⟨gb358,2,none⟩ (.int .i64 ((rd_T38 l0 x7_1).f2.f0))).setCell ⟨gb358,3,none⟩ (.int .i64 ((rd_T38 l0 x7_1).f2.f1))).setCell ⟨gb358,4,none⟩ (.int .i64 ((rd_T38 l0 x7_1).f3))) = w8 at n0_ n1_ ⊢
     have BK358:=n0_
     have HB:=n1_
     clear n0_ n1_
     replace BK358:=am (blk_drew BK358.out)
     replace HB:=am (below_drew1 HB.out)
     refine start_ (n:=17) (S:=fun w'=>w'.cell? ⟨gb358,0,none⟩ = some (.int .i64 ((rd_T38 l0 x7_1).f0)) ∧ w'.cell? ⟨gb358,1,none⟩ = some (.int .i64 ((rd_T38 l0 x7_1).f1)) ∧ w'.cell? ⟨gb358,2,none⟩ = some (.int .i64 ((rd_T38 l0 x7_1).f2.f0)) ∧ w'.cell? ⟨gb358,3,none⟩ = some (.int .i64 ((rd_T38 l0 x7_1).f2.f1)) ∧ w'.cell? ⟨gb358,4,none⟩ = some (.int .i64 ((rd_T38 l0 x7_1).f3))) (ds:=[]) b17_0 Q1 rfl rfl ⟨(blk_cell BK358.out 0).trans rfl,(blk_cell BK358.out 1).trans rfl,(blk_cell BK358.out 2).trans rfl,(blk_cell BK358.out 3).trans rfl,(blk_cell BK358.out 4).trans rfl⟩ (fun hHeld=>?_);refine with_tabW impl_BatchOk.tab4 impl_BatchOk.bits4 (fun HT_ HW_=>?_)
     generalize w8.drew = w9 at BK358 HB hHeld ⊢
     refine pU_ 0 12 b17_1 ?_
     refine tU_ 1 13 b17_2 hHeld ?_
     refine pU_ 2 14 b17_3 ?_
     refine pU_ 3 15 b17_4 ?_
     refine pV_ 4 16 b17_5 ?_
     refine pV_ 5 17 b17_6 ?_
     refine pV_ 6 18 b17_7 ?_
     refine pV_ 7 19 b17_8 ?_
     refine pV_ 8 20 b17_9 ?_
     refine pV_ 9 21 b17_10 ?_
     refine pV_ 10 22 b17_11 ?_
     refine pV_ 11 23 b17_12 ?_
     refine pV_ 12 24 b17_13 ?_
     refine pV_ 13 25 b17_14 ?_
     refine pV_ 14 26 b17_15 ?_
     refine pV_ 15 27 b17_16 ?_
     refine pU_ 16 28 b17_17 ?_
     refine done_ (done_of HT_.out Q1) ?_
     try go_wp2
     go_ret
     exact ⟨Q18,Q98⟩
    ·rw [if_neg c5] at H
     have c5b0 : (((rd_T38 l0 x7_1).f3) == 0) = false:=beq_eq_false_iff_ne.mpr c5
     have c5b1 : (((rd_T38 l0 x7_1).f3) != 0) = true:=bne_iff_ne.mpr c5
     by_cases c10 : x7_1 > 0
     ·rw [if_pos c10] at H
      have c10b0 : decide (0 < x7_1) = true:=decide_eq_true c10
      clear c10
      obtain ⟨ji11,hji11⟩ : ∃ j_ : Int,(wrap64 (x7_1 - 1)) = j_:=⟨_,rfl⟩
      replace H : (if 0 ≤ (ji11) then (if (ji11) < (l0.length : Int) then ((impl_rowAhead.f ((rd_T38 l0 (ji11)).f0) ((rd_T38 l0 (ji11)).f1) ((rd_T38 l0 (ji11)).f2.f0) ((rd_T38 l0 (ji11)).f2.f1) ((rd_T38 l0 (ji11)).f3) ((rd_T38 l0 x7_1).f0) ((rd_T38 l0 x7_1).f1) ((rd_T38 l0 x7_1).f2.f0) ((rd_T38 l0 x7_1).f2.f1) ((rd_T38 l0 x7_1).f3)).bind fun t360=>(if t360 = true then (impl_BatchOk.l0 k1 l0 l0 (l0.length : Int) (wrap64 (x7_1 + 1))) else (some false))) else (none)) else (none)) = some r:=by first|(rw [hji11] at H;exact H)|(simp only [hji11] at H ⊢;exact H)
      have hji11w : (IntKind.i64.wrap (x7_1 - 1)) = ji11:=(i64_w _).trans hji11
      have c12 : 0 ≤ (ji11):=nn_ H
      rw [if_pos c12] at H
      have c12b0 : decide (0 ≤ (ji11)) = true:=decide_eq_true c12
      clear c12
      have c13 : (ji11) < (l0.length : Int):=nn_ H
      rw [if_pos c13] at H
      have c13b0 : decide ((ji11) < (l0.length : Int)) = true:=decide_eq_true c13
      clear c13
      replace H:=Option.bind_eq_some_iff.mp H
      obtain ⟨t360,A140,H⟩:=H
      replace H : (if t360 = true then (impl_BatchOk.l0 k1 l0 l0 (l0.length : Int) (wrap64 (x7_1 + 1))) else (some false)) = some r:=H
      have A14:=Aside0.mk A140
      clear A140
      by_cases c15 : t360 = true
      ·subst c15
       have H1 : (impl_BatchOk.l0 k1 l0 l0 (l0.length : Int) (wrap64 (x7_1 + 1))) = some r:=by rw [if_pos rfl] at H;exact H
       clear H
       have H:=H1
       clear H1
       have H':=Aside0.mk H
       clear H
       have p357 : 0 ≤ (x7_1 : Int):=of_decide_eq_true Q8
       have q357 : x7_1 < (l0.length : Int):=of_decide_eq_true Q8
       obtain ⟨ad357,e357,hx357_0,hx357_1,hx357_2,hx357_3,hx357_4⟩:=at_T38 HR0.out x7_1 p357 q357
       cases e357
       replace hx357_0:=cb_ HB hx357_0
       replace hx357_1:=cb_ HB hx357_1
       replace hx357_2:=cb_ HB hx357_2
       replace hx357_3:=cb_ HB hx357_3
       replace hx357_4:=cb_ HB hx357_4
       replace p357:=eq_true p357
       replace q357:=eq_true q357
       try go_wp2_with (first|((with_reducible refine gate_dst (N:=4) rfl ?_);refine bE_ 4 #[.int .i64 0,.int .i64 0,.int .i64 0,.int .i64 0,.int .i64 0] 38 ?_;intro gb358 hg w16 hbox hb;have BK358:=am (hbox);have GW358:=am ((Q173 : w.heap.size ≤ gb358));replace HB:=am (below_step Q80 hb);have GE358:=GW358;clear hb hbox hg;obtain ⟨hcz17_0,hcz17_1,hcz17_2,hcz17_3,hcz17_4,hfz17_0,hfz17_1,hfz17_2,hfz17_3,hfz17_4⟩:=bx5_ BK358))
       have n0_ : Aside0 ((((((w16.setCell ⟨gb358,0,none⟩ (.int .i64 ((rd_T38 l0 x7_1).f0))).setCell ⟨gb358,1,none⟩ (.int .i64 ((rd_T38 l0 x7_1).f1))).setCell ⟨gb358,2,none⟩ (.int .i64 ((rd_T38 l0 x7_1).f2.f0))).setCell ⟨gb358,3,none⟩ (.int .i64 ((rd_T38 l0 x7_1).f2.f1))).setCell ⟨gb358,4,none⟩ (.int .i64 ((rd_T38 l0 x7_1).f3))).heap[gb358]? = some (.cells #[.int .i64 ((rd_T38 l0 x7_1).f0),.int .i64 ((rd_T38 l0 x7_1).f1),.int .i64 ((rd_T38 l0 x7_1).f2.f0),.int .i64 ((rd_T38 l0 x7_1).f2.f1),.int .i64 ((rd_T38 l0 x7_1).f3)] 38 (0,0))):=⟨Q172⟩
       have n1_ : Aside0 (Below w.heap.size w (((((w16.setCell ⟨gb358,0,none⟩ (.int .i64 ((rd_T38 l0 x7_1).f0))).setCell ⟨gb358,1,none⟩ (.int .i64 ((rd_T38 l0 x7_1).f1))).setCell ⟨gb358,2,none⟩ (.int .i64 ((rd_T38 l0 x7_1).f2.f0))).setCell ⟨gb358,3,none⟩ (.int .i64 ((rd_T38 l0 x7_1).f2.f1))).setCell ⟨gb358,4,none⟩ (.int .i64 ((rd_T38 l0 x7_1).f3)))):=⟨Q98⟩
       (try clear BK358)
       (try clear HB)
       generalize (((((w16.setCell ⟨gb358,0,none⟩ (.int .i64 ((rd_T38 l0 x7_1).f0))).setCell ⟨gb358,1,none⟩ (.int .i64 ((rd_T38 l0 x7_1).f1))).setCell ⟨gb358,2,none⟩ (.int .i64 ((rd_T38 l0 x7_1).f2.f0))).setCell ⟨gb358,3,none⟩ (.int .i64 ((rd_T38 l0 x7_1).f2.f1))).setCell ⟨gb358,4,none⟩ (.int .i64 ((rd_T38 l0 x7_1).f3))) = w18 at n0_ n1_ ⊢
       have BK358:=n0_
       have HB:=n1_
       clear n0_ n1_
       replace BK358:=am (blk_drew BK358.out)
       replace HB:=am (below_drew1 HB.out)
       have p359 : 0 ≤ ((ji11) : Int):=of_decide_eq_true Q8
       have q359 : (ji11) < (l0.length : Int):=of_decide_eq_true Q8
       obtain ⟨ad359,e359,hx359_0,hx359_1,hx359_2,hx359_3,hx359_4⟩:=at_T38 HR0.out (ji11) p359 q359
       have hw359_4:=hx359_4
       have hw359_3:=hx359_3
       have hw359_2:=hx359_2
       have hw359_1:=hx359_1
       have hw359_0:=hx359_0
       obtain rfl : ad357 = ad359:=(by injection e359)
       replace hx359_0:=cb_ HB hx359_0
       replace hx359_1:=cb_ HB hx359_1
       replace hx359_2:=cb_ HB hx359_2
       replace hx359_3:=cb_ HB hx359_3
       replace hx359_4:=cb_ HB hx359_4
       replace p359:=eq_true p359
       replace q359:=eq_true q359
       refine start_ (n:=17) (S:=fun w'=>w'.cell? ⟨gb358,0,none⟩ = some (.int .i64 ((rd_T38 l0 x7_1).f0)) ∧ w'.cell? ⟨gb358,1,none⟩ = some (.int .i64 ((rd_T38 l0 x7_1).f1)) ∧ w'.cell? ⟨gb358,2,none⟩ = some (.int .i64 ((rd_T38 l0 x7_1).f2.f0)) ∧ w'.cell? ⟨gb358,3,none⟩ = some (.int .i64 ((rd_T38 l0 x7_1).f2.f1)) ∧ w'.cell? ⟨gb358,4,none⟩ = some (.int .i64 ((rd_T38 l0 x7_1).f3)) ∧ w'.cell? (ad357.add (((ji11)).toNat * 5)) = some (.int .i64 ((rd_T38 l0 (ji11)).f0)) ∧ w'.cell? ⟨(ad357.add (((ji11)).toNat * 5)).block,(ad357.add (((ji11)).toNat * 5)).off + 1,none⟩ = some (.int .i64 ((rd_T38 l0 (ji11)).f1)) ∧ w'.cell? ⟨(ad357.add (((ji11)).toNat * 5)).block,(ad357.add (((ji11)).toNat * 5)).off + 2,none⟩ = some (.int .i64 ((rd_T38 l0 (ji11)).f2.f0)) ∧ w'.cell? ⟨(ad357.add (((ji11)).toNat * 5)).block,(ad357.add (((ji11)).toNat * 5)).off + 3,none⟩ = some (.int .i64 ((rd_T38 l0 (ji11)).f2.f1)) ∧ w'.cell? ⟨(ad357.add (((ji11)).toNat * 5)).block,(ad357.add (((ji11)).toNat * 5)).off + 4,none⟩ = some (.int .i64 ((rd_T38 l0 (ji11)).f3))) (ds:=[]) b17_0 Q1 rfl rfl ⟨(blk_cell BK358.out 0).trans rfl,(blk_cell BK358.out 1).trans rfl,(blk_cell BK358.out 2).trans rfl,(blk_cell BK358.out 3).trans rfl,(blk_cell BK358.out 4).trans rfl,(cb_ HB hw359_0:),(cb_ HB hw359_1:),(cb_ HB hw359_2:),(cb_ HB hw359_3:),(cb_ HB hw359_4:)⟩ (fun hHeld=>?_);refine with_tabW impl_BatchOk.tab4 impl_BatchOk.bits4 (fun HT_ HW_=>?_)
       generalize w18.drew = w19 at BK358 HB hx359_0 hx359_1 hx359_2 hx359_3 hx359_4 hHeld ⊢
       refine pU_ 0 12 b17_1 ?_
       refine tU_ 1 13 b17_2 hHeld ?_
       refine pU_ 2 14 b17_3 ?_
       refine pU_ 3 15 b17_4 ?_
       refine pU_ 4 16 b17_5 ?_
       refine pU_ 5 17 b17_6 ?_
       refine pU_ 6 18 b17_7 ?_
       refine pU_ 7 19 b17_8 ?_
       refine pU_ 8 20 b17_9 ?_
       refine pU_ 9 21 b17_10 ?_
       refine pU_ 10 22 b17_11 ?_
       refine tU_ 11 23 b17_12 hHeld ?_
       refine tU_ 12 24 b17_13 hHeld ?_
       refine one_ (i:=13) (N:=some 25) b17_14 rfl rfl (one_of HT_.out Q1) Q0 (fun K hK=>?_)
       refine goes_ Try.func64 Q1 rfl #[.agg #[.int .i64 ((rd_T38 l0 (ji11)).f0),.int .i64 ((rd_T38 l0 (ji11)).f1),.int .i64 ((rd_T38 l0 (ji11)).f2.f0),.int .i64 ((rd_T38 l0 (ji11)).f2.f1),.int .i64 ((rd_T38 l0 (ji11)).f3)],.agg #[.int .i64 ((rd_T38 l0 x7_1).f0),.int .i64 ((rd_T38 l0 x7_1).f1),.int .i64 ((rd_T38 l0 x7_1).f2.f0),.int .i64 ((rd_T38 l0 x7_1).f2.f1),.int .i64 ((rd_T38 l0 x7_1).f3)]] (by rfl) rfl rfl (by (try simp only [List.map_toArray,List.map_cons,List.map_nil]);first|done|(simp only [hji11];rfl)|rfl|(simp only [List.length_drop,List.length_take];rfl)) ?_
       with_reducible refine (impl_rowAhead.calls ((rd_T38 l0 (ji11)).f0) ((rd_T38 l0 (ji11)).f1) ((rd_T38 l0 (ji11)).f2.f0) ((rd_T38 l0 (ji11)).f2.f1) ((rd_T38 l0 (ji11)).f3) ((rd_T38 l0 x7_1).f0) ((rd_T38 l0 x7_1).f1) ((rd_T38 l0 x7_1).f2.f0) ((rd_T38 l0 x7_1).f2.f1) ((rd_T38 l0 x7_1).f3) true _ A14.out).mono ?_
       rintro e w20 ⟨rfl,hb⟩
       refine ⟨_,rfl,?_⟩
       replace BK358:=am (blk_below (g:=gb358) (o:=.cells #[.int .i64 ((rd_T38 l0 x7_1).f0),.int .i64 ((rd_T38 l0 x7_1).f1),.int .i64 ((rd_T38 l0 x7_1).f2.f0),.int .i64 ((rd_T38 l0 x7_1).f2.f1),.int .i64 ((rd_T38 l0 x7_1).f3)] 38 (0,0)) (by (with_reducible repeat (first|refine blk_drewN ?_ _|refine blk_drew ?_|refine blk_alloc ?_ _));exact BK358.out) hb)
       replace HB:=am (below_step Q98 hb)
       (try clear hb)
       (try clear hb2)
       (try clear hk)
       (try clear hi)
       refine hK.out _ _ ⟨(blk_cell BK358.out 0).trans rfl,(blk_cell BK358.out 1).trans rfl,(blk_cell BK358.out 2).trans rfl,(blk_cell BK358.out 3).trans rfl,(blk_cell BK358.out 4).trans rfl,(cb_ HB hw359_0:),(cb_ HB hw359_1:),(cb_ HB hw359_2:),(cb_ HB hw359_3:),(cb_ HB hw359_4:)⟩ (fun hHeld=>?_)
       clear hK K
       refine norm_ (a':=?_) ?_ ?_
       rotate_left
       ·show Act.put _ (some 25) _ = _
        simp only [Act.put,sA_,sZ_,sS_,i64_w,i32_w]
        rfl
       refine pU_ 14 26 b17_15 ?_
       refine pU_ 15 27 b17_16 ?_
       refine pU_ 16 28 b17_17 ?_
       refine done_ (done_of HT_.out Q1) ?_
       try go_wp2
       go_roundg k1
       case measure=>have:=HK1.out;omega
       case rel=>exact ⟨(wrap64 (x7_1 + 1)),Q7,H',⟨Q3⟩,⟨Q98⟩⟩
      ·replace c15:=Bool.eq_false_iff.mpr c15
       subst c15
       have H1 : (some false) = some r:=by rw [if_neg (show ¬ (false = true) by decide)] at H;exact H
       clear H
       have H:=H1
       clear H1
       obtain rfl:=Option.some.inj H
       have p357 : 0 ≤ (x7_1 : Int):=of_decide_eq_true Q8
       have q357 : x7_1 < (l0.length : Int):=of_decide_eq_true Q8
       obtain ⟨ad357,e357,hx357_0,hx357_1,hx357_2,hx357_3,hx357_4⟩:=at_T38 HR0.out x7_1 p357 q357
       cases e357
       replace hx357_0:=cb_ HB hx357_0
       replace hx357_1:=cb_ HB hx357_1
       replace hx357_2:=cb_ HB hx357_2
       replace hx357_3:=cb_ HB hx357_3
       replace hx357_4:=cb_ HB hx357_4
       replace p357:=eq_true p357
       replace q357:=eq_true q357
       try go_wp2_with (first|((with_reducible refine gate_dst (N:=4) rfl ?_);refine bE_ 4 #[.int .i64 0,.int .i64 0,.int .i64 0,.int .i64 0,.int .i64 0] 38 ?_;intro gb358 hg w21 hbox hb;have BK358:=am (hbox);have GW358:=am ((Q173 : w.heap.size ≤ gb358));replace HB:=am (below_step Q80 hb);have GE358:=GW358;clear hb hbox hg;obtain ⟨hcz22_0,hcz22_1,hcz22_2,hcz22_3,hcz22_4,hfz22_0,hfz22_1,hfz22_2,hfz22_3,hfz22_4⟩:=bx5_ BK358))
       have n0_ : Aside0 ((((((w21.setCell ⟨gb358,0,none⟩ (.int .i64 ((rd_T38 l0 x7_1).f0))).setCell ⟨gb358,1,none⟩ (.int .i64 ((rd_T38 l0 x7_1).f1))).setCell ⟨gb358,2,none⟩ (.int .i64 ((rd_T38 l0 x7_1).f2.f0))).setCell ⟨gb358,3,none⟩ (.int .i64 ((rd_T38 l0 x7_1).f2.f1))).setCell ⟨gb358,4,none⟩ (.int .i64 ((rd_T38 l0 x7_1).f3))).heap[gb358]? = some (.cells #[.int .i64 ((rd_T38 l0 x7_1).f0),.int .i64 ((rd_T38 l0 x7_1).f1),.int .i64 ((rd_T38 l0 x7_1).f2.f0),.int .i64 ((rd_T38 l0 x7_1).f2.f1),.int .i64 ((rd_T38 l0 x7_1).f3)] 38 (0,0))):=⟨Q172⟩
       have n1_ : Aside0 (Below w.heap.size w (((((w21.setCell ⟨gb358,0,none⟩ (.int .i64 ((rd_T38 l0 x7_1).f0))).setCell ⟨gb358,1,none⟩ (.int .i64 ((rd_T38 l0 x7_1).f1))).setCell ⟨gb358,2,none⟩ (.int .i64 ((rd_T38 l0 x7_1).f2.f0))).setCell ⟨gb358,3,none⟩ (.int .i64 ((rd_T38 l0 x7_1).f2.f1))).setCell ⟨gb358,4,none⟩ (.int .i64 ((rd_T38 l0 x7_1).f3)))):=⟨Q98⟩
       (try clear BK358)
       (try clear HB)
       generalize (((((w21.setCell ⟨gb358,0,none⟩ (.int .i64 ((rd_T38 l0 x7_1).f0))).setCell ⟨gb358,1,none⟩ (.int .i64 ((rd_T38 l0 x7_1).f1))).setCell ⟨gb358,2,none⟩ (.int .i64 ((rd_T38 l0 x7_1).f2.f0))).setCell ⟨gb358,3,none⟩ (.int .i64 ((rd_T38 l0 x7_1).f2.f1))).setCell ⟨gb358,4,none⟩ (.int .i64 ((rd_T38 l0 x7_1).f3))) = w23 at n0_ n1_ ⊢
       have BK358:=n0_
       have HB:=n1_
       clear n0_ n1_
       replace BK358:=am (blk_drew BK358.out)
       replace HB:=am (below_drew1 HB.out)
       have p359 : 0 ≤ ((ji11) : Int):=of_decide_eq_true Q8
       have q359 : (ji11) < (l0.length : Int):=of_decide_eq_true Q8
       obtain ⟨ad359,e359,hx359_0,hx359_1,hx359_2,hx359_3,hx359_4⟩:=at_T38 HR0.out (ji11) p359 q359
       have hw359_4:=hx359_4
       have hw359_3:=hx359_3
       have hw359_2:=hx359_2
       have hw359_1:=hx359_1
       have hw359_0:=hx359_0
       obtain rfl : ad357 = ad359:=(by injection e359)
       replace hx359_0:=cb_ HB hx359_0
       replace hx359_1:=cb_ HB hx359_1
       replace hx359_2:=cb_ HB hx359_2
       replace hx359_3:=cb_ HB hx359_3
       replace hx359_4:=cb_ HB hx359_4
       replace p359:=eq_true p359
       replace q359:=eq_true q359
       refine start_ (n:=17) (S:=fun w'=>w'.cell? ⟨gb358,0,none⟩ = some (.int .i64 ((rd_T38 l0 x7_1).f0)) ∧ w'.cell? ⟨gb358,1,none⟩ = some (.int .i64 ((rd_T38 l0 x7_1).f1)) ∧ w'.cell? ⟨gb358,2,none⟩ = some (.int .i64 ((rd_T38 l0 x7_1).f2.f0)) ∧ w'.cell? ⟨gb358,3,none⟩ = some (.int .i64 ((rd_T38 l0 x7_1).f2.f1)) ∧ w'.cell? ⟨gb358,4,none⟩ = some (.int .i64 ((rd_T38 l0 x7_1).f3)) ∧ w'.cell? (ad357.add (((ji11)).toNat * 5)) = some (.int .i64 ((rd_T38 l0 (ji11)).f0)) ∧ w'.cell? ⟨(ad357.add (((ji11)).toNat * 5)).block,(ad357.add (((ji11)).toNat * 5)).off + 1,none⟩ = some (.int .i64 ((rd_T38 l0 (ji11)).f1)) ∧ w'.cell? ⟨(ad357.add (((ji11)).toNat * 5)).block,(ad357.add (((ji11)).toNat * 5)).off + 2,none⟩ = some (.int .i64 ((rd_T38 l0 (ji11)).f2.f0)) ∧ w'.cell? ⟨(ad357.add (((ji11)).toNat * 5)).block,(ad357.add (((ji11)).toNat * 5)).off + 3,none⟩ = some (.int .i64 ((rd_T38 l0 (ji11)).f2.f1)) ∧ w'.cell? ⟨(ad357.add (((ji11)).toNat * 5)).block,(ad357.add (((ji11)).toNat * 5)).off + 4,none⟩ = some (.int .i64 ((rd_T38 l0 (ji11)).f3))) (ds:=[]) b17_0 Q1 rfl rfl ⟨(blk_cell BK358.out 0).trans rfl,(blk_cell BK358.out 1).trans rfl,(blk_cell BK358.out 2).trans rfl,(blk_cell BK358.out 3).trans rfl,(blk_cell BK358.out 4).trans rfl,(cb_ HB hw359_0:),(cb_ HB hw359_1:),(cb_ HB hw359_2:),(cb_ HB hw359_3:),(cb_ HB hw359_4:)⟩ (fun hHeld=>?_);refine with_tabW impl_BatchOk.tab4 impl_BatchOk.bits4 (fun HT_ HW_=>?_)
       generalize w23.drew = w24 at BK358 HB hx359_0 hx359_1 hx359_2 hx359_3 hx359_4 hHeld ⊢
       refine pU_ 0 12 b17_1 ?_
       refine tU_ 1 13 b17_2 hHeld ?_
       refine pU_ 2 14 b17_3 ?_
       refine pU_ 3 15 b17_4 ?_
       refine pU_ 4 16 b17_5 ?_
       refine pU_ 5 17 b17_6 ?_
       refine pU_ 6 18 b17_7 ?_
       refine pU_ 7 19 b17_8 ?_
       refine pU_ 8 20 b17_9 ?_
       refine pU_ 9 21 b17_10 ?_
       refine pU_ 10 22 b17_11 ?_
       refine tU_ 11 23 b17_12 hHeld ?_
       refine tU_ 12 24 b17_13 hHeld ?_
       refine one_ (i:=13) (N:=some 25) b17_14 rfl rfl (one_of HT_.out Q1) Q0 (fun K hK=>?_)
       refine goes_ Try.func64 Q1 rfl #[.agg #[.int .i64 ((rd_T38 l0 (ji11)).f0),.int .i64 ((rd_T38 l0 (ji11)).f1),.int .i64 ((rd_T38 l0 (ji11)).f2.f0),.int .i64 ((rd_T38 l0 (ji11)).f2.f1),.int .i64 ((rd_T38 l0 (ji11)).f3)],.agg #[.int .i64 ((rd_T38 l0 x7_1).f0),.int .i64 ((rd_T38 l0 x7_1).f1),.int .i64 ((rd_T38 l0 x7_1).f2.f0),.int .i64 ((rd_T38 l0 x7_1).f2.f1),.int .i64 ((rd_T38 l0 x7_1).f3)]] (by rfl) rfl rfl (by (try simp only [List.map_toArray,List.map_cons,List.map_nil]);first|done|(simp only [hji11];rfl)|rfl|(simp only [List.length_drop,List.length_take];rfl)) ?_
       with_reducible refine (impl_rowAhead.calls ((rd_T38 l0 (ji11)).f0) ((rd_T38 l0 (ji11)).f1) ((rd_T38 l0 (ji11)).f2.f0) ((rd_T38 l0 (ji11)).f2.f1) ((rd_T38 l0 (ji11)).f3) ((rd_T38 l0 x7_1).f0) ((rd_T38 l0 x7_1).f1) ((rd_T38 l0 x7_1).f2.f0) ((rd_T38 l0 x7_1).f2.f1) ((rd_T38 l0 x7_1).f3) false _ A14.out).mono ?_
       rintro e w25 ⟨rfl,hb⟩
       refine ⟨_,rfl,?_⟩
       replace BK358:=am (blk_below (g:=gb358) (o:=.cells #[.int .i64 ((rd_T38 l0 x7_1).f0),.int .i64 ((rd_T38 l0 x7_1).f1),.int .i64 ((rd_T38 l0 x7_1).f2.f0),.int .i64 ((rd_T38 l0 x7_1).f2.f1),.int .i64 ((rd_T38 l0 x7_1).f3)] 38 (0,0)) (by (with_reducible repeat (first|refine blk_drewN ?_ _|refine blk_drew ?_|refine blk_alloc ?_ _));exact BK358.out) hb)
       replace HB:=am (below_step Q98 hb)
       (try clear hb)
       (try clear hb2)
       (try clear hk)
       (try clear hi)
       refine hK.out _ _ ⟨(blk_cell BK358.out 0).trans rfl,(blk_cell BK358.out 1).trans rfl,(blk_cell BK358.out 2).trans rfl,(blk_cell BK358.out 3).trans rfl,(blk_cell BK358.out 4).trans rfl,(cb_ HB hw359_0:),(cb_ HB hw359_1:),(cb_ HB hw359_2:),(cb_ HB hw359_3:),(cb_ HB hw359_4:)⟩ (fun hHeld=>?_)
       clear hK K
       refine norm_ (a':=?_) ?_ ?_
       rotate_left
       ·show Act.put _ (some 25) _ = _
        simp only [Act.put,sA_,sZ_,sS_,i64_w,i32_w]
        rfl
       refine pU_ 14 26 b17_15 ?_
       refine pU_ 15 27 b17_16 ?_
       refine pU_ 16 28 b17_17 ?_
       refine done_ (done_of HT_.out Q1) ?_
       try go_wp2
       go_ret
       exact ⟨by first|rfl|(simp [errW_none,errW_some] <;> rfl)|(simp only [← hji11];first|rfl|(simp [errW_none,errW_some] <;> rfl))|(simp [*,errW_none,errW_some] <;> rfl),Q98⟩
     ·rw [if_neg c10] at H
      have c10b0 : decide (0 < x7_1) = false:=decide_eq_false c10
      clear c10
      have H':=Aside0.mk H
      clear H
      have p357 : 0 ≤ (x7_1 : Int):=of_decide_eq_true Q8
      have q357 : x7_1 < (l0.length : Int):=of_decide_eq_true Q8
      obtain ⟨ad357,e357,hx357_0,hx357_1,hx357_2,hx357_3,hx357_4⟩:=at_T38 HR0.out x7_1 p357 q357
      cases e357
      replace hx357_0:=cb_ HB hx357_0
      replace hx357_1:=cb_ HB hx357_1
      replace hx357_2:=cb_ HB hx357_2
      replace hx357_3:=cb_ HB hx357_3
      replace hx357_4:=cb_ HB hx357_4
      replace p357:=eq_true p357
      replace q357:=eq_true q357
      try go_wp2_with (first|((with_reducible refine gate_dst (N:=4) rfl ?_);refine bE_ 4 #[.int .i64 0,.int .i64 0,.int .i64 0,.int .i64 0,.int .i64 0] 38 ?_;intro gb358 hg w26 hbox hb;have BK358:=am (hbox);have GW358:=am ((Q173 : w.heap.size ≤ gb358));replace HB:=am (below_step Q80 hb);have GE358:=GW358;clear hb hbox hg;obtain ⟨hcz27_0,hcz27_1,hcz27_2,hcz27_3,hcz27_4,hfz27_0,hfz27_1,hfz27_2,hfz27_3,hfz27_4⟩:=bx5_ BK358))
      have n0_ : Aside0 ((((((w26.setCell ⟨gb358,0,none⟩ (.int .i64 ((rd_T38 l0 x7_1).f0))).setCell ⟨gb358,1,none⟩ (.int .i64 ((rd_T38 l0 x7_1).f1))).setCell ⟨gb358,2,none⟩ (.int .i64 ((rd_T38 l0 x7_1).f2.f0))).setCell ⟨gb358,3,none⟩ (.int .i64 ((rd_T38 l0 x7_1).f2.f1))).setCell ⟨gb358,4,none⟩ (.int .i64 ((rd_T38 l0 x7_1).f3))).heap[gb358]? = some (.cells #[.int .i64 ((rd_T38 l0 x7_1).f0),.int .i64 ((rd_T38 l0 x7_1).f1),.int .i64 ((rd_T38 l0 x7_1).f2.f0),.int .i64 ((rd_T38 l0 x7_1).f2.f1),.int .i64 ((rd_T38 l0 x7_1).f3)] 38 (0,0))):=⟨Q172⟩
      have n1_ : Aside0 (Below w.heap.size w (((((w26.setCell ⟨gb358,0,none⟩ (.int .i64 ((rd_T38 l0 x7_1).f0))).setCell ⟨gb358,1,none⟩ (.int .i64 ((rd_T38 l0 x7_1).f1))).setCell ⟨gb358,2,none⟩ (.int .i64 ((rd_T38 l0 x7_1).f2.f0))).setCell ⟨gb358,3,none⟩ (.int .i64 ((rd_T38 l0 x7_1).f2.f1))).setCell ⟨gb358,4,none⟩ (.int .i64 ((rd_T38 l0 x7_1).f3)))):=⟨Q98⟩
      (try clear BK358)
      (try clear HB)
      generalize (((((w26.setCell ⟨gb358,0,none⟩ (.int .i64 ((rd_T38 l0 x7_1).f0))).setCell ⟨gb358,1,none⟩ (.int .i64 ((rd_T38 l0 x7_1).f1))).setCell ⟨gb358,2,none⟩ (.int .i64 ((rd_T38 l0 x7_1).f2.f0))).setCell ⟨gb358,3,none⟩ (.int .i64 ((rd_T38 l0 x7_1).f2.f1))).setCell ⟨gb358,4,none⟩ (.int .i64 ((rd_T38 l0 x7_1).f3))) = w28 at n0_ n1_ ⊢
      have BK358:=n0_
      have HB:=n1_
      clear n0_ n1_
      replace BK358:=am (blk_drew BK358.out)
      replace HB:=am (below_drew1 HB.out)
      refine start_ (n:=17) (S:=fun w'=>w'.cell? ⟨gb358,0,none⟩ = some (.int .i64 ((rd_T38 l0 x7_1).f0)) ∧ w'.cell? ⟨gb358,1,none⟩ = some (.int .i64 ((rd_T38 l0 x7_1).f1)) ∧ w'.cell? ⟨gb358,2,none⟩ = some (.int .i64 ((rd_T38 l0 x7_1).f2.f0)) ∧ w'.cell? ⟨gb358,3,none⟩ = some (.int .i64 ((rd_T38 l0 x7_1).f2.f1)) ∧ w'.cell? ⟨gb358,4,none⟩ = some (.int .i64 ((rd_T38 l0 x7_1).f3))) (ds:=[]) b17_0 Q1 rfl rfl ⟨(blk_cell BK358.out 0).trans rfl,(blk_cell BK358.out 1).trans rfl,(blk_cell BK358.out 2).trans rfl,(blk_cell BK358.out 3).trans rfl,(blk_cell BK358.out 4).trans rfl⟩ (fun hHeld=>?_);refine with_tabW impl_BatchOk.tab4 impl_BatchOk.bits4 (fun HT_ HW_=>?_)
      generalize w28.drew = w29 at BK358 HB hHeld ⊢
      refine pU_ 0 12 b17_1 ?_
      refine tU_ 1 13 b17_2 hHeld ?_
      refine pU_ 2 14 b17_3 ?_
      refine pU_ 3 15 b17_4 ?_
      refine pU_ 4 16 b17_5 ?_
      refine pU_ 5 17 b17_6 ?_
      refine pU_ 6 18 b17_7 ?_
      refine pV_ 7 19 b17_8 ?_
      refine pV_ 8 20 b17_9 ?_
      refine pV_ 9 21 b17_10 ?_
      refine pV_ 10 22 b17_11 ?_
      refine pV_ 11 23 b17_12 ?_
      refine pV_ 12 24 b17_13 ?_
      refine pV_ 13 25 b17_14 ?_
      refine pV_ 14 26 b17_15 ?_
      refine pU_ 15 27 b17_16 ?_
      refine pU_ 16 28 b17_17 ?_
      refine done_ (done_of HT_.out Q1) ?_
      try go_wp2
      go_roundg k1
      case measure=>have:=HK1.out;omega
      case rel=>exact ⟨(wrap64 (x7_1 + 1)),Q7,H',⟨Q3⟩,⟨Q98⟩⟩
   ·rw [if_neg c2] at H
    have c2b0 : decide (x7_1 < (l0.length : Int)) = false:=decide_eq_false c2
    clear c2
    replace H:=Option.bind_eq_some_iff.mp H
    obtain ⟨t361,A300,H⟩:=H
    replace H : (some t361) = some r:=H
    have A30:=Aside0.mk A300
    clear A300
    obtain rfl:=Option.some.inj H
    go_wp2_with (first|((with_reducible refine gate_callee (f:=39) rfl ?_);refine goesL_ (some 31) rfl rfl Try.func39 Q1 rfl #[.slice A0 l0.length c0] rfl Q84 ?_;(with_reducible refine (impl_RowsOk.calls k1 _ _ l0 t361 _ ?side1 ?side2 A30.out).mono ?_);(case side1=>exact Q115);(case side2=>exact HC0.out);rintro e w31 ⟨rfl,hb⟩;refine ⟨_,rfl,?_⟩;replace HB:=am (below_step Q80 hb);(try clear hb)))
    go_ret
    exact ⟨Q18,Q80⟩
noncomputable def impl_batch.f (k : Nat) (l0 : List (S38)) : Option ((List (S38)) × Bool) := (impl_consolidated.f l0).bind fun t364 => ((impl_BatchOk.f k t364).bind fun t367 => (if t367 = true then (some (t364, true)) else (some (([] : List (S38)), false))))
set_option maxHeartbeats 8000000 in
set_option maxRecDepth 100000 in
theorem impl_batch.calls (k : Nat) (A0 : Option Addr) (c0 : Nat) (l0 : List (S38)) (r1 : List (S38)) (r2 : Bool) (w : World) (hr0 : Kd.C k38 w A0 l0.length l0) (hc0 : l0.length ≤ c0) (h : impl_batch.f k l0 = some (r1,r2)) :
  Calls Try.prog 54 #[.slice A0 l0.length c0] w fun e w'=>∃ v0_ : Value,e = .returned (.tuple #[v0_,.bool r2]) ∧ Kd.R k38 38 w' w.heap.size (fun _=>True) v0_ r1 ∧ Below w.heap.size w w':=by
 have HR0:=Aside0.mk hr0
 have HC0:=Aside0.mk hc0
 clear hr0 hc0
 have HB:=am (Below.refl w.heap.size w)
 have H : ((impl_consolidated.f l0).bind fun t364=>((impl_BatchOk.f k t364).bind fun t367=>(if t367 = true then (some (t364,true)) else (some (([] : List (S38)),false))))) = some (r1,r2):=h
 clear h
 replace H:=Option.bind_eq_some_iff.mp H
 obtain ⟨t364,A20,H⟩:=H
 replace H : ((impl_BatchOk.f k t364).bind fun t367=>(if t367 = true then (some (t364,true)) else (some (([] : List (S38)),false)))) = some (r1,r2):=H
 have A2:=Aside0.mk A20
 clear A20
 replace H:=Option.bind_eq_some_iff.mp H
 obtain ⟨t367,A30,H⟩:=H
 replace H : (if t367 = true then (some (t364,true)) else (some (([] : List (S38)),false))) = some (r1,r2):=H
 have A3:=Aside0.mk A30
 clear A30
 by_cases c4 : t367 = true
 ·subst c4
  have H1 : (some (t364,true)) = some (r1,r2):=by rw [if_pos rfl] at H;exact H
  clear H
  have H:=H1
  clear H1
  simp only [Option.some.injEq,Prod.mk.injEq] at H
  obtain ⟨rfl,rfl⟩:=H
  go_enter Try.func54,Try.ntmps54
  go_wp2_with (first|((with_reducible refine gate_callee (f:=84) rfl ?_);refine goesL_ (some 6) rfl rfl Try.func84 Q1 rfl #[.slice A0 l0.length c0] rfl Q84 ?_;(with_reducible refine (impl_consolidated.calls _ _ l0 t364 _ ?side1 ?side2 A2.out).mono ?_);(case side1=>exact Q89);(case side2=>exact HC0.out);rintro e w5 ⟨v365,rfl,ho0,hb⟩;refine ⟨_,rfl,?_⟩;have HO366:=am (Kd.R_lower ho0 (below_size Q80));replace HB:=am (below_step Q80 hb);(try clear hb ho0);obtain ⟨Ao6,co6,eo6⟩:=Kd.R_slice HO366.out;subst eo6)|((with_reducible refine gate_callee (f:=24) rfl ?_);refine goesL_ (some 8) rfl rfl Try.func24 Q1 rfl #[.slice Ao6 t364.length co6] rfl Q84 ?_;(with_reducible refine (impl_BatchOk.calls k _ _ t364 true _ ?side1 ?side2 A3.out).mono ?_);(case side1=>exact (by repeat (first|exact (Kd.R_reads' HO366.out).2.2|(with_reducible refine Kd.C_alloc ?_ _)|(with_reducible refine Kd.C_drewN ?_ _)|(with_reducible refine Kd.C_drew ?_))));(case side2=>exact (Kd.R_reads' HO366.out).2.1);rintro e w7 ⟨rfl,hb⟩;refine ⟨_,rfl,?_⟩;replace HO366:=am (Kd.R_below Q31 hb);replace HB:=am (below_step Q80 hb);(try clear hb)))
  go_ret2
  exact ⟨_,Q18,Q31,Q80⟩
 ·replace c4:=Bool.eq_false_iff.mpr c4
  subst c4
  have H1 : (some (([] : List (S38)),false)) = some (r1,r2):=by rw [if_neg (show ¬ (false = true) by decide)] at H;exact H
  clear H
  have H:=H1
  clear H1
  simp only [Option.some.injEq,Prod.mk.injEq] at H
  obtain ⟨rfl,rfl⟩:=H
  go_enter Try.func54,Try.ntmps54
  go_wp2_with (first|((with_reducible refine gate_callee (f:=84) rfl ?_);refine goesL_ (some 6) rfl rfl Try.func84 Q1 rfl #[.slice A0 l0.length c0] rfl Q84 ?_;(with_reducible refine (impl_consolidated.calls _ _ l0 t364 _ ?side1 ?side2 A2.out).mono ?_);(case side1=>exact Q89);(case side2=>exact HC0.out);rintro e w8 ⟨v365,rfl,ho0,hb⟩;refine ⟨_,rfl,?_⟩;have HO366:=am (Kd.R_lower ho0 (below_size Q80));replace HB:=am (below_step Q80 hb);(try clear hb ho0);obtain ⟨Ao9,co9,eo9⟩:=Kd.R_slice HO366.out;subst eo9)|((with_reducible refine gate_callee (f:=24) rfl ?_);refine goesL_ (some 8) rfl rfl Try.func24 Q1 rfl #[.slice Ao9 t364.length co9] rfl Q84 ?_;(with_reducible refine (impl_BatchOk.calls k _ _ t364 false _ ?side1 ?side2 A3.out).mono ?_);(case side1=>exact (by repeat (first|exact (Kd.R_reads' HO366.out).2.2|(with_reducible refine Kd.C_alloc ?_ _)|(with_reducible refine Kd.C_drewN ?_ _)|(with_reducible refine Kd.C_drew ?_))));(case side2=>exact (Kd.R_reads' HO366.out).2.1);rintro e w10 ⟨rfl,hb⟩;refine ⟨_,rfl,?_⟩;replace HO366:=am (Kd.R_below Q31 hb);replace HB:=am (below_step Q80 hb);(try clear hb)))
  go_ret2
  exact ⟨_,Q18,Q85,Q80⟩
def impl_TimeJoin.f (a0_0 : Int) (a0_1 : Int) (a1_0 : Int) (a1_1 : Int) : Option (Int × Int) := (impl_TimeOk.f a0_0 a0_1).bind fun t371 => (if t371 = true then ((impl_TimeOk.f a1_0 a1_1).bind fun t372 => (if t372 = true then (some (mx a0_0 a1_0, mx a0_1 a1_1)) else (some (0, 0)))) else (some (0, 0)))
set_option maxHeartbeats 8000000 in
set_option maxRecDepth 100000 in
theorem impl_TimeJoin.calls (a0_0 : Int) (a0_1 : Int) (a1_0 : Int) (a1_1 : Int) (r1 : Int) (r2 : Int) (w : World) (h : impl_TimeJoin.f a0_0 a0_1 a1_0 a1_1 = some (r1,r2)) :
  Calls Try.prog 98 #[.agg #[.int .i64 a0_0,.int .i64 a0_1],.agg #[.int .i64 a1_0,.int .i64 a1_1]] w fun e w'=>e = .returned (.agg #[.int .i64 r1,.int .i64 r2]) ∧ Below w.heap.size w w':=by
 have hu36:=Try.underlying36
 have HB:=am (Below.refl w.heap.size w)
 have H : ((impl_TimeOk.f a0_0 a0_1).bind fun t371=>(if t371 = true then ((impl_TimeOk.f a1_0 a1_1).bind fun t372=>(if t372 = true then (some (mx a0_0 a1_0,mx a0_1 a1_1)) else (some (0,0)))) else (some (0,0)))) = some (r1,r2):=h
 clear h
 replace H:=Option.bind_eq_some_iff.mp H
 obtain ⟨t371,A30,H⟩:=H
 replace H : (if t371 = true then ((impl_TimeOk.f a1_0 a1_1).bind fun t372=>(if t372 = true then (some (mx a0_0 a1_0,mx a0_1 a1_1)) else (some (0,0)))) else (some (0,0))) = some (r1,r2):=H
 have A3:=Aside0.mk A30
 clear A30
 by_cases c4 : t371 = true
 ·subst c4
  have H1 : ((impl_TimeOk.f a1_0 a1_1).bind fun t372=>(if t372 = true then (some (mx a0_0 a1_0,mx a0_1 a1_1)) else (some (0,0)))) = some (r1,r2):=by rw [if_pos rfl] at H;exact H
  clear H
  have H:=H1
  clear H1
  replace H:=Option.bind_eq_some_iff.mp H
  obtain ⟨t372,A50,H⟩:=H
  replace H : (if t372 = true then (some (mx a0_0 a1_0,mx a0_1 a1_1)) else (some (0,0))) = some (r1,r2):=H
  have A5:=Aside0.mk A50
  clear A50
  by_cases c6 : t372 = true
  ·subst c6
   have H1 : (some (mx a0_0 a1_0,mx a0_1 a1_1)) = some (r1,r2):=by rw [if_pos rfl] at H;exact H
   clear H
   have H:=H1
   clear H1
   obtain ⟨ji7,hji7⟩ : ∃ j_ : Int,(mx a0_0 a1_0) = j_:=⟨_,rfl⟩
   replace H : (some (ji7,mx a0_1 a1_1)) = some (r1,r2):=Q12
   (try rw [hji7] at A3)
   (try rw [hji7] at A5)
   have hji7_ : (if a0_0 < a1_0 then a1_0 else a0_0) = ji7:=hji7
   obtain ⟨ji8,hji8⟩ : ∃ j_ : Int,(mx a0_1 a1_1) = j_:=⟨_,rfl⟩
   replace H : (some (ji7,ji8)) = some (r1,r2):=Q11
   (try rw [hji8] at A3)
   (try rw [hji8] at A5)
   have hji8_ : (if a0_1 < a1_1 then a1_1 else a0_1) = ji8:=hji8
   simp only [Option.some.injEq,Prod.mk.injEq] at H
   obtain ⟨rfl,rfl⟩:=H
   go_enter Try.func98,Try.ntmps98
   go_wp2_with (first|((with_reducible refine gate_dst (N:=2) rfl ?_);refine bE_ 2 #[.int .i64 a0_0,.int .i64 a0_1] 36 ?_;intro gb368 hg w9 hbox hb;have BK368:=am (hbox);have GW368:=am ((Q173 : w.heap.size ≤ gb368));replace HB:=am (below_step Q80 hb);have GE368:=GW368;clear hb hbox hg)|((with_reducible refine gate_dst (N:=3) rfl ?_);refine bE_ 3 #[.int .i64 a1_0,.int .i64 a1_1] 36 ?_;intro gb369 hg w10 hbox hb;have BK369:=am (hbox);have GW369:=am ((by rw [hg];exact (below_size Q99) : w.heap.size ≤ gb369));replace HB:=am (below_step Q99 hb);have NB368_369:=am ((Q185 : gb368 ≠ gb369));have NB369_368:=am ((Q186 : gb369 ≠ gb368));replace BK368:=am (blk_below (g:=gb368) (o:=.cells #[.int .i64 a0_0,.int .i64 a0_1] 36 (0,0)) Q53 hb);have GE369:=GW369;clear hb hbox hg)|((with_reducible refine gate_dst (N:=4) rfl ?_);refine bE_ 4 #[.int .i64 0,.int .i64 0] 36 ?_;intro gb370 hg w11 hbox hb;have BK370:=am (hbox);have GW370:=am ((by rw [hg];exact (below_size Q136) : w.heap.size ≤ gb370));replace HB:=am (below_step Q136 hb);have NB368_370:=am ((Q185 : gb368 ≠ gb370));have NB370_368:=am ((Q186 : gb370 ≠ gb368));replace BK368:=am (blk_below (g:=gb368) (o:=.cells #[.int .i64 a0_0,.int .i64 a0_1] 36 (0,0)) Q53 hb);have NB369_370:=am ((Q187 : gb369 ≠ gb370));have NB370_369:=am ((Q188 : gb370 ≠ gb369));replace BK369:=am (blk_below (g:=gb369) (o:=.cells #[.int .i64 a1_0,.int .i64 a1_1] 36 (0,0)) Q54 hb);have GE370:=GW370;clear hb hbox hg;have hnb12:=NB368_369.out;have hnc12:=NB369_368.out;have hnb13:=NB368_370.out;have hnc13:=NB370_368.out;obtain ⟨hcz14_0,hcz14_1,hfz14_0,hfz14_1⟩:=bx2_ BK368)|((with_reducible refine gate_callee (f:=62) rfl ?_);refine goesL_ (some 6) rfl rfl Try.func62 Q1 rfl #[.agg #[.int .i64 a0_0,.int .i64 a0_1]] rfl Q84 ?_;(with_reducible refine (impl_TimeOk.calls a0_0 a0_1 true _ A3.out).mono ?_);rintro e w15 ⟨rfl,hb⟩;refine ⟨_,rfl,?_⟩;replace BK368:=am (blk_below (g:=gb368) (o:=.cells #[.int .i64 a0_0,.int .i64 a0_1] 36 (0,0)) Q53 hb);replace BK369:=am (blk_below (g:=gb369) (o:=.cells #[.int .i64 a1_0,.int .i64 a1_1] 36 (0,0)) Q54 hb);replace BK370:=am (blk_below (g:=gb370) (o:=.cells #[.int .i64 0,.int .i64 0] 36 (0,0)) Q55 hb);replace HB:=am (below_step Q153 hb);(try clear hb);have hnb16:=NB369_370.out;have hnc16:=NB370_369.out;obtain ⟨hcz17_0,hcz17_1,hfz17_0,hfz17_1⟩:=bx2_ BK369)|(go_at_call 62;(with_reducible refine (impl_TimeOk.calls a1_0 a1_1 true _ A5.out).mono ?_);rintro e w18 ⟨rfl,hb⟩;replace BK368:=am (blk_below (g:=gb368) (o:=.cells #[.int .i64 a0_0,.int .i64 a0_1] 36 (0,0)) Q53 hb);replace BK369:=am (blk_below (g:=gb369) (o:=.cells #[.int .i64 a1_0,.int .i64 a1_1] 36 (0,0)) Q54 hb);replace BK370:=am (blk_below (g:=gb370) (o:=.cells #[.int .i64 0,.int .i64 0] 36 (0,0)) Q55 hb);replace HB:=am (below_step Q153 hb);(try clear hb);obtain ⟨hcz19_0,hcz19_1,hfz19_0,hfz19_1⟩:=bx2_ BK368;obtain ⟨hcz20_0,hcz20_1,hfz20_0,hfz20_1⟩:=bx2_ BK369;obtain ⟨hcz21_0,hcz21_1,hfz21_0,hfz21_1⟩:=bx2_ BK370))
   refine bodyPost_ret (results_cell_row rfl _ _ gb370 36 #[.int .i64 ji7,.int .i64 ji8] (0,0) _ rfl (by (with_reducible repeat (first|refine blk_drewN ?_ _|refine blk_drew ?_|refine blk_alloc ?_ _));refine blk_put (cs:=#[.int .i64 ji7,.int .i64 0]) ?_ 1 _ rfl;(with_reducible repeat (first|refine blk_drewN ?_ _|refine blk_drew ?_|refine blk_alloc ?_ _));refine blk_put (cs:=#[.int .i64 0,.int .i64 0]) ?_ 0 _ rfl;(with_reducible repeat (first|refine blk_drewN ?_ _|refine blk_drew ?_|refine blk_alloc ?_ _));exact BK370.out) Try.underlying36 rfl Q1) rfl ?_
   exact ⟨Q122,Q153⟩
  ·replace c6:=Bool.eq_false_iff.mpr c6
   subst c6
   have H1 : (some (0,0)) = some (r1,r2):=by rw [if_neg (show ¬ (false = true) by decide)] at H;exact H
   clear H
   have H:=H1
   clear H1
   simp only [Option.some.injEq,Prod.mk.injEq] at H
   obtain ⟨rfl,rfl⟩:=H
   go_enter Try.func98,Try.ntmps98
   go_wp2_with (first|((with_reducible refine gate_dst (N:=2) rfl ?_);refine bE_ 2 #[.int .i64 a0_0,.int .i64 a0_1] 36 ?_;intro gb368 hg w22 hbox hb;have BK368:=am (hbox);have GW368:=am ((Q173 : w.heap.size ≤ gb368));replace HB:=am (below_step Q80 hb);have GE368:=GW368;clear hb hbox hg)|((with_reducible refine gate_dst (N:=3) rfl ?_);refine bE_ 3 #[.int .i64 a1_0,.int .i64 a1_1] 36 ?_;intro gb369 hg w23 hbox hb;have BK369:=am (hbox);have GW369:=am ((by rw [hg];exact (below_size Q99) : w.heap.size ≤ gb369));replace HB:=am (below_step Q99 hb);have NB368_369:=am ((Q185 : gb368 ≠ gb369));have NB369_368:=am ((Q186 : gb369 ≠ gb368));replace BK368:=am (blk_below (g:=gb368) (o:=.cells #[.int .i64 a0_0,.int .i64 a0_1] 36 (0,0)) Q53 hb);have GE369:=GW369;clear hb hbox hg)|((with_reducible refine gate_dst (N:=4) rfl ?_);refine bE_ 4 #[.int .i64 0,.int .i64 0] 36 ?_;intro gb370 hg w24 hbox hb;have BK370:=am (hbox);have GW370:=am ((by rw [hg];exact (below_size Q136) : w.heap.size ≤ gb370));replace HB:=am (below_step Q136 hb);have NB368_370:=am ((Q185 : gb368 ≠ gb370));have NB370_368:=am ((Q186 : gb370 ≠ gb368));replace BK368:=am (blk_below (g:=gb368) (o:=.cells #[.int .i64 a0_0,.int .i64 a0_1] 36 (0,0)) Q53 hb);have NB369_370:=am ((Q187 : gb369 ≠ gb370));have NB370_369:=am ((Q188 : gb370 ≠ gb369));replace BK369:=am (blk_below (g:=gb369) (o:=.cells #[.int .i64 a1_0,.int .i64 a1_1] 36 (0,0)) Q54 hb);have GE370:=GW370;clear hb hbox hg;have hnb25:=NB368_369.out;have hnc25:=NB369_368.out;have hnb26:=NB368_370.out;have hnc26:=NB370_368.out;obtain ⟨hcz27_0,hcz27_1,hfz27_0,hfz27_1⟩:=bx2_ BK368)|((with_reducible refine gate_callee (f:=62) rfl ?_);refine goesL_ (some 6) rfl rfl Try.func62 Q1 rfl #[.agg #[.int .i64 a0_0,.int .i64 a0_1]] rfl Q84 ?_;(with_reducible refine (impl_TimeOk.calls a0_0 a0_1 true _ A3.out).mono ?_);rintro e w28 ⟨rfl,hb⟩;refine ⟨_,rfl,?_⟩;replace BK368:=am (blk_below (g:=gb368) (o:=.cells #[.int .i64 a0_0,.int .i64 a0_1] 36 (0,0)) Q53 hb);replace BK369:=am (blk_below (g:=gb369) (o:=.cells #[.int .i64 a1_0,.int .i64 a1_1] 36 (0,0)) Q54 hb);replace BK370:=am (blk_below (g:=gb370) (o:=.cells #[.int .i64 0,.int .i64 0] 36 (0,0)) Q55 hb);replace HB:=am (below_step Q153 hb);(try clear hb);have hnb29:=NB369_370.out;have hnc29:=NB370_369.out;obtain ⟨hcz30_0,hcz30_1,hfz30_0,hfz30_1⟩:=bx2_ BK369)|(go_at_call 62;(with_reducible refine (impl_TimeOk.calls a1_0 a1_1 false _ A5.out).mono ?_);rintro e w31 ⟨rfl,hb⟩;replace BK368:=am (blk_below (g:=gb368) (o:=.cells #[.int .i64 a0_0,.int .i64 a0_1] 36 (0,0)) Q53 hb);replace BK369:=am (blk_below (g:=gb369) (o:=.cells #[.int .i64 a1_0,.int .i64 a1_1] 36 (0,0)) Q54 hb);replace BK370:=am (blk_below (g:=gb370) (o:=.cells #[.int .i64 0,.int .i64 0] 36 (0,0)) Q55 hb);replace HB:=am (below_step Q153 hb);(try clear hb);obtain ⟨hcz32_0,hcz32_1,hfz32_0,hfz32_1⟩:=bx2_ BK370))
   refine bodyPost_ret (results_cell_row rfl _ _ gb370 36 #[.int .i64 0,.int .i64 0] (0,0) _ rfl (by (with_reducible repeat (first|refine blk_drewN ?_ _|refine blk_drew ?_|refine blk_alloc ?_ _));refine blk_put (cs:=#[.int .i64 0,.int .i64 0]) ?_ 1 _ rfl;(with_reducible repeat (first|refine blk_drewN ?_ _|refine blk_drew ?_|refine blk_alloc ?_ _));refine blk_put (cs:=#[.int .i64 0,.int .i64 0]) ?_ 0 _ rfl;(with_reducible repeat (first|refine blk_drewN ?_ _|refine blk_drew ?_|refine blk_alloc ?_ _));exact BK370.out) Try.underlying36 rfl Q1) rfl ?_
   exact ⟨Q18,Q153⟩
 ·replace c4:=Bool.eq_false_iff.mpr c4
  subst c4
  have H1 : (some (0,0)) = some (r1,r2):=by rw [if_neg (show ¬ (false = true) by decide)] at H;exact H
  clear H
  have H:=H1
  clear H1
  simp only [Option.some.injEq,Prod.mk.injEq] at H
  obtain ⟨rfl,rfl⟩:=H
  go_enter Try.func98,Try.ntmps98
  go_wp2_with (first|((with_reducible refine gate_dst (N:=2) rfl ?_);refine bE_ 2 #[.int .i64 a0_0,.int .i64 a0_1] 36 ?_;intro gb368 hg w33 hbox hb;have BK368:=am (hbox);have GW368:=am ((Q173 : w.heap.size ≤ gb368));replace HB:=am (below_step Q80 hb);have GE368:=GW368;clear hb hbox hg)|((with_reducible refine gate_dst (N:=3) rfl ?_);refine bE_ 3 #[.int .i64 a1_0,.int .i64 a1_1] 36 ?_;intro gb369 hg w34 hbox hb;have BK369:=am (hbox);have GW369:=am ((by rw [hg];exact (below_size Q99) : w.heap.size ≤ gb369));replace HB:=am (below_step Q99 hb);have NB368_369:=am ((Q185 : gb368 ≠ gb369));have NB369_368:=am ((Q186 : gb369 ≠ gb368));replace BK368:=am (blk_below (g:=gb368) (o:=.cells #[.int .i64 a0_0,.int .i64 a0_1] 36 (0,0)) Q53 hb);have GE369:=GW369;clear hb hbox hg)|((with_reducible refine gate_dst (N:=4) rfl ?_);refine bE_ 4 #[.int .i64 0,.int .i64 0] 36 ?_;intro gb370 hg w35 hbox hb;have BK370:=am (hbox);have GW370:=am ((by rw [hg];exact (below_size Q136) : w.heap.size ≤ gb370));replace HB:=am (below_step Q136 hb);have NB368_370:=am ((Q185 : gb368 ≠ gb370));have NB370_368:=am ((Q186 : gb370 ≠ gb368));replace BK368:=am (blk_below (g:=gb368) (o:=.cells #[.int .i64 a0_0,.int .i64 a0_1] 36 (0,0)) Q53 hb);have NB369_370:=am ((Q187 : gb369 ≠ gb370));have NB370_369:=am ((Q188 : gb370 ≠ gb369));replace BK369:=am (blk_below (g:=gb369) (o:=.cells #[.int .i64 a1_0,.int .i64 a1_1] 36 (0,0)) Q54 hb);have GE370:=GW370;clear hb hbox hg;have hnb36:=NB368_369.out;have hnc36:=NB369_368.out;have hnb37:=NB368_370.out;have hnc37:=NB370_368.out;obtain ⟨hcz38_0,hcz38_1,hfz38_0,hfz38_1⟩:=bx2_ BK368)|((with_reducible refine gate_callee (f:=62) rfl ?_);refine goesL_ (some 6) rfl rfl Try.func62 Q1 rfl #[.agg #[.int .i64 a0_0,.int .i64 a0_1]] rfl Q84 ?_;(with_reducible refine (impl_TimeOk.calls a0_0 a0_1 false _ A3.out).mono ?_);rintro e w39 ⟨rfl,hb⟩;refine ⟨_,rfl,?_⟩;replace BK368:=am (blk_below (g:=gb368) (o:=.cells #[.int .i64 a0_0,.int .i64 a0_1] 36 (0,0)) Q53 hb);replace BK369:=am (blk_below (g:=gb369) (o:=.cells #[.int .i64 a1_0,.int .i64 a1_1] 36 (0,0)) Q54 hb);replace BK370:=am (blk_below (g:=gb370) (o:=.cells #[.int .i64 0,.int .i64 0] 36 (0,0)) Q55 hb);replace HB:=am (below_step Q153 hb);(try clear hb);have hnb40:=NB370_369.out;have hnc40:=NB369_370.out;obtain ⟨hcz41_0,hcz41_1,hfz41_0,hfz41_1⟩:=bx2_ BK370))
  refine bodyPost_ret (results_cell_row rfl _ _ gb370 36 #[.int .i64 0,.int .i64 0] (0,0) _ rfl (by (with_reducible repeat (first|refine blk_drewN ?_ _|refine blk_drew ?_|refine blk_alloc ?_ _));refine blk_put (cs:=#[.int .i64 0,.int .i64 0]) ?_ 1 _ rfl;(with_reducible repeat (first|refine blk_drewN ?_ _|refine blk_drew ?_|refine blk_alloc ?_ _));refine blk_put (cs:=#[.int .i64 0,.int .i64 0]) ?_ 0 _ rfl;(with_reducible repeat (first|refine blk_drewN ?_ _|refine blk_drew ?_|refine blk_alloc ?_ _));exact BK370.out) Try.underlying36 rfl Q1) rfl ?_
  exact ⟨Q18,Q153⟩
def impl_TimeMeet.f (a0_0 : Int) (a0_1 : Int) (a1_0 : Int) (a1_1 : Int) : Option (Int × Int) := (impl_TimeOk.f a0_0 a0_1).bind fun t376 => (if t376 = true then ((impl_TimeOk.f a1_0 a1_1).bind fun t377 => (if t377 = true then (some (mn a0_0 a1_0, mn a0_1 a1_1)) else (some (0, 0)))) else (some (0, 0)))
set_option maxHeartbeats 8000000 in
set_option maxRecDepth 100000 in
theorem impl_TimeMeet.calls (a0_0 : Int) (a0_1 : Int) (a1_0 : Int) (a1_1 : Int) (r1 : Int) (r2 : Int) (w : World) (h : impl_TimeMeet.f a0_0 a0_1 a1_0 a1_1 = some (r1,r2)) :
  Calls Try.prog 99 #[.agg #[.int .i64 a0_0,.int .i64 a0_1],.agg #[.int .i64 a1_0,.int .i64 a1_1]] w fun e w'=>e = .returned (.agg #[.int .i64 r1,.int .i64 r2]) ∧ Below w.heap.size w w':=by
 have hu36:=Try.underlying36
 have HB:=am (Below.refl w.heap.size w)
 have H : ((impl_TimeOk.f a0_0 a0_1).bind fun t376=>(if t376 = true then ((impl_TimeOk.f a1_0 a1_1).bind fun t377=>(if t377 = true then (some (mn a0_0 a1_0,mn a0_1 a1_1)) else (some (0,0)))) else (some (0,0)))) = some (r1,r2):=h
 clear h
 replace H:=Option.bind_eq_some_iff.mp H
 obtain ⟨t376,A30,H⟩:=H
 replace H : (if t376 = true then ((impl_TimeOk.f a1_0 a1_1).bind fun t377=>(if t377 = true then (some (mn a0_0 a1_0,mn a0_1 a1_1)) else (some (0,0)))) else (some (0,0))) = some (r1,r2):=H
 have A3:=Aside0.mk A30
 clear A30
 by_cases c4 : t376 = true
 ·subst c4
  have H1 : ((impl_TimeOk.f a1_0 a1_1).bind fun t377=>(if t377 = true then (some (mn a0_0 a1_0,mn a0_1 a1_1)) else (some (0,0)))) = some (r1,r2):=by rw [if_pos rfl] at H;exact H
  clear H
  have H:=H1
  clear H1
  replace H:=Option.bind_eq_some_iff.mp H
  obtain ⟨t377,A50,H⟩:=H
  replace H : (if t377 = true then (some (mn a0_0 a1_0,mn a0_1 a1_1)) else (some (0,0))) = some (r1,r2):=H
  have A5:=Aside0.mk A50
  clear A50
  by_cases c6 : t377 = true
  ·subst c6
   have H1 : (some (mn a0_0 a1_0,mn a0_1 a1_1)) = some (r1,r2):=by rw [if_pos rfl] at H;exact H
   clear H
   have H:=H1
   clear H1
   obtain ⟨ji7,hji7⟩ : ∃ j_ : Int,(mn a0_0 a1_0) = j_:=⟨_,rfl⟩
   replace H : (some (ji7,mn a0_1 a1_1)) = some (r1,r2):=Q12
   (try rw [hji7] at A3)
   (try rw [hji7] at A5)
   have hji7_ : (if a1_0 < a0_0 then a1_0 else a0_0) = ji7:=hji7
   obtain ⟨ji8,hji8⟩ : ∃ j_ : Int,(mn a0_1 a1_1) = j_:=⟨_,rfl⟩
   replace H : (some (ji7,ji8)) = some (r1,r2):=Q11
   (try rw [hji8] at A3)
   (try rw [hji8] at A5)
   have hji8_ : (if a1_1 < a0_1 then a1_1 else a0_1) = ji8:=hji8
   simp only [Option.some.injEq,Prod.mk.injEq] at H
   obtain ⟨rfl,rfl⟩:=H
   go_enter Try.func99,Try.ntmps99
   go_wp2_with (first|((with_reducible refine gate_dst (N:=2) rfl ?_);refine bE_ 2 #[.int .i64 a0_0,.int .i64 a0_1] 36 ?_;intro gb373 hg w9 hbox hb;have BK373:=am (hbox);have GW373:=am ((Q173 : w.heap.size ≤ gb373));replace HB:=am (below_step Q80 hb);have GE373:=GW373;clear hb hbox hg)|((with_reducible refine gate_dst (N:=3) rfl ?_);refine bE_ 3 #[.int .i64 a1_0,.int .i64 a1_1] 36 ?_;intro gb374 hg w10 hbox hb;have BK374:=am (hbox);have GW374:=am ((by rw [hg];exact (below_size Q100) : w.heap.size ≤ gb374));replace HB:=am (below_step Q100 hb);have NB373_374:=am ((Q189 : gb373 ≠ gb374));have NB374_373:=am ((Q190 : gb374 ≠ gb373));replace BK373:=am (blk_below (g:=gb373) (o:=.cells #[.int .i64 a0_0,.int .i64 a0_1] 36 (0,0)) Q56 hb);have GE374:=GW374;clear hb hbox hg)|((with_reducible refine gate_dst (N:=4) rfl ?_);refine bE_ 4 #[.int .i64 0,.int .i64 0] 36 ?_;intro gb375 hg w11 hbox hb;have BK375:=am (hbox);have GW375:=am ((by rw [hg];exact (below_size Q137) : w.heap.size ≤ gb375));replace HB:=am (below_step Q137 hb);have NB373_375:=am ((Q189 : gb373 ≠ gb375));have NB375_373:=am ((Q190 : gb375 ≠ gb373));replace BK373:=am (blk_below (g:=gb373) (o:=.cells #[.int .i64 a0_0,.int .i64 a0_1] 36 (0,0)) Q56 hb);have NB374_375:=am ((Q191 : gb374 ≠ gb375));have NB375_374:=am ((Q192 : gb375 ≠ gb374));replace BK374:=am (blk_below (g:=gb374) (o:=.cells #[.int .i64 a1_0,.int .i64 a1_1] 36 (0,0)) Q57 hb);have GE375:=GW375;clear hb hbox hg;have hnb12:=NB373_374.out;have hnc12:=NB374_373.out;have hnb13:=NB373_375.out;have hnc13:=NB375_373.out;obtain ⟨hcz14_0,hcz14_1,hfz14_0,hfz14_1⟩:=bx2_ BK373)|((with_reducible refine gate_callee (f:=62) rfl ?_);refine goesL_ (some 6) rfl rfl Try.func62 Q1 rfl #[.agg #[.int .i64 a0_0,.int .i64 a0_1]] rfl Q84 ?_;(with_reducible refine (impl_TimeOk.calls a0_0 a0_1 true _ A3.out).mono ?_);rintro e w15 ⟨rfl,hb⟩;refine ⟨_,rfl,?_⟩;replace BK373:=am (blk_below (g:=gb373) (o:=.cells #[.int .i64 a0_0,.int .i64 a0_1] 36 (0,0)) Q56 hb);replace BK374:=am (blk_below (g:=gb374) (o:=.cells #[.int .i64 a1_0,.int .i64 a1_1] 36 (0,0)) Q57 hb);replace BK375:=am (blk_below (g:=gb375) (o:=.cells #[.int .i64 0,.int .i64 0] 36 (0,0)) Q58 hb);replace HB:=am (below_step Q154 hb);(try clear hb);have hnb16:=NB374_375.out;have hnc16:=NB375_374.out;obtain ⟨hcz17_0,hcz17_1,hfz17_0,hfz17_1⟩:=bx2_ BK374)|(go_at_call 62;(with_reducible refine (impl_TimeOk.calls a1_0 a1_1 true _ A5.out).mono ?_);rintro e w18 ⟨rfl,hb⟩;replace BK373:=am (blk_below (g:=gb373) (o:=.cells #[.int .i64 a0_0,.int .i64 a0_1] 36 (0,0)) Q56 hb);replace BK374:=am (blk_below (g:=gb374) (o:=.cells #[.int .i64 a1_0,.int .i64 a1_1] 36 (0,0)) Q57 hb);replace BK375:=am (blk_below (g:=gb375) (o:=.cells #[.int .i64 0,.int .i64 0] 36 (0,0)) Q58 hb);replace HB:=am (below_step Q154 hb);(try clear hb);obtain ⟨hcz19_0,hcz19_1,hfz19_0,hfz19_1⟩:=bx2_ BK373;obtain ⟨hcz20_0,hcz20_1,hfz20_0,hfz20_1⟩:=bx2_ BK374;obtain ⟨hcz21_0,hcz21_1,hfz21_0,hfz21_1⟩:=bx2_ BK375))
   refine bodyPost_ret (results_cell_row rfl _ _ gb375 36 #[.int .i64 ji7,.int .i64 ji8] (0,0) _ rfl (by (with_reducible repeat (first|refine blk_drewN ?_ _|refine blk_drew ?_|refine blk_alloc ?_ _));refine blk_put (cs:=#[.int .i64 ji7,.int .i64 0]) ?_ 1 _ rfl;(with_reducible repeat (first|refine blk_drewN ?_ _|refine blk_drew ?_|refine blk_alloc ?_ _));refine blk_put (cs:=#[.int .i64 0,.int .i64 0]) ?_ 0 _ rfl;(with_reducible repeat (first|refine blk_drewN ?_ _|refine blk_drew ?_|refine blk_alloc ?_ _));exact BK375.out) Try.underlying36 rfl Q1) rfl ?_
   exact ⟨Q122,Q154⟩
  ·replace c6:=Bool.eq_false_iff.mpr c6
   subst c6
   have H1 : (some (0,0)) = some (r1,r2):=by rw [if_neg (show ¬ (false = true) by decide)] at H;exact H
   clear H
   have H:=H1
   clear H1
   simp only [Option.some.injEq,Prod.mk.injEq] at H
   obtain ⟨rfl,rfl⟩:=H
   go_enter Try.func99,Try.ntmps99
   go_wp2_with (first|((with_reducible refine gate_dst (N:=2) rfl ?_);refine bE_ 2 #[.int .i64 a0_0,.int .i64 a0_1] 36 ?_;intro gb373 hg w22 hbox hb;have BK373:=am (hbox);have GW373:=am ((Q173 : w.heap.size ≤ gb373));replace HB:=am (below_step Q80 hb);have GE373:=GW373;clear hb hbox hg)|((with_reducible refine gate_dst (N:=3) rfl ?_);refine bE_ 3 #[.int .i64 a1_0,.int .i64 a1_1] 36 ?_;intro gb374 hg w23 hbox hb;have BK374:=am (hbox);have GW374:=am ((by rw [hg];exact (below_size Q100) : w.heap.size ≤ gb374));replace HB:=am (below_step Q100 hb);have NB373_374:=am ((Q189 : gb373 ≠ gb374));have NB374_373:=am ((Q190 : gb374 ≠ gb373));replace BK373:=am (blk_below (g:=gb373) (o:=.cells #[.int .i64 a0_0,.int .i64 a0_1] 36 (0,0)) Q56 hb);have GE374:=GW374;clear hb hbox hg)|((with_reducible refine gate_dst (N:=4) rfl ?_);refine bE_ 4 #[.int .i64 0,.int .i64 0] 36 ?_;intro gb375 hg w24 hbox hb;have BK375:=am (hbox);have GW375:=am ((by rw [hg];exact (below_size Q137) : w.heap.size ≤ gb375));replace HB:=am (below_step Q137 hb);have NB373_375:=am ((Q189 : gb373 ≠ gb375));have NB375_373:=am ((Q190 : gb375 ≠ gb373));replace BK373:=am (blk_below (g:=gb373) (o:=.cells #[.int .i64 a0_0,.int .i64 a0_1] 36 (0,0)) Q56 hb);have NB374_375:=am ((Q191 : gb374 ≠ gb375));have NB375_374:=am ((Q192 : gb375 ≠ gb374));replace BK374:=am (blk_below (g:=gb374) (o:=.cells #[.int .i64 a1_0,.int .i64 a1_1] 36 (0,0)) Q57 hb);have GE375:=GW375;clear hb hbox hg;have hnb25:=NB373_374.out;have hnc25:=NB374_373.out;have hnb26:=NB373_375.out;have hnc26:=NB375_373.out;obtain ⟨hcz27_0,hcz27_1,hfz27_0,hfz27_1⟩:=bx2_ BK373)|((with_reducible refine gate_callee (f:=62) rfl ?_);refine goesL_ (some 6) rfl rfl Try.func62 Q1 rfl #[.agg #[.int .i64 a0_0,.int .i64 a0_1]] rfl Q84 ?_;(with_reducible refine (impl_TimeOk.calls a0_0 a0_1 true _ A3.out).mono ?_);rintro e w28 ⟨rfl,hb⟩;refine ⟨_,rfl,?_⟩;replace BK373:=am (blk_below (g:=gb373) (o:=.cells #[.int .i64 a0_0,.int .i64 a0_1] 36 (0,0)) Q56 hb);replace BK374:=am (blk_below (g:=gb374) (o:=.cells #[.int .i64 a1_0,.int .i64 a1_1] 36 (0,0)) Q57 hb);replace BK375:=am (blk_below (g:=gb375) (o:=.cells #[.int .i64 0,.int .i64 0] 36 (0,0)) Q58 hb);replace HB:=am (below_step Q154 hb);(try clear hb);have hnb29:=NB374_375.out;have hnc29:=NB375_374.out;obtain ⟨hcz30_0,hcz30_1,hfz30_0,hfz30_1⟩:=bx2_ BK374)|(go_at_call 62;(with_reducible refine (impl_TimeOk.calls a1_0 a1_1 false _ A5.out).mono ?_);rintro e w31 ⟨rfl,hb⟩;replace BK373:=am (blk_below (g:=gb373) (o:=.cells #[.int .i64 a0_0,.int .i64 a0_1] 36 (0,0)) Q56 hb);replace BK374:=am (blk_below (g:=gb374) (o:=.cells #[.int .i64 a1_0,.int .i64 a1_1] 36 (0,0)) Q57 hb);replace BK375:=am (blk_below (g:=gb375) (o:=.cells #[.int .i64 0,.int .i64 0] 36 (0,0)) Q58 hb);replace HB:=am (below_step Q154 hb);(try clear hb);obtain ⟨hcz32_0,hcz32_1,hfz32_0,hfz32_1⟩:=bx2_ BK375))
   refine bodyPost_ret (results_cell_row rfl _ _ gb375 36 #[.int .i64 0,.int .i64 0] (0,0) _ rfl (by (with_reducible repeat (first|refine blk_drewN ?_ _|refine blk_drew ?_|refine blk_alloc ?_ _));refine blk_put (cs:=#[.int .i64 0,.int .i64 0]) ?_ 1 _ rfl;(with_reducible repeat (first|refine blk_drewN ?_ _|refine blk_drew ?_|refine blk_alloc ?_ _));refine blk_put (cs:=#[.int .i64 0,.int .i64 0]) ?_ 0 _ rfl;(with_reducible repeat (first|refine blk_drewN ?_ _|refine blk_drew ?_|refine blk_alloc ?_ _));exact BK375.out) Try.underlying36 rfl Q1) rfl ?_
   exact ⟨Q18,Q154⟩
 ·replace c4:=Bool.eq_false_iff.mpr c4
  subst c4
  have H1 : (some (0,0)) = some (r1,r2):=by rw [if_neg (show ¬ (false = true) by decide)] at H;exact H
  clear H
  have H:=H1
  clear H1
  simp only [Option.some.injEq,Prod.mk.injEq] at H
  obtain ⟨rfl,rfl⟩:=H
  go_enter Try.func99,Try.ntmps99
  go_wp2_with (first|((with_reducible refine gate_dst (N:=2) rfl ?_);refine bE_ 2 #[.int .i64 a0_0,.int .i64 a0_1] 36 ?_;intro gb373 hg w33 hbox hb;have BK373:=am (hbox);have GW373:=am ((Q173 : w.heap.size ≤ gb373));replace HB:=am (below_step Q80 hb);have GE373:=GW373;clear hb hbox hg)|((with_reducible refine gate_dst (N:=3) rfl ?_);refine bE_ 3 #[.int .i64 a1_0,.int .i64 a1_1] 36 ?_;intro gb374 hg w34 hbox hb;have BK374:=am (hbox);have GW374:=am ((by rw [hg];exact (below_size Q100) : w.heap.size ≤ gb374));replace HB:=am (below_step Q100 hb);have NB373_374:=am ((Q189 : gb373 ≠ gb374));have NB374_373:=am ((Q190 : gb374 ≠ gb373));replace BK373:=am (blk_below (g:=gb373) (o:=.cells #[.int .i64 a0_0,.int .i64 a0_1] 36 (0,0)) Q56 hb);have GE374:=GW374;clear hb hbox hg)|((with_reducible refine gate_dst (N:=4) rfl ?_);refine bE_ 4 #[.int .i64 0,.int .i64 0] 36 ?_;intro gb375 hg w35 hbox hb;have BK375:=am (hbox);have GW375:=am ((by rw [hg];exact (below_size Q137) : w.heap.size ≤ gb375));replace HB:=am (below_step Q137 hb);have NB373_375:=am ((Q189 : gb373 ≠ gb375));have NB375_373:=am ((Q190 : gb375 ≠ gb373));replace BK373:=am (blk_below (g:=gb373) (o:=.cells #[.int .i64 a0_0,.int .i64 a0_1] 36 (0,0)) Q56 hb);have NB374_375:=am ((Q191 : gb374 ≠ gb375));have NB375_374:=am ((Q192 : gb375 ≠ gb374));replace BK374:=am (blk_below (g:=gb374) (o:=.cells #[.int .i64 a1_0,.int .i64 a1_1] 36 (0,0)) Q57 hb);have GE375:=GW375;clear hb hbox hg;have hnb36:=NB373_374.out;have hnc36:=NB374_373.out;have hnb37:=NB373_375.out;have hnc37:=NB375_373.out;obtain ⟨hcz38_0,hcz38_1,hfz38_0,hfz38_1⟩:=bx2_ BK373)|((with_reducible refine gate_callee (f:=62) rfl ?_);refine goesL_ (some 6) rfl rfl Try.func62 Q1 rfl #[.agg #[.int .i64 a0_0,.int .i64 a0_1]] rfl Q84 ?_;(with_reducible refine (impl_TimeOk.calls a0_0 a0_1 false _ A3.out).mono ?_);rintro e w39 ⟨rfl,hb⟩;refine ⟨_,rfl,?_⟩;replace BK373:=am (blk_below (g:=gb373) (o:=.cells #[.int .i64 a0_0,.int .i64 a0_1] 36 (0,0)) Q56 hb);replace BK374:=am (blk_below (g:=gb374) (o:=.cells #[.int .i64 a1_0,.int .i64 a1_1] 36 (0,0)) Q57 hb);replace BK375:=am (blk_below (g:=gb375) (o:=.cells #[.int .i64 0,.int .i64 0] 36 (0,0)) Q58 hb);replace HB:=am (below_step Q154 hb);(try clear hb);have hnb40:=NB375_374.out;have hnc40:=NB374_375.out;obtain ⟨hcz41_0,hcz41_1,hfz41_0,hfz41_1⟩:=bx2_ BK375))
  refine bodyPost_ret (results_cell_row rfl _ _ gb375 36 #[.int .i64 0,.int .i64 0] (0,0) _ rfl (by (with_reducible repeat (first|refine blk_drewN ?_ _|refine blk_drew ?_|refine blk_alloc ?_ _));refine blk_put (cs:=#[.int .i64 0,.int .i64 0]) ?_ 1 _ rfl;(with_reducible repeat (first|refine blk_drewN ?_ _|refine blk_drew ?_|refine blk_alloc ?_ _));refine blk_put (cs:=#[.int .i64 0,.int .i64 0]) ?_ 0 _ rfl;(with_reducible repeat (first|refine blk_drewN ?_ _|refine blk_drew ?_|refine blk_alloc ?_ _));exact BK375.out) Try.underlying36 rfl Q1) rfl ?_
  exact ⟨Q18,Q154⟩
def impl_moved.l0 : Nat → List (S36) → Int → Int → Int → Int → Int → Int → Option (Int × Int)
 | 0, _, _, _, _, _, _, _ => none
 | k + 1, x17, x18, x19, x379000, x379001, x384000, x384001 => if x19 < x18 then (if 0 ≤ x19 then (if x19 < (x17.length : Int) then ((impl_TimeJoin.f ((rd_T36 x17 x19).f0) ((rd_T36 x17 x19).f1) x379000 x379001).bind fun bt386 => ((impl_TimeMeet.f x384000 x384001 bt386.1 bt386.2).bind fun bt388 => (impl_moved.l0 k x17 x18 (wrap64 (x19 + 1)) x379000 x379001 bt388.1 bt388.2))) else (none)) else (none)) else (some (x384000, x384001))
def impl_moved.f (k : Nat) (l0 : List (S36)) (a1_0 : Int) (a1_1 : Int) : Option (Int × Int) := if (l0.length : Int) = 0 then (some (a1_0, a1_1)) else (if 0 < (l0.length : Int) then ((impl_TimeJoin.f ((rd_T36 l0 0).f0) ((rd_T36 l0 0).f1) a1_0 a1_1).bind fun bt381 => (impl_moved.l0 k l0 (l0.length : Int) 0 a1_0 a1_1 bt381.1 bt381.2)) else (none))
set_option maxHeartbeats 8000000 in
set_option maxRecDepth 100000 in
theorem impl_moved.calls (k : Nat) (A0 : Option Addr) (c0 : Nat) (l0 : List (S36)) (a1_0 : Int) (a1_1 : Int) (r1 : Int) (r2 : Int) (w : World) (hr0 : Kd.C k36 w A0 l0.length l0) (hc0 : l0.length ≤ c0) (h : impl_moved.f k l0 a1_0 a1_1 = some (r1,r2)) :
  Calls Try.prog 85 #[.slice A0 l0.length c0,.agg #[.int .i64 a1_0,.int .i64 a1_1]] w fun e w'=>e = .returned (.agg #[.int .i64 r1,.int .i64 r2]) ∧ Below w.heap.size w w':=by
 have hu36:=Try.underlying36
 have HR0:=Aside0.mk hr0
 have HC0:=Aside0.mk hc0
 clear hr0 hc0
 have HB:=am (Below.refl w.heap.size w)
 have H : (if (l0.length : Int) = 0 then (some (a1_0,a1_1)) else (if 0 < (l0.length : Int) then ((impl_TimeJoin.f ((rd_T36 l0 0).f0) ((rd_T36 l0 0).f1) a1_0 a1_1).bind fun bt381=>(impl_moved.l0 k l0 (l0.length : Int) 0 a1_0 a1_1 bt381.1 bt381.2)) else (none))) = some (r1,r2):=h
 clear h
 by_cases c3 : (l0.length : Int) = 0
 ·rw [if_pos c3] at H
  have c3b0 : ((l0.length : Int) == 0) = true:=beq_iff_eq.mpr c3
  have c3b1 : ((l0.length : Int) != 0) = false:=bne_eq_false_iff_eq.mpr c3
  clear c3
  simp only [Option.some.injEq,Prod.mk.injEq] at H
  obtain ⟨rfl,rfl⟩:=H
  go_enter Try.func85,Try.ntmps85
  go_wp2_with (first|((with_reducible refine gate_dst (N:=3) rfl ?_);refine bE_ 3 #[.int .i64 a1_0,.int .i64 a1_1] 36 ?_;intro gb378 hg w4 hbox hb;have BK378:=am (hbox);have GW378:=am ((Q173 : w.heap.size ≤ gb378));replace HB:=am (below_step Q80 hb);have GE378:=GW378;clear hb hbox hg)|((with_reducible refine gate_dst (N:=4) rfl ?_);refine bE_ 4 #[.int .i64 0,.int .i64 0] 36 ?_;intro gb379 hg w5 hbox hb;have BK379:=am (hbox);have GW379:=am ((by rw [hg];exact (below_size Q101) : w.heap.size ≤ gb379));replace HB:=am (below_step Q101 hb);have NB378_379:=am ((Q193 : gb378 ≠ gb379));have NB379_378:=am ((Q194 : gb379 ≠ gb378));replace BK378:=am (blk_below (g:=gb378) (o:=.cells #[.int .i64 a1_0,.int .i64 a1_1] 36 (0,0)) Q59 hb);have GE379:=GW379;clear hb hbox hg;have hnb6:=NB378_379.out;have hnc6:=NB379_378.out;obtain ⟨hcz7_0,hcz7_1,hfz7_0,hfz7_1⟩:=bx2_ BK378;obtain ⟨hcz8_0,hcz8_1,hfz8_0,hfz8_1⟩:=bx2_ BK379))
  refine bodyPost_ret (results_cell_row rfl _ _ gb379 36 #[.int .i64 a1_0,.int .i64 a1_1] (0,0) _ rfl (by (with_reducible repeat (first|refine blk_drewN ?_ _|refine blk_drew ?_|refine blk_alloc ?_ _));refine blk_put (cs:=#[.int .i64 a1_0,.int .i64 0]) ?_ 1 _ rfl;(with_reducible repeat (first|refine blk_drewN ?_ _|refine blk_drew ?_|refine blk_alloc ?_ _));refine blk_put (cs:=#[.int .i64 0,.int .i64 0]) ?_ 0 _ rfl;(with_reducible repeat (first|refine blk_drewN ?_ _|refine blk_drew ?_|refine blk_alloc ?_ _));exact BK379.out) Try.underlying36 rfl Q1) rfl ?_
  exact ⟨Q18,Q138⟩
 ·rw [if_neg c3] at H
  have c3b0 : ((l0.length : Int) == 0) = false:=beq_eq_false_iff_ne.mpr c3
  have c3b1 : ((l0.length : Int) != 0) = true:=bne_iff_ne.mpr c3
  have c3b2 : ¬ (l0 = []):=fun h_=>c3 (by rw [h_];rfl)
  have c9 : 0 < (l0.length : Int):=nn_ H
  rw [if_pos c9] at H
  have c9b0 : decide (0 < (l0.length : Int)) = true:=decide_eq_true c9
  have c9b1 : decide (0 < l0.length) = true:=decide_eq_true (by omega)
  clear c9
  replace H:=Option.bind_eq_some_iff.mp H
  obtain ⟨⟨t381,t382⟩,A100,H⟩:=H
  replace H : (impl_moved.l0 k l0 (l0.length : Int) 0 a1_0 a1_1 t381 t382) = some (r1,r2):=H
  have A10:=Aside0.mk A100
  clear A100
  have H':=Aside0.mk H
  clear H
  go_enter Try.func85,Try.ntmps85
  try go_wp2_with (first|((with_reducible refine gate_dst (N:=3) rfl ?_);refine bE_ 3 #[.int .i64 a1_0,.int .i64 a1_1] 36 ?_;intro gb378 hg w11 hbox hb;have BK378:=am (hbox);have GW378:=am ((Q173 : w.heap.size ≤ gb378));replace HB:=am (below_step Q80 hb);have GE378:=GW378;clear hb hbox hg)|((with_reducible refine gate_dst (N:=4) rfl ?_);refine bE_ 4 #[.int .i64 0,.int .i64 0] 36 ?_;intro gb379 hg w12 hbox hb;have BK379:=am (hbox);have GW379:=am ((by rw [hg];exact (below_size Q101) : w.heap.size ≤ gb379));replace HB:=am (below_step Q101 hb);have NB378_379:=am ((Q193 : gb378 ≠ gb379));have NB379_378:=am ((Q194 : gb379 ≠ gb378));replace BK378:=am (blk_below (g:=gb378) (o:=.cells #[.int .i64 a1_0,.int .i64 a1_1] 36 (0,0)) Q59 hb);have GE379:=GW379;clear hb hbox hg))
  replace BK378:=am (blk_drew BK378.out)
  replace BK379:=am (blk_drew BK379.out)
  replace HB:=am (below_drew1 HB.out)
  have p380 : 0 ≤ (0 : Int):=(by omega)
  have q380 : 0 < (l0.length : Int):=of_decide_eq_true Q8
  obtain ⟨ad380,e380,hx380_0,hx380_1⟩:=at_T36 HR0.out 0 p380 q380
  have hw380_1:=hx380_1
  (try rw [show ((0 : Int)).toNat = 0 from rfl] at hw380_1)
  (try rw [show 0 * 2 = 0 from rfl] at hw380_1)
  (try rw [Addr.add_zero'] at hw380_1)
  have hw380_0:=hx380_0
  (try rw [show ((0 : Int)).toNat = 0 from rfl] at hw380_0)
  (try rw [show 0 * 2 = 0 from rfl] at hw380_0)
  (try rw [Addr.add_zero'] at hw380_0)
  cases e380
  have qi380 : (0 < l0.length) = True:=eq_true (by omega)
  (try rw [show ((0 : Int)).toNat = 0 from rfl] at hx380_0)
  (try rw [show 0 * 2 = 0 from rfl] at hx380_0)
  (try rw [Addr.add_zero'] at hx380_0)
  (try rw [show ((0 : Int)).toNat = 0 from rfl] at hx380_1)
  (try rw [show 0 * 2 = 0 from rfl] at hx380_1)
  (try rw [Addr.add_zero'] at hx380_1)
  replace hx380_0:=cb_ HB hx380_0
  replace hx380_1:=cb_ HB hx380_1
  replace p380:=eq_true p380
  replace q380:=eq_true q380
  refine start_ (n:=7) (S:=fun w'=>w'.cell? ⟨gb378,0,none⟩ = some (.int .i64 a1_0) ∧ w'.cell? ⟨gb378,1,none⟩ = some (.int .i64 a1_1) ∧ w'.cell? ad380 = some (.int .i64 ((rd_T36 l0 0).f0)) ∧ w'.cell? ⟨ad380.block,ad380.off + 1,none⟩ = some (.int .i64 ((rd_T36 l0 0).f1))) (ds:=[]) b7_0 Q1 rfl rfl ⟨(blk_cell BK378.out 0).trans rfl,(blk_cell BK378.out 1).trans rfl,(cb_ HB hw380_0:),(cb_ HB hw380_1:)⟩ (fun hHeld=>?_)
  generalize w12.drew = w13 at BK378 BK379 HB hx380_0 hx380_1 hHeld ⊢
  refine pU_ 0 12 b7_1 ?_
  refine pU_ 1 13 b7_2 ?_
  refine tU_ 2 14 b7_3 hHeld ?_
  refine tU_ 3 15 b7_4 hHeld ?_
  refine join_ (σ:=Nat) 1 b7_6 (fun s_=>[(16,.agg #[.int .i64 t381,.int .i64 t382]),(5,.pointer (some ⟨s_,0,none⟩))]) (fun s_ w'=>(w'.cell? ⟨gb378,0,none⟩ = some (.int .i64 a1_0) ∧ w'.cell? ⟨gb378,1,none⟩ = some (.int .i64 a1_1) ∧ w'.cell? ad380 = some (.int .i64 ((rd_T36 l0 0).f0)) ∧ w'.cell? ⟨ad380.block,ad380.off + 1,none⟩ = some (.int .i64 ((rd_T36 l0 0).f1))) ∧ (w'.heap[gb378]? = some (.cells #[.int .i64 a1_0,.int .i64 a1_1] 36 (0,0))) ∧ (w'.heap[gb379]? = some (.cells #[.int .i64 0,.int .i64 0] 36 (0,0))) ∧ (w'.heap[s_]? = some (.cells #[.int .i64 0,.int .i64 0] 36 (0,0))) ∧ (w.heap.size ≤ s_) ∧ (w.heap.size ≤ s_) ∧ (gb378 ≠ s_) ∧ (s_ ≠ gb378) ∧ (gb379 ≠ s_) ∧ (s_ ≠ gb379) ∧ (Below w.heap.size w w')) ?_ ?_
  rotate_left
  ·intro hCont
   refine two_ (i:=4) (j:=5) (Ni:=some 16) (Nj:=some 5) b7_5 c90 rfl rfl rfl rfl Q1 Q0 Q0 (fun K hK=>?_) (fun K hK=>?_)
   ·skip
    refine goes_ Try.func98 Q1 rfl #[.agg #[.int .i64 ((rd_T36 l0 0).f0),.int .i64 ((rd_T36 l0 0).f1)],.agg #[.int .i64 a1_0,.int .i64 a1_1]] (by rfl) rfl rfl Q84 ?_
    with_reducible refine (impl_TimeJoin.calls ((rd_T36 l0 0).f0) ((rd_T36 l0 0).f1) a1_0 a1_1 t381 t382 _ A10.out).mono ?_
    rintro e w14 ⟨rfl,hb⟩
    refine ⟨_,rfl,?_⟩
    replace BK378:=am (blk_below (g:=gb378) (o:=.cells #[.int .i64 a1_0,.int .i64 a1_1] 36 (0,0)) Q59 hb)
    replace BK379:=am (blk_below (g:=gb379) (o:=.cells #[.int .i64 0,.int .i64 0] 36 (0,0)) Q60 hb)
    replace HB:=am (below_step Q138 hb)
    (try clear hb)
    (try clear hb2)
    (try clear hk)
    (try clear hi)
    refine hK.out _ _ ⟨(blk_cell BK378.out 0).trans rfl,(blk_cell BK378.out 1).trans rfl,(cb_ HB hw380_0:),(cb_ HB hw380_1:)⟩ (fun hHeld=>?_)
    clear hK K
    refine norm_ (a':=?_) ?_ ?_
    rotate_left
    ·show Act.put _ (some 16) _ = _
     simp only [Act.put,sA_,sZ_,sS_,i64_w,i32_w]
     rfl
    refine one_ (i:=5) (N:=some 5) b7_6 rfl rfl Q1 Q0 (fun K hK=>?_)
    refine box_step ?hg (N:=5) ?hd (cs:=#[.int .i64 0,.int .i64 0]) (t:=36) ?hr ?_;(case hd=>rfl);(case hg=>rfl);(case hr=>first|(go_simp;done)|(go_simp;rfl))
    intro gb383 hg w15 hbox hb
    have BK383:=am (hbox)
    have GW383:=am ((by rw [hg];exact (below_size Q138) : w.heap.size ≤ gb383))
    have GE383:=am ((by rw [hg];exact (below_size Q138) : w.heap.size ≤ gb383))
    replace HB:=am (below_step Q138 hb)
    have NB378_383:=am ((Q193 : gb378 ≠ gb383))
    have NB383_378:=am ((Q194 : gb383 ≠ gb378))
    replace BK378:=am (blk_below (g:=gb378) (o:=.cells #[.int .i64 a1_0,.int .i64 a1_1] 36 (0,0)) Q59 hb)
    have NB379_383:=am ((Q179 : gb379 ≠ gb383))
    have NB383_379:=am ((Q180 : gb383 ≠ gb379))
    replace BK379:=am (blk_below (g:=gb379) (o:=.cells #[.int .i64 0,.int .i64 0] 36 (0,0)) Q60 hb)
    clear hb hbox hg
    refine hK.out _ _ ⟨(blk_cell BK378.out 0).trans rfl,(blk_cell BK378.out 1).trans rfl,(cb_ HB hw380_0:),(cb_ HB hw380_1:)⟩ (fun hHeld=>?_)
    clear hK K
    refine norm_ (a':=?_) ?_ ?_
    rotate_left
    ·show Act.put _ (some 5) _ = _
     simp only [Act.put,sA_,sZ_,sS_,i64_w,i32_w]
     rfl
    exact norm_ Q19 (hCont (gb383) _ ⟨hHeld,Q59,Q60,Q61,GW383.out,GE383.out,NB378_383.out,NB383_378.out,NB379_383.out,NB383_379.out,Q155⟩)
   ·skip
    refine box_step ?hg (N:=5) ?hd (cs:=#[.int .i64 0,.int .i64 0]) (t:=36) ?hr ?_;(case hd=>rfl);(case hg=>rfl);(case hr=>first|(go_simp;done)|(go_simp;rfl))
    intro gb383 hg w14 hbox hb
    have BK383:=am (hbox)
    have GW383:=am ((by rw [hg];exact (below_size Q138) : w.heap.size ≤ gb383))
    have GE383:=am ((by rw [hg];exact (below_size Q138) : w.heap.size ≤ gb383))
    replace HB:=am (below_step Q138 hb)
    have NB378_383:=am ((Q193 : gb378 ≠ gb383))
    have NB383_378:=am ((Q194 : gb383 ≠ gb378))
    replace BK378:=am (blk_below (g:=gb378) (o:=.cells #[.int .i64 a1_0,.int .i64 a1_1] 36 (0,0)) Q59 hb)
    have NB379_383:=am ((Q179 : gb379 ≠ gb383))
    have NB383_379:=am ((Q180 : gb383 ≠ gb379))
    replace BK379:=am (blk_below (g:=gb379) (o:=.cells #[.int .i64 0,.int .i64 0] 36 (0,0)) Q60 hb)
    clear hb hbox hg
    refine hK.out _ _ ⟨(blk_cell BK378.out 0).trans rfl,(blk_cell BK378.out 1).trans rfl,(cb_ HB hw380_0:),(cb_ HB hw380_1:)⟩ (fun hHeld=>?_)
    clear hK K
    refine norm_ (a':=?_) ?_ ?_
    rotate_left
    ·show Act.put _ (some 5) _ = _
     simp only [Act.put,sA_,sZ_,sS_,i64_w,i32_w]
     rfl
    refine one_ (i:=4) (N:=some 16) b7_6 rfl rfl Q1 Q0 (fun K hK=>?_)
    refine goes_ Try.func98 Q1 rfl #[.agg #[.int .i64 ((rd_T36 l0 0).f0),.int .i64 ((rd_T36 l0 0).f1)],.agg #[.int .i64 a1_0,.int .i64 a1_1]] (by rfl) rfl rfl Q84 ?_
    with_reducible refine (impl_TimeJoin.calls ((rd_T36 l0 0).f0) ((rd_T36 l0 0).f1) a1_0 a1_1 t381 t382 _ A10.out).mono ?_
    rintro e w15 ⟨rfl,hb⟩
    refine ⟨_,rfl,?_⟩
    replace BK378:=am (blk_below (g:=gb378) (o:=.cells #[.int .i64 a1_0,.int .i64 a1_1] 36 (0,0)) Q59 hb)
    replace BK379:=am (blk_below (g:=gb379) (o:=.cells #[.int .i64 0,.int .i64 0] 36 (0,0)) Q60 hb)
    replace BK383:=am (blk_below (g:=gb383) (o:=.cells #[.int .i64 0,.int .i64 0] 36 (0,0)) Q61 hb)
    replace HB:=am (below_step Q155 hb)
    (try clear hb)
    (try clear hb2)
    (try clear hk)
    (try clear hi)
    refine hK.out _ _ ⟨(blk_cell BK378.out 0).trans rfl,(blk_cell BK378.out 1).trans rfl,(cb_ HB hw380_0:),(cb_ HB hw380_1:)⟩ (fun hHeld=>?_)
    clear hK K
    refine norm_ (a':=?_) ?_ ?_
    rotate_left
    ·show Act.put _ (some 16) _ = _
     simp only [Act.put,sA_,sZ_,sS_,i64_w,i32_w]
     rfl
    exact norm_ Q19 (hCont (gb383) _ ⟨hHeld,Q59,Q60,Q61,GW383.out,GE383.out,NB378_383.out,NB383_378.out,NB379_383.out,NB383_379.out,Q155⟩)
  rintro gb383 w16 ⟨hS_,h0_,h1_,h2_,h3_,h4_,h5_,h6_,h7_,h8_,h9_⟩
  have n0_ : Aside0 (w16.heap[gb378]? = some (.cells #[.int .i64 a1_0,.int .i64 a1_1] 36 (0,0))):=⟨h0_⟩
  have n1_ : Aside0 (w16.heap[gb379]? = some (.cells #[.int .i64 0,.int .i64 0] 36 (0,0))):=⟨h1_⟩
  have n2_ : Aside0 (w16.heap[gb383]? = some (.cells #[.int .i64 0,.int .i64 0] 36 (0,0))):=⟨h2_⟩
  have n3_ : Aside0 (w.heap.size ≤ gb383):=⟨h3_⟩
  have n4_ : Aside0 (w.heap.size ≤ gb383):=⟨h4_⟩
  have n5_ : Aside0 (gb378 ≠ gb383):=⟨h5_⟩
  have n6_ : Aside0 (gb383 ≠ gb378):=⟨h6_⟩
  have n7_ : Aside0 (gb379 ≠ gb383):=⟨h7_⟩
  have n8_ : Aside0 (gb383 ≠ gb379):=⟨h8_⟩
  have n9_ : Aside0 (Below w.heap.size w w16):=⟨h9_⟩
  clear BK378
  clear BK379
  clear HB
  clear h0_ h1_ h2_ h3_ h4_ h5_ h6_ h7_ h8_ h9_
  have BK378:=n0_
  have BK379:=n1_
  have BK383:=n2_
  have GW383:=n3_
  have GE383:=n4_
  have NB378_383:=n5_
  have NB383_378:=n6_
  have NB379_383:=n7_
  have NB383_379:=n8_
  have HB:=n9_
  clear n0_ n1_ n2_ n3_ n4_ n5_ n6_ n7_ n8_ n9_
  have hHeld : w16.cell? ⟨gb378,0,none⟩ = some (.int .i64 a1_0) ∧ w16.cell? ⟨gb378,1,none⟩ = some (.int .i64 a1_1) ∧ w16.cell? ad380 = some (.int .i64 ((rd_T36 l0 0).f0)) ∧ w16.cell? ⟨ad380.block,ad380.off + 1,none⟩ = some (.int .i64 ((rd_T36 l0 0).f1)):=hS_
  refine norm_ (a':=?_) ?_ ?_
  rotate_left
  ·simp only [putAll,Act.put,sA_,sZ_,sS_]
   rfl
  refine one_ (i:=6) (N:=none) b7_7 rfl rfl Q1 Q0 (fun K hK=>?_)
  have hs17 : w16.cell? ⟨gb383,0,none⟩ = some (.int .i64 0):=(blk_cell BK383.out 0).trans rfl
  have hfs17:=blk_frozen BK383.out 0
  have hns17_0:=NB378_383.out
  have hns17_1:=NB379_383.out
  have hms17_0:=NB383_378.out
  have hms17_1:=NB383_379.out
  have hs18 : w16.cell? ⟨gb383,1,none⟩ = some (.int .i64 0):=(blk_cell BK383.out 1).trans rfl
  have hfs18:=blk_frozen BK383.out 1
  have hns18_0:=NB378_383.out
  have hns18_1:=NB379_383.out
  have hms18_0:=NB383_378.out
  have hms18_1:=NB383_379.out
  refine skip_ (w1:=?_) (by rfl) rfl ?_ ?_
  rotate_left
  ·go_simp
   rfl
  refine hK.out _ _ ⟨((cell_far (p:=⟨gb383,_,none⟩) NB378_383.out _).trans (((cell_far (p:=⟨gb383,_,none⟩) NB378_383.out _).trans (hHeld.1)))),((cell_far (p:=⟨gb383,_,none⟩) NB378_383.out _).trans (((cell_far (p:=⟨gb383,_,none⟩) NB378_383.out _).trans (hHeld.2.1)))),((cell_far (p:=⟨gb383,_,none⟩) (by first|exact Nat.ne_of_lt (Nat.lt_of_lt_of_le Q14 GW383.out)|(rw [add_block];exact Nat.ne_of_lt (Nat.lt_of_lt_of_le Q14 GW383.out))|(show (Addr.add _ _).block ≠ _;rw [add_block];exact Nat.ne_of_lt (Nat.lt_of_lt_of_le Q14 GW383.out))|(dsimp only;exact Nat.ne_of_lt (Nat.lt_of_lt_of_le Q14 GW383.out))) _).trans (((cell_far (p:=⟨gb383,_,none⟩) (by first|exact Nat.ne_of_lt (Nat.lt_of_lt_of_le Q14 GW383.out)|(rw [add_block];exact Nat.ne_of_lt (Nat.lt_of_lt_of_le Q14 GW383.out))|(show (Addr.add _ _).block ≠ _;rw [add_block];exact Nat.ne_of_lt (Nat.lt_of_lt_of_le Q14 GW383.out))|(dsimp only;exact Nat.ne_of_lt (Nat.lt_of_lt_of_le Q14 GW383.out))) _).trans (hHeld.2.2.1)))),((cell_far (p:=⟨gb383,_,none⟩) (by first|exact Nat.ne_of_lt (Nat.lt_of_lt_of_le Q15 GW383.out)|(rw [add_block];exact Nat.ne_of_lt (Nat.lt_of_lt_of_le Q15 GW383.out))|(show (Addr.add _ _).block ≠ _;rw [add_block];exact Nat.ne_of_lt (Nat.lt_of_lt_of_le Q15 GW383.out))|(dsimp only;exact Nat.ne_of_lt (Nat.lt_of_lt_of_le Q15 GW383.out))) _).trans (((cell_far (p:=⟨gb383,_,none⟩) (by first|exact Nat.ne_of_lt (Nat.lt_of_lt_of_le Q15 GW383.out)|(rw [add_block];exact Nat.ne_of_lt (Nat.lt_of_lt_of_le Q15 GW383.out))|(show (Addr.add _ _).block ≠ _;rw [add_block];exact Nat.ne_of_lt (Nat.lt_of_lt_of_le Q15 GW383.out))|(dsimp only;exact Nat.ne_of_lt (Nat.lt_of_lt_of_le Q15 GW383.out))) _).trans (hHeld.2.2.2))))⟩ (fun hHeld=>?_)
  clear hK K
  refine done_ Q1 ?_
  try go_wp2
  go_loopg [19] k (fun kq v19 w'=>∃ (x19_1 : Int) (x384000_1 : Int) (x384001_1 : Int),v19 = .int .i64 x19_1 ∧ Aside0 (impl_moved.l0 kq l0 (l0.length : Int) x19_1 a1_0 a1_1 x384000_1 x384001_1 = some (r1,r2)) ∧ Aside0 (kq ≤ k) ∧ Aside0 (w'.heap[gb378]? = some (.cells #[.int .i64 a1_0,.int .i64 a1_1] 36 (0,0))) ∧ Aside0 (w'.heap[gb379]? = some (.cells #[.int .i64 0,.int .i64 0] 36 (0,0))) ∧ Aside0 (w'.heap[gb383]? = some (.cells #[.int .i64 x384000_1,.int .i64 x384001_1] 36 (0,0))) ∧ Aside0 (Below w.heap.size w w'))
  case atStart=>exact ⟨(0),(t381),(t382),Q7,H',⟨Nat.le_refl _⟩,⟨by (with_reducible repeat (first|refine blk_drewN ?_ _|refine blk_drew ?_|refine blk_alloc ?_ _));refine blk_far ?_ NB378_383.out _;(with_reducible repeat (first|refine blk_drewN ?_ _|refine blk_drew ?_|refine blk_alloc ?_ _));refine blk_far ?_ NB378_383.out _;(with_reducible repeat (first|refine blk_drewN ?_ _|refine blk_drew ?_|refine blk_alloc ?_ _));exact BK378.out⟩,⟨by (with_reducible repeat (first|refine blk_drewN ?_ _|refine blk_drew ?_|refine blk_alloc ?_ _));refine blk_far ?_ NB379_383.out _;(with_reducible repeat (first|refine blk_drewN ?_ _|refine blk_drew ?_|refine blk_alloc ?_ _));refine blk_far ?_ NB379_383.out _;(with_reducible repeat (first|refine blk_drewN ?_ _|refine blk_drew ?_|refine blk_alloc ?_ _));exact BK379.out⟩,⟨by (with_reducible repeat (first|refine blk_drewN ?_ _|refine blk_drew ?_|refine blk_alloc ?_ _));refine blk_put (cs:=#[.int .i64 t381,.int .i64 0]) ?_ 1 _ rfl;(with_reducible repeat (first|refine blk_drewN ?_ _|refine blk_drew ?_|refine blk_alloc ?_ _));refine blk_put (cs:=#[.int .i64 0,.int .i64 0]) ?_ 0 _ rfl;(with_reducible repeat (first|refine blk_drewN ?_ _|refine blk_drew ?_|refine blk_alloc ?_ _));exact BK383.out⟩,⟨Q155⟩⟩
  case round =>
   clear H'
   try clear p2
   try clear c3
   try clear c3b0
   try clear c3b1
   try clear c3b2
   try clear p3
   try clear q3
   try clear hx3
   try clear qi3
   try clear c6
   try clear c8
   try clear c9
   try clear c9b0
   try clear c9b1
   try clear hcz7_0
   try clear hcz7_1
   try clear hcz8_0
   try clear hcz8_1
   try clear hfz7_0
   try clear hfz7_1
   try clear hfz8_0
   try clear hfz8_1
   try clear hx380_0
   try clear hx380_1
   try clear p380
   try clear q380
   obtain ⟨x19_1,x384000_1,x384001_1,rfl,HA,HK1,BK378,BK379,BK383,HB⟩:=hrel
   cases gk with
   | zero=>exact absurd HA.out (by simp [impl_moved.l0])
   | succ k1 =>
    have H:=HA.out
    clear HA
    simp only [impl_moved.l0] at H
    by_cases c19 : x19_1 < (l0.length : Int)
    ·rw [if_pos c19] at H
     have c19b0 : decide (x19_1 < (l0.length : Int)) = true:=decide_eq_true c19
     clear c19
     have c20 : 0 ≤ x19_1:=nn_ H
     rw [if_pos c20] at H
     have c20b0 : decide (0 ≤ x19_1) = true:=decide_eq_true c20
     clear c20
     have c21 : x19_1 < (l0.length : Int):=nn_ H
     rw [if_pos c21] at H
     have c21b0 : decide (x19_1 < (l0.length : Int)) = true:=decide_eq_true c21
     clear c21
     replace H:=Option.bind_eq_some_iff.mp H
     obtain ⟨⟨t386,t387⟩,A220,H⟩:=H
     replace H : ((impl_TimeMeet.f x384000_1 x384001_1 t386 t387).bind fun bt388=>(impl_moved.l0 k1 l0 (l0.length : Int) (wrap64 (x19_1 + 1)) a1_0 a1_1 bt388.1 bt388.2)) = some (r1,r2):=H
     have A22:=Aside0.mk A220
     clear A220
     replace H:=Option.bind_eq_some_iff.mp H
     obtain ⟨⟨t388,t389⟩,A230,H⟩:=H
     replace H : (impl_moved.l0 k1 l0 (l0.length : Int) (wrap64 (x19_1 + 1)) a1_0 a1_1 t388 t389) = some (r1,r2):=H
     have A23:=Aside0.mk A230
     clear A230
     have H':=Aside0.mk H
     clear H
     have p384 : 0 ≤ (x19_1 : Int):=of_decide_eq_true Q8
     have q384 : x19_1 < (l0.length : Int):=of_decide_eq_true Q8
     obtain ⟨ad384,e384,hx384_0,hx384_1⟩:=at_T36 HR0.out x19_1 p384 q384
     obtain rfl : ad380 = ad384:=(by injection e384)
     replace hx384_0:=cb_ HB hx384_0
     replace hx384_1:=cb_ HB hx384_1
     replace p384:=eq_true p384
     replace q384:=eq_true q384
     try go_wp2_with (first|((with_reducible refine gate_dst (N:=7) rfl ?_);refine bE_ 7 #[.int .i64 0,.int .i64 0] 36 ?_;intro gb385 hg w24 hbox hb;have BK385:=am (hbox);have GW385:=am ((by rw [hg];exact (below_size Q155) : w.heap.size ≤ gb385));replace HB:=am (below_step Q155 hb);have NB378_385:=am ((Q193 : gb378 ≠ gb385));have NB385_378:=am ((Q194 : gb385 ≠ gb378));replace BK378:=am (blk_below (g:=gb378) (o:=.cells #[.int .i64 a1_0,.int .i64 a1_1] 36 (0,0)) Q59 hb);have NB379_385:=am ((Q179 : gb379 ≠ gb385));have NB385_379:=am ((Q180 : gb385 ≠ gb379));replace BK379:=am (blk_below (g:=gb379) (o:=.cells #[.int .i64 0,.int .i64 0] 36 (0,0)) Q60 hb);have NB383_385:=am ((by rw [hg];exact Nat.ne_of_lt (blk_lt (g:=gb383) (o:=.cells #[.int .i64 x384000_1,.int .i64 x384001_1] 36 (0,0)) Q61) : gb383 ≠ gb385));have NB385_383:=am ((by rw [hg];exact Nat.ne_of_gt (blk_lt (g:=gb383) (o:=.cells #[.int .i64 x384000_1,.int .i64 x384001_1] 36 (0,0)) Q61) : gb385 ≠ gb383));replace BK383:=am (blk_below (g:=gb383) (o:=.cells #[.int .i64 x384000_1,.int .i64 x384001_1] 36 (0,0)) Q61 hb);have GE385:=GW385;clear hb hbox hg;have hnb25:=NB385_378.out;have hnc25:=NB378_385.out;have hnb26:=NB385_379.out;have hnc26:=NB379_385.out;have hnb27:=NB385_383.out;have hnc27:=NB383_385.out;obtain ⟨hcz28_0,hcz28_1,hfz28_0,hfz28_1⟩:=bx2_ BK385))
     have n0_ : Aside0 (((w24.setCell ⟨gb385,0,none⟩ (.int .i64 ((rd_T36 l0 x19_1).f0))).setCell ⟨gb385,1,none⟩ (.int .i64 ((rd_T36 l0 x19_1).f1))).heap[gb378]? = some (.cells #[.int .i64 a1_0,.int .i64 a1_1] 36 (0,0))):=⟨by (with_reducible repeat (first|refine blk_drewN ?_ _|refine blk_drew ?_|refine blk_alloc ?_ _));refine blk_far ?_ NB378_385.out _;(with_reducible repeat (first|refine blk_drewN ?_ _|refine blk_drew ?_|refine blk_alloc ?_ _));refine blk_far ?_ NB378_385.out _;(with_reducible repeat (first|refine blk_drewN ?_ _|refine blk_drew ?_|refine blk_alloc ?_ _));exact BK378.out⟩
     have n1_ : Aside0 (((w24.setCell ⟨gb385,0,none⟩ (.int .i64 ((rd_T36 l0 x19_1).f0))).setCell ⟨gb385,1,none⟩ (.int .i64 ((rd_T36 l0 x19_1).f1))).heap[gb379]? = some (.cells #[.int .i64 0,.int .i64 0] 36 (0,0))):=⟨by (with_reducible repeat (first|refine blk_drewN ?_ _|refine blk_drew ?_|refine blk_alloc ?_ _));refine blk_far ?_ NB379_385.out _;(with_reducible repeat (first|refine blk_drewN ?_ _|refine blk_drew ?_|refine blk_alloc ?_ _));refine blk_far ?_ NB379_385.out _;(with_reducible repeat (first|refine blk_drewN ?_ _|refine blk_drew ?_|refine blk_alloc ?_ _));exact BK379.out⟩
     have n2_ : Aside0 (((w24.setCell ⟨gb385,0,none⟩ (.int .i64 ((rd_T36 l0 x19_1).f0))).setCell ⟨gb385,1,none⟩ (.int .i64 ((rd_T36 l0 x19_1).f1))).heap[gb383]? = some (.cells #[.int .i64 x384000_1,.int .i64 x384001_1] 36 (0,0))):=⟨by (with_reducible repeat (first|refine blk_drewN ?_ _|refine blk_drew ?_|refine blk_alloc ?_ _));refine blk_far ?_ NB383_385.out _;(with_reducible repeat (first|refine blk_drewN ?_ _|refine blk_drew ?_|refine blk_alloc ?_ _));refine blk_far ?_ NB383_385.out _;(with_reducible repeat (first|refine blk_drewN ?_ _|refine blk_drew ?_|refine blk_alloc ?_ _));exact BK383.out⟩
     have n3_ : Aside0 (((w24.setCell ⟨gb385,0,none⟩ (.int .i64 ((rd_T36 l0 x19_1).f0))).setCell ⟨gb385,1,none⟩ (.int .i64 ((rd_T36 l0 x19_1).f1))).heap[gb385]? = some (.cells #[.int .i64 ((rd_T36 l0 x19_1).f0),.int .i64 ((rd_T36 l0 x19_1).f1)] 36 (0,0))):=⟨by (with_reducible repeat (first|refine blk_drewN ?_ _|refine blk_drew ?_|refine blk_alloc ?_ _));refine blk_put (cs:=#[.int .i64 ((rd_T36 l0 x19_1).f0),.int .i64 0]) ?_ 1 _ rfl;(with_reducible repeat (first|refine blk_drewN ?_ _|refine blk_drew ?_|refine blk_alloc ?_ _));refine blk_put (cs:=#[.int .i64 0,.int .i64 0]) ?_ 0 _ rfl;(with_reducible repeat (first|refine blk_drewN ?_ _|refine blk_drew ?_|refine blk_alloc ?_ _));exact BK385.out⟩
     have n4_ : Aside0 (Below w.heap.size w ((w24.setCell ⟨gb385,0,none⟩ (.int .i64 ((rd_T36 l0 x19_1).f0))).setCell ⟨gb385,1,none⟩ (.int .i64 ((rd_T36 l0 x19_1).f1)))):=⟨Q161⟩
     (try clear BK378)
     (try clear BK379)
     (try clear BK383)
     (try clear BK385)
     (try clear HB)
     generalize ((w24.setCell ⟨gb385,0,none⟩ (.int .i64 ((rd_T36 l0 x19_1).f0))).setCell ⟨gb385,1,none⟩ (.int .i64 ((rd_T36 l0 x19_1).f1))) = w29 at n0_ n1_ n2_ n3_ n4_ ⊢
     have BK378:=n0_
     have BK379:=n1_
     have BK383:=n2_
     have BK385:=n3_
     have HB:=n4_
     clear n0_ n1_ n2_ n3_ n4_
     replace BK378:=am (blk_drew BK378.out)
     replace BK379:=am (blk_drew BK379.out)
     replace BK383:=am (blk_drew BK383.out)
     replace BK385:=am (blk_drew BK385.out)
     replace HB:=am (below_drew1 HB.out)
     refine start_ (n:=6) (S:=fun w'=>w'.cell? ⟨gb383,0,none⟩ = some (.int .i64 x384000_1) ∧ w'.cell? ⟨gb383,1,none⟩ = some (.int .i64 x384001_1) ∧ w'.cell? ⟨gb385,0,none⟩ = some (.int .i64 ((rd_T36 l0 x19_1).f0)) ∧ w'.cell? ⟨gb385,1,none⟩ = some (.int .i64 ((rd_T36 l0 x19_1).f1)) ∧ w'.cell? ⟨gb378,0,none⟩ = some (.int .i64 a1_0) ∧ w'.cell? ⟨gb378,1,none⟩ = some (.int .i64 a1_1)) (ds:=[5]) b6_0 Q1 rfl rfl ⟨(blk_cell BK383.out 0).trans rfl,(blk_cell BK383.out 1).trans rfl,(blk_cell BK385.out 0).trans rfl,(blk_cell BK385.out 1).trans rfl,(blk_cell BK378.out 0).trans rfl,(blk_cell BK378.out 1).trans rfl⟩ (fun hHeld=>?_)
     generalize w29.drew = w30 at BK378 BK379 BK383 BK385 HB hHeld ⊢
     refine tU_ 0 23 b6_1 hHeld ?_
     refine tU_ 1 24 b6_2 hHeld ?_
     refine tU_ 2 25 b6_3 hHeld ?_
     refine one_ (i:=3) (N:=some 26) b6_4 rfl rfl Q1 Q0 (fun K hK=>?_)
     refine goes_ Try.func98 Q1 rfl #[.agg #[.int .i64 ((rd_T36 l0 x19_1).f0),.int .i64 ((rd_T36 l0 x19_1).f1)],.agg #[.int .i64 a1_0,.int .i64 a1_1]] (by rfl) rfl rfl Q84 ?_
     with_reducible refine (impl_TimeJoin.calls ((rd_T36 l0 x19_1).f0) ((rd_T36 l0 x19_1).f1) a1_0 a1_1 t386 t387 _ A22.out).mono ?_
     rintro e w31 ⟨rfl,hb⟩
     refine ⟨_,rfl,?_⟩
     replace BK378:=am (blk_below (g:=gb378) (o:=.cells #[.int .i64 a1_0,.int .i64 a1_1] 36 (0,0)) Q59 hb)
     replace BK379:=am (blk_below (g:=gb379) (o:=.cells #[.int .i64 0,.int .i64 0] 36 (0,0)) Q60 hb)
     replace BK383:=am (blk_below (g:=gb383) (o:=.cells #[.int .i64 x384000_1,.int .i64 x384001_1] 36 (0,0)) Q61 hb)
     replace BK385:=am (blk_below (g:=gb385) (o:=.cells #[.int .i64 ((rd_T36 l0 x19_1).f0),.int .i64 ((rd_T36 l0 x19_1).f1)] 36 (0,0)) (by (with_reducible repeat (first|refine blk_drewN ?_ _|refine blk_drew ?_|refine blk_alloc ?_ _));exact BK385.out) hb)
     replace HB:=am (below_step Q161 hb)
     (try clear hb)
     (try clear hb2)
     (try clear hk)
     (try clear hi)
     refine hK.out _ _ ⟨(blk_cell BK383.out 0).trans rfl,(blk_cell BK383.out 1).trans rfl,(blk_cell BK385.out 0).trans rfl,(blk_cell BK385.out 1).trans rfl,(blk_cell BK378.out 0).trans rfl,(blk_cell BK378.out 1).trans rfl⟩ (fun hHeld=>?_)
     clear hK K
     refine norm_ (a':=?_) ?_ ?_
     rotate_left
     ·show Act.put _ (some 26) _ = _
      simp only [Act.put,sA_,sZ_,sS_,i64_w,i32_w]
      rfl
     refine one_ (i:=4) (N:=some 27) b6_5 rfl rfl Q1 Q0 (fun K hK=>?_)
     refine goes_ Try.func99 Q1 rfl #[.agg #[.int .i64 x384000_1,.int .i64 x384001_1],.agg #[.int .i64 t386,.int .i64 t387]] (by rfl) rfl rfl Q84 ?_
     with_reducible refine (impl_TimeMeet.calls x384000_1 x384001_1 t386 t387 t388 t389 _ A23.out).mono ?_
     rintro e w32 ⟨rfl,hb⟩
     refine ⟨_,rfl,?_⟩
     replace BK378:=am (blk_below (g:=gb378) (o:=.cells #[.int .i64 a1_0,.int .i64 a1_1] 36 (0,0)) Q59 hb)
     replace BK379:=am (blk_below (g:=gb379) (o:=.cells #[.int .i64 0,.int .i64 0] 36 (0,0)) Q60 hb)
     replace BK383:=am (blk_below (g:=gb383) (o:=.cells #[.int .i64 x384000_1,.int .i64 x384001_1] 36 (0,0)) Q61 hb)
     replace BK385:=am (blk_below (g:=gb385) (o:=.cells #[.int .i64 ((rd_T36 l0 x19_1).f0),.int .i64 ((rd_T36 l0 x19_1).f1)] 36 (0,0)) (by (with_reducible repeat (first|refine blk_drewN ?_ _|refine blk_drew ?_|refine blk_alloc ?_ _));exact BK385.out) hb)
     replace HB:=am (below_step Q161 hb)
     (try clear hb)
     (try clear hb2)
     (try clear hk)
     (try clear hi)
     refine hK.out _ _ ⟨(blk_cell BK383.out 0).trans rfl,(blk_cell BK383.out 1).trans rfl,(blk_cell BK385.out 0).trans rfl,(blk_cell BK385.out 1).trans rfl,(blk_cell BK378.out 0).trans rfl,(blk_cell BK378.out 1).trans rfl⟩ (fun hHeld=>?_)
     clear hK K
     refine norm_ (a':=?_) ?_ ?_
     rotate_left
     ·show Act.put _ (some 27) _ = _
      simp only [Act.put,sA_,sZ_,sS_,i64_w,i32_w]
      rfl
     refine last_ (i:=5) (N:=none) b6_6 rfl rfl Q1 Q0 (fun K hK=>?_)
     have hs33 : w32.cell? ⟨gb383,0,none⟩ = some (.int .i64 x384000_1):=(blk_cell BK383.out 0).trans rfl
     have hfs33:=blk_frozen BK383.out 0
     have hns33_0:=NB378_383.out
     have hns33_1:=NB379_383.out
     have hns33_3:=NB385_383.out
     have hms33_0:=NB383_378.out
     have hms33_1:=NB383_379.out
     have hms33_3:=NB383_385.out
     have hs34 : w32.cell? ⟨gb383,1,none⟩ = some (.int .i64 x384001_1):=(blk_cell BK383.out 1).trans rfl
     have hfs34:=blk_frozen BK383.out 1
     have hns34_0:=NB378_383.out
     have hns34_1:=NB379_383.out
     have hns34_3:=NB385_383.out
     have hms34_0:=NB383_378.out
     have hms34_1:=NB383_379.out
     have hms34_3:=NB383_385.out
     refine skip_ (w1:=?_) (by rfl) rfl ?_ ?_
     rotate_left
     ·go_simp
      rfl
     refine hK.out _ _ ?_
     clear hK K
     refine done_ Q1 ?_
     try go_wp2
     go_roundg k1
     case measure=>have:=HK1.out;omega
     case rel=>exact ⟨(wrap64 (x19_1 + 1)),(t388),(t389),Q7,H',⟨Q3⟩,⟨by (with_reducible repeat (first|refine blk_drewN ?_ _|refine blk_drew ?_|refine blk_alloc ?_ _));refine blk_far ?_ NB378_383.out _;(with_reducible repeat (first|refine blk_drewN ?_ _|refine blk_drew ?_|refine blk_alloc ?_ _));refine blk_far ?_ NB378_383.out _;(with_reducible repeat (first|refine blk_drewN ?_ _|refine blk_drew ?_|refine blk_alloc ?_ _));exact BK378.out⟩,⟨by (with_reducible repeat (first|refine blk_drewN ?_ _|refine blk_drew ?_|refine blk_alloc ?_ _));refine blk_far ?_ NB379_383.out _;(with_reducible repeat (first|refine blk_drewN ?_ _|refine blk_drew ?_|refine blk_alloc ?_ _));refine blk_far ?_ NB379_383.out _;(with_reducible repeat (first|refine blk_drewN ?_ _|refine blk_drew ?_|refine blk_alloc ?_ _));exact BK379.out⟩,⟨by (with_reducible repeat (first|refine blk_drewN ?_ _|refine blk_drew ?_|refine blk_alloc ?_ _));refine blk_put (cs:=#[.int .i64 t388,.int .i64 x384001_1]) ?_ 1 _ rfl;(with_reducible repeat (first|refine blk_drewN ?_ _|refine blk_drew ?_|refine blk_alloc ?_ _));refine blk_put (cs:=#[.int .i64 x384000_1,.int .i64 x384001_1]) ?_ 0 _ rfl;(with_reducible repeat (first|refine blk_drewN ?_ _|refine blk_drew ?_|refine blk_alloc ?_ _));exact BK383.out⟩,⟨Q161⟩⟩
    ·rw [if_neg c19] at H
     have c19b0 : decide (x19_1 < (l0.length : Int)) = false:=decide_eq_false c19
     clear c19
     simp only [Option.some.injEq,Prod.mk.injEq] at H
     obtain ⟨rfl,rfl⟩:=H
     have hnb35:=NB383_378.out
     have hnc35:=NB378_383.out
     have hnb36:=NB383_379.out
     have hnc36:=NB379_383.out
     have hcz37_0 : wr.cell? ⟨gb383,0,none⟩ = some (.int .i64 x384000_1):=(blk_cell BK383.out 0).trans rfl
     have hcz37_1 : wr.cell? ⟨gb383,1,none⟩ = some (.int .i64 x384001_1):=(blk_cell BK383.out 1).trans rfl
     have hfz37_0:=blk_frozen BK383.out 0
     have hfz37_1:=blk_frozen BK383.out 1
     have hnb38:=NB379_378.out
     have hnc38:=NB378_379.out
     have hcz39_0 : wr.cell? ⟨gb379,0,none⟩ = some (.int .i64 0):=(blk_cell BK379.out 0).trans rfl
     have hcz39_1 : wr.cell? ⟨gb379,1,none⟩ = some (.int .i64 0):=(blk_cell BK379.out 1).trans rfl
     have hfz39_0:=blk_frozen BK379.out 0
     have hfz39_1:=blk_frozen BK379.out 1
     go_wp2
     refine bodyPost_ret (results_cell_row rfl _ _ gb379 36 #[.int .i64 x384000_1,.int .i64 x384001_1] (0,0) _ rfl (by (with_reducible repeat (first|refine blk_drewN ?_ _|refine blk_drew ?_|refine blk_alloc ?_ _));refine blk_put (cs:=#[.int .i64 x384000_1,.int .i64 0]) ?_ 1 _ rfl;(with_reducible repeat (first|refine blk_drewN ?_ _|refine blk_drew ?_|refine blk_alloc ?_ _));refine blk_put (cs:=#[.int .i64 0,.int .i64 0]) ?_ 0 _ rfl;(with_reducible repeat (first|refine blk_drewN ?_ _|refine blk_drew ?_|refine blk_alloc ?_ _));exact BK379.out) Try.underlying36 rfl Q1) rfl ?_
     exact ⟨Q18,Q155⟩
def impl_advanced.l0 : Nat → List (S36) → List (S38) → Int → Int → Option ((List (S38)))
 | 0, _, _, _, _ => none
 | k + 1, x1, x5, x11, x12 => if x12 < x11 then (if 0 ≤ x12 then (if x12 < (x5.length : Int) then ((impl_moved.f k x1 ((rd_T38 x5 x12).f2.f0) ((rd_T38 x5 x12).f2.f1)).bind fun bt397 => (impl_advanced.l0 k x1 (x5.set (x12 : Int).toNat (⟨(rd_T38 x5 x12).f0, (rd_T38 x5 x12).f1, (⟨bt397.1, bt397.2⟩ : S36), (rd_T38 x5 x12).f3⟩ : S38)) x11 (wrap64 (x12 + 1)))) else (none)) else (none)) else (some x5)
def impl_advanced.f (k : Nat) (l0 : List (S38)) (l1 : List (S36)) : Option ((List (S38))) := (some (([] : List (S38)) : List (S38))).bind fun y390 => (if y390.length + l0.length < 3518437208883 then ((some (y390 ++ l0 : List (S38))).bind fun y393 => (impl_advanced.l0 k l1 y393 (y393.length : Int) 0)) else (none))
set_option maxHeartbeats 8000000 in
set_option maxRecDepth 100000 in
theorem impl_advanced.calls (k : Nat) (A0 : Option Addr) (c0 : Nat) (l0 : List (S38)) (A1 : Option Addr) (c1 : Nat) (l1 : List (S36)) (r : List (S38)) (w : World) (hr0 : Kd.C k38 w A0 l0.length l0) (hc0 : l0.length ≤ c0) (hr1 : Kd.C k36 w A1 l1.length l1) (hc1 : l1.length ≤ c1) (h : impl_advanced.f k l0 l1 = some r) :
  Calls Try.prog 55 #[.slice A0 l0.length c0,.slice A1 l1.length c1] w fun e w'=>∃ v0_ : Value,e = .returned (v0_) ∧ Kd.R k38 38 w' w.heap.size (fun _=>True) v0_ r ∧ Below w.heap.size w w':=by
 have hu36:=Try.underlying36
 have HR0:=Aside0.mk hr0
 have HC0:=Aside0.mk hc0
 clear hr0 hc0
 have HR1:=Aside0.mk hr1
 have HC1:=Aside0.mk hc1
 clear hr1 hc1
 have HB:=am (Below.refl w.heap.size w)
 have H : ((some (([] : List (S38)) : List (S38))).bind fun y390=>(if y390.length + l0.length < 3518437208883 then ((some (y390 ++ l0 : List (S38))).bind fun y393=>(impl_advanced.l0 k l1 y393 (y393.length : Int) 0)) else (none))) = some r:=h
 clear h
 obtain ⟨y390,hy_⟩ : ∃ y_ : List (S38),y_ = (([] : List (S38))):=⟨_,rfl⟩
 replace H : (if y390.length + l0.length < 3518437208883 then ((some (y390 ++ l0 : List (S38))).bind fun y393=>(impl_advanced.l0 k l1 y393 (y393.length : Int) 0)) else (none)) = some r:=Q162
 have Ny390:=Aside0.mk hy_
 clear hy_
 have c3 : y390.length + l0.length < 3518437208883:=nn_ H
 rw [if_pos c3] at H
 have LMc3:=Aside0.mk c3
 clear c3
 obtain ⟨y393,hy_⟩ : ∃ y_ : List (S38),y_ = (y390 ++ l0):=⟨_,rfl⟩
 replace H : (impl_advanced.l0 k l1 y393 (y393.length : Int) 0) = some r:=Q162
 have Ny393:=Aside0.mk hy_
 clear hy_
 have H':=Aside0.mk H
 clear H
 go_enter Try.func55,Try.ntmps55
 go_wp2_with (first|((with_reducible refine gate_dst (N:=7) rfl ?_);refine Kd.R_lit k38 _ 38 ?hg (N:=7) ?hd (xs:=([] : List (S38))) (inner:=[]) (ok:=fun _=>True) (okp:=fun _=>True) ?hr ?hp (fun _ hk=>hk) trivial (Below.refl _ _) (Nat.le_refl _) (by simp) ?_;(case hd=>rfl);(case hg=>rfl);(case hr=>first|(go_simp;done)|(go_simp;rfl));(case hp=>exact (Reps.none _ _));intro v391 w4 ho5 hb hg_ hnew_;clear hg_ hnew_;(first|rw [← Ny390.out] at ho5|(simp only [Int.reduceToNat] at ho5;rw [← Ny390.out] at ho5));have HO392:=am (Kd.R_lower ho5 (below_size Q80));replace HB:=am (below_step Q80 hb);clear hb ho5)|((with_reducible refine gate_builtin (b:=.append) (xs:=#[.tmp 7,.tmp 8]) rfl ?_);at_builtin;refine Kd.R_append_rows k38 (w0:=w) w.heap.size rfl (.tmp 7) (.tmp 8) 23 38 (.agg #[(.int .i64 0),(.int .i64 0),(.int .i64 0),(.int .i64 0),(.int .i64 0)]) 40 rfl Try.underlying23 info38 rfl Q0 (by omega) v391 y390 l0 _ _ _ (fun _=>True) (fun _=>False) rfl rfl ?aO ?aR (fun _ _ h=>h) (fun _ h=>h.elim) ?aF ?aB ?aS ?aL ?_;(case aR=>exact Q115);(case aB=>exact Q80);(case aF=>exact (fun _ _=>trivial));(case aO=>exact (by (with_reducible repeat (first|apply Kd.R_alloc|apply Kd.R_drewN|apply Kd.R_drew));exact HO392.out));(case aS=>exact (below_size Q80));(case aL=>have:=LMc3.out;omega);intro v394 w6 ho hb hg hat;rw [← Ny393.out] at ho;replace HB:=am (hb);have HO395:=am (ho);clear HO392;clear ho hb hg hat;obtain ⟨Ao7,co7,eo7⟩:=Kd.R_slice HO395.out;subst eo7))
 go_loopg [12] k (fun kq v12 w'=>∃ (x5_1 : List (S38)) (x12_1 : Int),v12 = .int .i64 x12_1 ∧ Aside0 (impl_advanced.l0 kq l1 x5_1 (y393.length : Int) x12_1 = some r) ∧ Aside0 (kq ≤ k) ∧ Aside0 (Kd.R k38 38 w' w.heap.size (fun _=>True) (.slice Ao7 y393.length co7) x5_1) ∧ Aside0 (Below w.heap.size w w'))
 case atStart=>exact ⟨(y393),(0),Q7,H',⟨Nat.le_refl _⟩,⟨by (with_reducible repeat (first|apply Kd.R_alloc|apply Kd.R_drewN|apply Kd.R_drew));exact HO395.out⟩,⟨Q80⟩⟩
 case round =>
  clear H'
  try clear c1
  try clear p2
  try clear c3
  try clear c5
  obtain ⟨x5_1,x12_1,rfl,HA,HK1,HO_5,HB⟩:=hrel
  have hl5_1:=(Kd.R_reads' HO_5.out).1
  rw [hl5_1] at HO_5
  (try simp only [hl5_1])
  cases gk with
  | zero=>exact absurd HA.out (by simp [impl_advanced.l0])
  | succ k1 =>
   have H:=HA.out
   clear HA
   simp only [impl_advanced.l0] at H
   by_cases c8 : x12_1 < (y393.length : Int)
   ·rw [if_pos c8] at H
    have c8b0 : decide (x12_1 < (y393.length : Int)) = true:=decide_eq_true c8
    clear c8
    have c9 : 0 ≤ x12_1:=nn_ H
    rw [if_pos c9] at H
    have c9b0 : decide (0 ≤ x12_1) = true:=decide_eq_true c9
    clear c9
    have c10 : x12_1 < (x5_1.length : Int):=nn_ H
    rw [if_pos c10] at H
    have c10b0 : decide (x12_1 < (x5_1.length : Int)) = true:=decide_eq_true c10
    clear c10
    replace H:=Option.bind_eq_some_iff.mp H
    obtain ⟨⟨t397,t398⟩,A110,H⟩:=H
    replace H : (impl_advanced.l0 k1 l1 (x5_1.set (x12_1 : Int).toNat (⟨(rd_T38 x5_1 x12_1).f0,(rd_T38 x5_1 x12_1).f1,(⟨t397,t398⟩ : S36),(rd_T38 x5_1 x12_1).f3⟩ : S38)) (y393.length : Int) (wrap64 (x12_1 + 1))) = some r:=H
    have A11:=Aside0.mk A110
    clear A110
    obtain ⟨y399,hy_⟩ : ∃ y_ : List (S38),y_ = (x5_1.set (x12_1 : Int).toNat (⟨(rd_T38 x5_1 x12_1).f0,(rd_T38 x5_1 x12_1).f1,(⟨t397,t398⟩ : S36),(rd_T38 x5_1 x12_1).f3⟩ : S38)):=⟨_,rfl⟩
    replace H : (impl_advanced.l0 k1 l1 y399 (y393.length : Int) (wrap64 (x12_1 + 1))) = some r:=Q162
    have Ny399:=Aside0.mk hy_
    clear hy_
    have H':=Aside0.mk H
    clear H
    have p396 : 0 ≤ (x12_1 : Int):=of_decide_eq_true Q8
    have q396 : x12_1 < (x5_1.length : Int):=of_decide_eq_true Q8
    obtain ⟨ad396,e396,hx396_0,hx396_1,hx396_2,hx396_3,hx396_4⟩:=at_T38 (Kd.R_reads' HO_5.out).2.2 x12_1 p396 q396
    cases e396
    replace p396:=eq_true p396
    replace q396:=eq_true q396
    go_wp2_with (first|((with_reducible refine gate_callee (f:=85) rfl ?_);refine goesL_ (some 23) rfl rfl Try.func85 Q1 rfl #[.slice A1 l1.length c1,.agg #[.int .i64 ((rd_T38 x5_1 x12_1).f2.f0),.int .i64 ((rd_T38 x5_1 x12_1).f2.f1)]] rfl Q84 ?_;(with_reducible refine (impl_moved.calls k1 _ _ l1 ((rd_T38 x5_1 x12_1).f2.f0) ((rd_T38 x5_1 x12_1).f2.f1) t397 t398 _ ?side1 ?side2 A11.out).mono ?_);(case side1=>exact Q116);(case side2=>exact HC1.out);rintro e w13 ⟨rfl,hb⟩;refine ⟨_,rfl,?_⟩;replace HO_5:=am (Kd.R_below Q21 hb);replace HB:=am (below_step Q80 hb);(try clear hb);have p12 : 0 ≤ (x12_1 : Int):=of_decide_eq_true Q8;have q12 : (x12_1 : Int) < ((x5_1.length : Int) : Int):=of_decide_eq_true Q8;obtain ⟨go12,co12,eo12,gb12,gl12,cl12,HG12⟩:=Kd.R_form HO_5.out (by omega);(first|cases eo12|(injection eo12 with ea_ en_ ec_;(first|subst ea_|(injection ea_ with ea_;subst ea_));subst ec_;clear en_));have GB12:=Aside0.mk gb12;have GG12:=Aside0.mk HG12;clear gb12 gl12 HG12;(first|simp only [add_plain] at hx396_0|skip);(first|simp only [add_plain] at hx396_1|skip);(first|simp only [add_plain] at hx396_2|skip);(first|simp only [add_plain] at hx396_3|skip);(first|simp only [add_plain] at hx396_4|skip);obtain ⟨ce12,hcl12,hM12,hcc12,hfr12⟩:=Kd.R_elem HO_5.out z38 (x12_1 : Int) p12 q12;obtain rfl:=k38_openM hM12;have hx12_0 : w13.cell? ⟨go12,(x12_1 : Int).toNat * 5,none⟩ = some (.int .i64 ((rd_T38 x5_1 x12_1).f0)):=hcc12 0 _ rfl;have hx12_1 : w13.cell? ⟨go12,(x12_1 : Int).toNat * 5 + 1,none⟩ = some (.int .i64 ((rd_T38 x5_1 x12_1).f1)):=hcc12 1 _ rfl;have hx12_2 : w13.cell? ⟨go12,(x12_1 : Int).toNat * 5 + 2,none⟩ = some (.int .i64 ((rd_T38 x5_1 x12_1).f2.f0)):=hcc12 2 _ rfl;have hx12_3 : w13.cell? ⟨go12,(x12_1 : Int).toNat * 5 + 3,none⟩ = some (.int .i64 ((rd_T38 x5_1 x12_1).f2.f1)):=hcc12 3 _ rfl;have hx12_4 : w13.cell? ⟨go12,(x12_1 : Int).toNat * 5 + 4,none⟩ = some (.int .i64 ((rd_T38 x5_1 x12_1).f3)):=hcc12 4 _ rfl;have hf12_0 : w13.frozen? ⟨go12,(x12_1 : Int).toNat * 5,none⟩ = false:=hfr12 0;have hf12_1 : w13.frozen? ⟨go12,(x12_1 : Int).toNat * 5 + 1,none⟩ = false:=hfr12 1;have hf12_2 : w13.frozen? ⟨go12,(x12_1 : Int).toNat * 5 + 2,none⟩ = false:=hfr12 2;have hf12_3 : w13.frozen? ⟨go12,(x12_1 : Int).toNat * 5 + 3,none⟩ = false:=hfr12 3;have hf12_4 : w13.frozen? ⟨go12,(x12_1 : Int).toNat * 5 + 4,none⟩ = false:=hfr12 4;clear hcl12 hcc12 hfr12 hM12;replace p12:=eq_true p12;replace q12:=eq_true q12;have HX14:=am (show Kd.R k38 38 w13 w.heap.size (fun _=>True) (.slice (some ⟨go12,0,none⟩) x5_1.length co7) x5_1 from Q21);obtain ⟨ce14,hcl14,hM14,hcc14,hfr14⟩:=Kd.R_elem HX14.out z38 (x12_1 : Int) (of_decide_eq_true Q8) (by have h_ : (x12_1 : Int) < ((x5_1.length : Int) : Int):=of_decide_eq_true Q8;first|exact h_|(have e_:=(Kd.R_reads' HO_5.out).1;omega)|simpa using h_);obtain rfl:=k38_openM hM14;have HP14:=Kd.R_seg HX14.out (x12_1 : Int) (of_decide_eq_true Q8) (by have h_ : (x12_1 : Int) < ((x5_1.length : Int) : Int):=of_decide_eq_true Q8;first|exact h_|(have e_:=(Kd.R_reads' HO_5.out).1;omega)|simpa using h_) (seg:=[.int .i64 t397,.int .i64 t398]) (j:=2) hcl14 hcc14 (show 4 ≤ 5 from by decide) (x':=(⟨(rd_T38 x5_1 x12_1).f0,(rd_T38 x5_1 x12_1).f1,(⟨t397,t398⟩ : S36),(rd_T38 x5_1 x12_1).f3⟩ : S38)) (k38_mkM _ _ _ (⟨(rd_T38 x5_1 x12_1).f0,(rd_T38 x5_1 x12_1).f1,(⟨t397,t398⟩ : S36),(rd_T38 x5_1 x12_1).f3⟩ : S38) ) (fun _ hk=>hk);have hx14_2:=hcc14 2 _ rfl;(try simp only [show (k38).sz = 5 from rfl,Nat.mul_one,Nat.add_zero] at hx14_2);have hf14_2:=hfr14 2;(try simp only [show (k38).sz = 5 from rfl,Nat.mul_one,Nat.add_zero] at hf14_2);have hx14_3:=hcc14 3 _ rfl;(try simp only [show (k38).sz = 5 from rfl,Nat.mul_one,Nat.add_zero] at hx14_3);have hf14_3:=hfr14 3;(try simp only [show (k38).sz = 5 from rfl,Nat.mul_one,Nat.add_zero] at hf14_3);clear hcl14 hcc14 hfr14 hM14)|((with_reducible refine gate_store (t:=36) (p:=25) rfl ?_);refine store_event (t:=36) (p:=25) (v:=?vo_w15) (w1:=((w13.setCell ⟨go12,(x12_1 : Int).toNat * 5 + 2,none⟩ (.int .i64 t397)).setCell ⟨go12,(x12_1 : Int).toNat * 5 + 3,none⟩ (.int .i64 t398))) ?hg ?ho ?hn ?hr ?_;(case ho=>rfl);(case hg=>rfl);(case hn=>rfl);(case hr=>first|(go_simp;done)|(go_simp;rfl));intro w15 hw;have hg : w13.grownBy w15 (some go12):=(by rw [hw];exact HP14.2);have hp_ : Kd.R k38 38 w15 w.heap.size (fun _=>True) (.slice (some ⟨go12,0,none⟩) x5_1.length co7) y399:=(by rw [hw,Ny399.out];exact HP14.1);clear HP14;replace HO_5:=am (hp_);replace HB:=am ((by rw [hw];exact below_set (below_set (HB.out) GB12.out) GB12.out : Below w.heap.size w w15));clear hg hw hp_))
    (try simp only [← hl5_1])
    go_roundg k1
    case measure=>have:=HK1.out;omega
    case rel=>exact ⟨(y399),(wrap64 (x12_1 + 1)),Q7,H',⟨Q3⟩,⟨by (try simp only [hl5_1]);(with_reducible repeat (first|apply Kd.R_alloc|apply Kd.R_drewN|apply Kd.R_drew));exact HO_5.out⟩,⟨Q80⟩⟩
   ·rw [if_neg c8] at H
    have c8b0 : decide (x12_1 < (y393.length : Int)) = false:=decide_eq_false c8
    (try (have c8h0:=c8b0;simp only [hl5_1] at c8h0))
    clear c8
    obtain rfl:=Option.some.inj H
    go_wp2
    go_ret
    exact ⟨_,Q18,Q21,Q80⟩
noncomputable def impl_BatchMove.j0 : Nat → List (S38) → List (S36) → Bool → Option ((List (S38)))
 | 0, _, _, _ => none
 | k + 1, x0, x1, x14 => if x14 = true then (some ([] : List (S38))) else ((impl_advanced.f k x0 x1).bind fun t402 => ((impl_batch.f k t402).bind fun bt405 => (some bt405.1)))
noncomputable def impl_BatchMove.f (k : Nat) (l0 : List (S38)) (l1 : List (S36)) : Option ((List (S38))) := (impl_RowsOk.f k l0).bind fun t400 => (if t400 = true then ((impl_FrontOk.f k l1).bind fun t401 => (impl_BatchMove.j0 k l0 l1 (!t401))) else (impl_BatchMove.j0 k l0 l1 true))
set_option maxHeartbeats 8000000 in
set_option maxRecDepth 100000 in
theorem impl_BatchMove.calls (k : Nat) (A0 : Option Addr) (c0 : Nat) (l0 : List (S38)) (A1 : Option Addr) (c1 : Nat) (l1 : List (S36)) (r : List (S38)) (w : World) (hr0 : Kd.C k38 w A0 l0.length l0) (hc0 : l0.length ≤ c0) (hr1 : Kd.C k36 w A1 l1.length l1) (hc1 : l1.length ≤ c1) (h : impl_BatchMove.f k l0 l1 = some r) :
  Calls Try.prog 17 #[.slice A0 l0.length c0,.slice A1 l1.length c1] w fun e w'=>∃ v0_ : Value,e = .returned (v0_) ∧ Kd.R k38 38 w' w.heap.size (fun _=>True) v0_ r ∧ Below w.heap.size w w':=by
 have HR0:=Aside0.mk hr0
 have HC0:=Aside0.mk hc0
 clear hr0 hc0
 have HR1:=Aside0.mk hr1
 have HC1:=Aside0.mk hc1
 clear hr1 hc1
 have HB:=am (Below.refl w.heap.size w)
 have H : ((impl_RowsOk.f k l0).bind fun t400=>(if t400 = true then ((impl_FrontOk.f k l1).bind fun t401=>(impl_BatchMove.j0 k l0 l1 (!t401))) else (impl_BatchMove.j0 k l0 l1 true))) = some r:=h
 clear h
 have HC3:=Aside0.mk H
 clear H
 go_enter Try.func17,Try.ntmps17
 go_upto_region 1 with (fail)
 go_cut [14] (fun v14 wc=>∃ (kq : Nat) (x14_2 : Bool),v14 = .bool x14_2 ∧ Aside0 (impl_BatchMove.j0 kq l0 l1 x14_2 = some r) ∧ Aside0 (kq ≤ k) ∧ Aside0 (Below w.heap.size w wc))
 case first =>
  have H:=HC3.out
  clear HC3
  replace H:=Option.bind_eq_some_iff.mp H
  obtain ⟨t400,A40,H⟩:=H
  replace H : (if t400 = true then ((impl_FrontOk.f k l1).bind fun t401=>(impl_BatchMove.j0 k l0 l1 (!t401))) else (impl_BatchMove.j0 k l0 l1 true)) = some r:=H
  have A4:=Aside0.mk A40
  clear A40
  by_cases c5 : t400 = true
  ·subst c5
   have H1 : ((impl_FrontOk.f k l1).bind fun t401=>(impl_BatchMove.j0 k l0 l1 (!t401))) = some r:=by rw [if_pos rfl] at H;exact H
   clear H
   have H:=H1
   clear H1
   replace H:=Option.bind_eq_some_iff.mp H
   obtain ⟨t401,A60,H⟩:=H
   replace H : (impl_BatchMove.j0 k l0 l1 (!t401)) = some r:=H
   have A6:=Aside0.mk A60
   clear A60
   have H':=Aside0.mk H
   clear H
   go_wp2_with (first|((with_reducible refine gate_callee (f:=39) rfl ?_);refine goesL_ (some 8) rfl rfl Try.func39 Q1 rfl #[.slice A0 l0.length c0] rfl Q84 ?_;(with_reducible refine (impl_RowsOk.calls k _ _ l0 true _ ?side1 ?side2 A4.out).mono ?_);(case side1=>exact Q115);(case side2=>exact HC0.out);rintro e w7 ⟨rfl,hb⟩;refine ⟨_,rfl,?_⟩;replace HB:=am (below_step Q80 hb);(try clear hb))|(go_at_call 53;(with_reducible refine (impl_FrontOk.calls k _ _ l1 t401 _ ?side1 ?side2 A6.out).mono ?_);(case side1=>exact Q116);(case side2=>exact HC1.out);rintro e w8 ⟨rfl,hb⟩;replace HB:=am (below_step Q80 hb);(try clear hb)))
   go_meet
   case rel=>exact ⟨_,(!t401),Q7,H',⟨Q4⟩,⟨Q80⟩⟩
  ·replace c5:=Bool.eq_false_iff.mpr c5
   subst c5
   have H1 : (impl_BatchMove.j0 k l0 l1 true) = some r:=by rw [if_neg (show ¬ (false = true) by decide)] at H;exact H
   clear H
   have H:=H1
   clear H1
   have H':=Aside0.mk H
   clear H
   go_wp2_with (first|((with_reducible refine gate_callee (f:=39) rfl ?_);refine goesL_ (some 8) rfl rfl Try.func39 Q1 rfl #[.slice A0 l0.length c0] rfl Q84 ?_;(with_reducible refine (impl_RowsOk.calls k _ _ l0 false _ ?side1 ?side2 A4.out).mono ?_);(case side1=>exact Q115);(case side2=>exact HC0.out);rintro e w9 ⟨rfl,hb⟩;refine ⟨_,rfl,?_⟩;replace HB:=am (below_step Q80 hb);(try clear hb)))
   go_meet
   case rel=>exact ⟨_,(true),Q7,H',⟨Q4⟩,⟨Q80⟩⟩
 case rest =>
  clear HC3
  try clear c1
  try clear p2
  try clear c3
  try clear c5
  obtain ⟨kq,x14_2,rfl,HA,HJ2,HB⟩:=hcut
  cases kq with
  | zero=>exact absurd HA.out (by simp [impl_BatchMove.j0])
  | succ kj2 =>
   have H:=HA.out
   clear HA
   simp only [impl_BatchMove.j0] at H
   by_cases c10 : x14_2 = true
   ·subst c10
    have H1 : (some ([] : List (S38))) = some r:=by rw [if_pos rfl] at H;exact H
    clear H
    have H:=H1
    clear H1
    obtain rfl:=Option.some.inj H
    go_wp2
    go_ret
    exact ⟨_,Q18,Q85,Q80⟩
   ·replace c10:=Bool.eq_false_iff.mpr c10
    subst c10
    have H1 : ((impl_advanced.f kj2 l0 l1).bind fun t402=>((impl_batch.f kj2 t402).bind fun bt405=>(some bt405.1))) = some r:=by rw [if_neg (show ¬ (false = true) by decide)] at H;exact H
    clear H
    have H:=H1
    clear H1
    replace H:=Option.bind_eq_some_iff.mp H
    obtain ⟨t402,A110,H⟩:=H
    replace H : ((impl_batch.f kj2 t402).bind fun bt405=>(some bt405.1)) = some r:=H
    have A11:=Aside0.mk A110
    clear A110
    replace H:=Option.bind_eq_some_iff.mp H
    obtain ⟨⟨t405,t406⟩,A120,H⟩:=H
    replace H : (some t405) = some r:=H
    have A12:=Aside0.mk A120
    clear A120
    obtain rfl:=Option.some.inj H
    go_wp2_with (first|((with_reducible refine gate_callee (f:=55) rfl ?_);refine goesL_ (some 18) rfl rfl Try.func55 Q1 rfl #[.slice A0 l0.length c0,.slice A1 l1.length c1] rfl Q84 ?_;(with_reducible refine (impl_advanced.calls kj2 _ _ l0 _ _ l1 t402 _ ?side1 ?side2 ?side3 ?side4 A11.out).mono ?_);(case side1=>exact Q115);(case side2=>exact HC0.out);(case side3=>exact Q116);(case side4=>exact HC1.out);rintro e w13 ⟨v403,rfl,ho0,hb⟩;refine ⟨_,rfl,?_⟩;have HO404:=am (Kd.R_lower ho0 (below_size Q80));replace HB:=am (below_step Q80 hb);(try clear hb ho0);obtain ⟨Ao14,co14,eo14⟩:=Kd.R_slice HO404.out;subst eo14)|((with_reducible refine gate_callee (f:=54) rfl ?_);refine goesL_ (some 19) rfl rfl Try.func54 Q1 rfl #[.slice Ao14 t402.length co14] rfl Q84 ?_;(with_reducible refine (impl_batch.calls kj2 _ _ t402 t405 t406 _ ?side1 ?side2 A12.out).mono ?_);(case side1=>exact (by repeat (first|exact (Kd.R_reads' HO404.out).2.2|(with_reducible refine Kd.C_alloc ?_ _)|(with_reducible refine Kd.C_drewN ?_ _)|(with_reducible refine Kd.C_drew ?_))));(case side2=>exact (Kd.R_reads' HO404.out).2.1);rintro e w15 ⟨v407,rfl,ho0,hb⟩;refine ⟨_,rfl,?_⟩;have HO408:=am (Kd.R_lower (Kd.R_new' ho0 (Kd.R_lt (by (with_reducible repeat (first|apply Kd.R_alloc|apply Kd.R_drewN|apply Kd.R_drew));exact HO404.out))) (below_size Q80));replace HO404:=am (Kd.R_elder' (by (with_reducible repeat (first|apply Kd.R_alloc|apply Kd.R_drewN|apply Kd.R_drew));exact HO404.out) (Kd.R_base ho0) hb);replace HB:=am (below_step Q80 hb);(try clear hb ho0)))
    go_ret
    exact ⟨_,Q18,by (with_reducible repeat (first|apply Kd.R_alloc|apply Kd.R_drewN|apply Kd.R_drew));exact Kd.R_mono HO408.out (fun _ hk=>trivial),Q80⟩
def laws_lwRows.l0 : Nat → List (S38) → List (S38) → Int → Option (Bool)
 | 0, _, _, _ => none
 | k + 1, x0, x1, x5 => if x5 < (x0.length : Int) then (if 0 ≤ x5 then (if x5 < (x1.length : Int) then (if (!(((rd_T38 x0 x5).f0) == ((rd_T38 x1 x5).f0)) || (!(((rd_T38 x0 x5).f1) == ((rd_T38 x1 x5).f1)) || ((!(((rd_T38 x0 x5).f2.f0) == ((rd_T38 x1 x5).f2.f0)) || (!(((rd_T38 x0 x5).f2.f1) == ((rd_T38 x1 x5).f2.f1)))) || (!(((rd_T38 x0 x5).f3) == ((rd_T38 x1 x5).f3)))))) = true then (some false) else (laws_lwRows.l0 k x0 x1 (wrap64 (x5 + 1)))) else (none)) else (none)) else (some true)
def laws_lwRows.f (k : Nat) (l0 : List (S38)) (l1 : List (S38)) : Option (Bool) := if (l0.length : Int) = (l1.length : Int) then (laws_lwRows.l0 k l0 l1 0) else (some false)
set_option maxHeartbeats 8000000 in
set_option maxRecDepth 100000 in
theorem laws_lwRows.calls (k : Nat) (A0 : Option Addr) (c0 : Nat) (l0 : List (S38)) (A1 : Option Addr) (c1 : Nat) (l1 : List (S38)) (r : Bool) (w : World) (hr0 : Kd.C k38 w A0 l0.length l0) (hc0 : l0.length ≤ c0) (hr1 : Kd.C k38 w A1 l1.length l1) (hc1 : l1.length ≤ c1) (h : laws_lwRows.f k l0 l1 = some r) :
  Calls Try.prog 18 #[.slice A0 l0.length c0,.slice A1 l1.length c1] w fun e w'=>e = .returned (.bool r) ∧ Drawn0 w w':=by
 have hu38:=Try.underlying38
 have HR0:=Aside0.mk hr0
 have HC0:=Aside0.mk hc0
 clear hr0 hc0
 have HR1:=Aside0.mk hr1
 have HC1:=Aside0.mk hc1
 clear hr1 hc1
 have H : (if (l0.length : Int) = (l1.length : Int) then (laws_lwRows.l0 k l0 l1 0) else (some false)) = some r:=h
 clear h
 by_cases c3 : (l0.length : Int) = (l1.length : Int)
 ·rw [if_pos c3] at H
  have c3b0 : ((l0.length : Int) == (l1.length : Int)) = true:=beq_iff_eq.mpr c3
  have c3b1 : ((l0.length : Int) != (l1.length : Int)) = false:=bne_eq_false_iff_eq.mpr c3
  have c3b2 : (l0.length == l1.length) = true:=by first|simpa using c3|(simp at c3 ⊢;omega)
  clear c3
  have H':=Aside0.mk H
  clear H
  go_enter Try.func18,Try.ntmps18
  go_wp2
  repeat (go_quiet (fail);try go_wp2)
  go_loopg [5] k (fun kq v5 w'=>∃ (x5_1 : Int),v5 = .int .i64 x5_1 ∧ Aside0 (laws_lwRows.l0 kq l0 l1 x5_1 = some r) ∧ Aside0 (kq ≤ k) ∧ Drawn0 w w')
  case atStart=>exact ⟨(0),Q7,H',⟨Nat.le_refl _⟩,Q10⟩
  case round =>
   clear H'
   try clear c1
   try clear p2
   try clear c3
   try clear c3b0
   try clear c3b1
   try clear c3b2
   obtain ⟨x5_1,rfl,HA,HK1,⟨m1,rfl⟩⟩:=hrel
   cases gk with
   | zero=>exact absurd HA.out (by simp [laws_lwRows.l0])
   | succ k1 =>
    have H:=HA.out
    clear HA
    simp only [laws_lwRows.l0] at H
    by_cases c4 : x5_1 < (l0.length : Int)
    ·rw [if_pos c4] at H
     have c4b0 : decide (x5_1 < (l0.length : Int)) = true:=decide_eq_true c4
     clear c4
     have c5 : 0 ≤ x5_1:=nn_ H
     rw [if_pos c5] at H
     have c5b0 : decide (0 ≤ x5_1) = true:=decide_eq_true c5
     clear c5
     have c6 : x5_1 < (l1.length : Int):=nn_ H
     rw [if_pos c6] at H
     have c6b0 : decide (x5_1 < (l1.length : Int)) = true:=decide_eq_true c6
     clear c6
     by_cases c7 : (!(((rd_T38 l0 x5_1).f0) == ((rd_T38 l1 x5_1).f0)) || (!(((rd_T38 l0 x5_1).f1) == ((rd_T38 l1 x5_1).f1)) || ((!(((rd_T38 l0 x5_1).f2.f0) == ((rd_T38 l1 x5_1).f2.f0)) || (!(((rd_T38 l0 x5_1).f2.f1) == ((rd_T38 l1 x5_1).f2.f1)))) || (!(((rd_T38 l0 x5_1).f3) == ((rd_T38 l1 x5_1).f3)))))) = true
     ·rw [if_pos c7] at H
      have c7b0 : (!(((rd_T38 l0 x5_1).f0) == ((rd_T38 l1 x5_1).f0)) || (!(((rd_T38 l0 x5_1).f1) == ((rd_T38 l1 x5_1).f1)) || ((!(((rd_T38 l0 x5_1).f2.f0) == ((rd_T38 l1 x5_1).f2.f0)) || (!(((rd_T38 l0 x5_1).f2.f1) == ((rd_T38 l1 x5_1).f2.f1)))) || (!(((rd_T38 l0 x5_1).f3) == ((rd_T38 l1 x5_1).f3)))))) = true:=c7
      clear c7
      obtain rfl:=Option.some.inj H
      have p409 : 0 ≤ (x5_1 : Int):=of_decide_eq_true Q8
      have q409 : x5_1 < (l0.length : Int):=of_decide_eq_true Q8
      obtain ⟨ad409,e409,hx409_0,hx409_1,hx409_2,hx409_3,hx409_4⟩:=at_T38 HR0.out x5_1 p409 q409
      cases e409
      replace p409:=eq_true p409
      replace q409:=eq_true q409
      have p410 : 0 ≤ (x5_1 : Int):=of_decide_eq_true Q8
      have q410 : x5_1 < (l1.length : Int):=of_decide_eq_true Q8
      obtain ⟨ad410,e410,hx410_0,hx410_1,hx410_2,hx410_3,hx410_4⟩:=at_T38 HR1.out x5_1 p410 q410
      cases e410
      replace p410:=eq_true p410
      replace q410:=eq_true q410
      go_wp2
      repeat (go_quiet (fail);try go_wp2)
      go_ret
      exact ⟨Q7,Q10⟩
     ·rw [if_neg c7] at H
      have c7b0 : (!(((rd_T38 l0 x5_1).f0) == ((rd_T38 l1 x5_1).f0)) || (!(((rd_T38 l0 x5_1).f1) == ((rd_T38 l1 x5_1).f1)) || ((!(((rd_T38 l0 x5_1).f2.f0) == ((rd_T38 l1 x5_1).f2.f0)) || (!(((rd_T38 l0 x5_1).f2.f1) == ((rd_T38 l1 x5_1).f2.f1)))) || (!(((rd_T38 l0 x5_1).f3) == ((rd_T38 l1 x5_1).f3)))))) = false:=by simpa using c7
      clear c7
      have H':=Aside0.mk H
      clear H
      have p409 : 0 ≤ (x5_1 : Int):=of_decide_eq_true Q8
      have q409 : x5_1 < (l0.length : Int):=of_decide_eq_true Q8
      obtain ⟨ad409,e409,hx409_0,hx409_1,hx409_2,hx409_3,hx409_4⟩:=at_T38 HR0.out x5_1 p409 q409
      cases e409
      replace p409:=eq_true p409
      replace q409:=eq_true q409
      have p410 : 0 ≤ (x5_1 : Int):=of_decide_eq_true Q8
      have q410 : x5_1 < (l1.length : Int):=of_decide_eq_true Q8
      obtain ⟨ad410,e410,hx410_0,hx410_1,hx410_2,hx410_3,hx410_4⟩:=at_T38 HR1.out x5_1 p410 q410
      cases e410
      replace p410:=eq_true p410
      replace q410:=eq_true q410
      go_wp2
      repeat (go_quiet (fail);try go_wp2)
      go_roundg k1
      case measure=>have:=HK1.out;omega
      case rel=>exact ⟨(wrap64 (x5_1 + 1)),Q7,H',⟨Q3⟩,Q10⟩
    ·rw [if_neg c4] at H
     have c4b0 : decide (x5_1 < (l0.length : Int)) = false:=decide_eq_false c4
     clear c4
     obtain rfl:=Option.some.inj H
     go_wp2
     repeat (go_quiet (fail);try go_wp2)
     go_ret
     exact ⟨Q7,Q10⟩
 ·rw [if_neg c3] at H
  have c3b0 : ((l0.length : Int) == (l1.length : Int)) = false:=beq_eq_false_iff_ne.mpr c3
  have c3b1 : ((l0.length : Int) != (l1.length : Int)) = true:=bne_iff_ne.mpr c3
  have c3b2 : (l0.length == l1.length) = false:=by first|simpa using c3|(simp at c3 ⊢;omega)
  obtain rfl:=Option.some.inj H
  go_enter Try.func18,Try.ntmps18
  go_wp2
  repeat (go_quiet (fail);try go_wp2)
  go_ret
  exact ⟨Q7,Q10⟩
def spec_l2Row.f (a0_0 : Int) (a0_1 : Int) (a0_2 : Int) (a0_3 : Int) (a0_4 : Int) : Option (Bool) := (spec_l6In.f a0_0 0 3).bind fun t412 => (if t412 = true then ((spec_l6In.f a0_1 0 99).bind fun t413 => (if t413 = true then ((spec_TimeOk.f a0_2 a0_3).bind fun t414 => (if t414 = true then ((spec_l6In.f a0_4 (-99999) 99999).bind fun t415 => (some t415)) else (some false))) else (some false))) else (some false))
set_option maxHeartbeats 8000000 in
set_option maxRecDepth 100000 in
theorem spec_l2Row.calls (a0_0 : Int) (a0_1 : Int) (a0_2 : Int) (a0_3 : Int) (a0_4 : Int) (r : Bool) (w : World) (h : spec_l2Row.f a0_0 a0_1 a0_2 a0_3 a0_4 = some r) :
  Calls Try.prog 59 #[.agg #[.int .i64 a0_0,.int .i64 a0_1,.int .i64 a0_2,.int .i64 a0_3,.int .i64 a0_4]] w fun e w'=>e = .returned (.bool r) ∧ Below w.heap.size w w':=by
 have hu38:=Try.underlying38
 have hu36:=Try.underlying36
 have HB:=am (Below.refl w.heap.size w)
 have H : ((spec_l6In.f a0_0 0 3).bind fun t412=>(if t412 = true then ((spec_l6In.f a0_1 0 99).bind fun t413=>(if t413 = true then ((spec_TimeOk.f a0_2 a0_3).bind fun t414=>(if t414 = true then ((spec_l6In.f a0_4 (-99999) 99999).bind fun t415=>(some t415)) else (some false))) else (some false))) else (some false))) = some r:=h
 clear h
 replace H:=Option.bind_eq_some_iff.mp H
 obtain ⟨t412,A20,H⟩:=H
 replace H : (if t412 = true then ((spec_l6In.f a0_1 0 99).bind fun t413=>(if t413 = true then ((spec_TimeOk.f a0_2 a0_3).bind fun t414=>(if t414 = true then ((spec_l6In.f a0_4 (-99999) 99999).bind fun t415=>(some t415)) else (some false))) else (some false))) else (some false)) = some r:=H
 have A2:=Aside0.mk A20
 clear A20
 by_cases c3 : t412 = true
 ·subst c3
  have H1 : ((spec_l6In.f a0_1 0 99).bind fun t413=>(if t413 = true then ((spec_TimeOk.f a0_2 a0_3).bind fun t414=>(if t414 = true then ((spec_l6In.f a0_4 (-99999) 99999).bind fun t415=>(some t415)) else (some false))) else (some false))) = some r:=by rw [if_pos rfl] at H;exact H
  clear H
  have H:=H1
  clear H1
  replace H:=Option.bind_eq_some_iff.mp H
  obtain ⟨t413,A40,H⟩:=H
  replace H : (if t413 = true then ((spec_TimeOk.f a0_2 a0_3).bind fun t414=>(if t414 = true then ((spec_l6In.f a0_4 (-99999) 99999).bind fun t415=>(some t415)) else (some false))) else (some false)) = some r:=H
  have A4:=Aside0.mk A40
  clear A40
  by_cases c5 : t413 = true
  ·subst c5
   have H1 : ((spec_TimeOk.f a0_2 a0_3).bind fun t414=>(if t414 = true then ((spec_l6In.f a0_4 (-99999) 99999).bind fun t415=>(some t415)) else (some false))) = some r:=by rw [if_pos rfl] at H;exact H
   clear H
   have H:=H1
   clear H1
   replace H:=Option.bind_eq_some_iff.mp H
   obtain ⟨t414,A60,H⟩:=H
   replace H : (if t414 = true then ((spec_l6In.f a0_4 (-99999) 99999).bind fun t415=>(some t415)) else (some false)) = some r:=H
   have A6:=Aside0.mk A60
   clear A60
   by_cases c7 : t414 = true
   ·subst c7
    have H1 : ((spec_l6In.f a0_4 (-99999) 99999).bind fun t415=>(some t415)) = some r:=by rw [if_pos rfl] at H;exact H
    clear H
    have H:=H1
    clear H1
    replace H:=Option.bind_eq_some_iff.mp H
    obtain ⟨t415,A80,H⟩:=H
    replace H : (some t415) = some r:=H
    have A8:=Aside0.mk A80
    clear A80
    obtain rfl:=Option.some.inj H
    go_enter Try.func59,Try.ntmps59
    go_wp2_with (first|((with_reducible refine gate_dst (N:=1) rfl ?_);refine bE_ 1 #[.int .i64 a0_0,.int .i64 a0_1,.int .i64 a0_2,.int .i64 a0_3,.int .i64 a0_4] 38 ?_;intro gb411 hg w9 hbox hb;have BK411:=am (hbox);have GW411:=am ((Q173 : w.heap.size ≤ gb411));replace HB:=am (below_step Q80 hb);have GE411:=GW411;clear hb hbox hg;obtain ⟨hcz10_0,hcz10_1,hcz10_2,hcz10_3,hcz10_4,hfz10_0,hfz10_1,hfz10_2,hfz10_3,hfz10_4⟩:=bx5_ BK411)|((with_reducible refine gate_callee (f:=89) rfl ?_);refine goesL_ (some 5) rfl rfl Try.func89 Q1 rfl #[.int .i64 a0_0,.int .i64 0,.int .i64 3] rfl Q84 ?_;(with_reducible refine (spec_l6In.calls a0_0 0 3 true _ A2.out).mono ?_);rintro e w' ⟨rfl,⟨nd,rfl⟩⟩;refine ⟨_,rfl,?_⟩)|(go_at_call 89;(with_reducible refine (spec_l6In.calls a0_1 0 99 true _ A4.out).mono ?_);rintro e w' ⟨rfl,⟨nd,rfl⟩⟩)|(go_at_call 60;(with_reducible refine (spec_TimeOk.calls a0_2 a0_3 true _ A6.out).mono ?_);rintro e w11 ⟨rfl,hb⟩;replace BK411:=am (blk_below (g:=gb411) (o:=.cells #[.int .i64 a0_0,.int .i64 a0_1,.int .i64 a0_2,.int .i64 a0_3,.int .i64 a0_4] 38 (0,0)) (by (with_reducible repeat (first|refine blk_drewN ?_ _|refine blk_drew ?_|refine blk_alloc ?_ _));exact BK411.out) hb);replace HB:=am (below_step Q102 hb);(try clear hb);obtain ⟨hcz12_0,hcz12_1,hcz12_2,hcz12_3,hcz12_4,hfz12_0,hfz12_1,hfz12_2,hfz12_3,hfz12_4⟩:=bx5_ BK411)|(go_at_call 89;(with_reducible refine (spec_l6In.calls a0_4 (-99999) 99999 t415 _ A8.out).mono ?_);rintro e w' ⟨rfl,⟨nd,rfl⟩⟩))
    go_ret
    exact ⟨Q18,Q102⟩
   ·replace c7:=Bool.eq_false_iff.mpr c7
    subst c7
    have H1 : (some false) = some r:=by rw [if_neg (show ¬ (false = true) by decide)] at H;exact H
    clear H
    have H:=H1
    clear H1
    obtain rfl:=Option.some.inj H
    go_enter Try.func59,Try.ntmps59
    go_wp2_with (first|((with_reducible refine gate_dst (N:=1) rfl ?_);refine bE_ 1 #[.int .i64 a0_0,.int .i64 a0_1,.int .i64 a0_2,.int .i64 a0_3,.int .i64 a0_4] 38 ?_;intro gb411 hg w13 hbox hb;have BK411:=am (hbox);have GW411:=am ((Q173 : w.heap.size ≤ gb411));replace HB:=am (below_step Q80 hb);have GE411:=GW411;clear hb hbox hg;obtain ⟨hcz14_0,hcz14_1,hcz14_2,hcz14_3,hcz14_4,hfz14_0,hfz14_1,hfz14_2,hfz14_3,hfz14_4⟩:=bx5_ BK411)|((with_reducible refine gate_callee (f:=89) rfl ?_);refine goesL_ (some 5) rfl rfl Try.func89 Q1 rfl #[.int .i64 a0_0,.int .i64 0,.int .i64 3] rfl Q84 ?_;(with_reducible refine (spec_l6In.calls a0_0 0 3 true _ A2.out).mono ?_);rintro e w' ⟨rfl,⟨nd,rfl⟩⟩;refine ⟨_,rfl,?_⟩)|(go_at_call 89;(with_reducible refine (spec_l6In.calls a0_1 0 99 true _ A4.out).mono ?_);rintro e w' ⟨rfl,⟨nd,rfl⟩⟩)|(go_at_call 60;(with_reducible refine (spec_TimeOk.calls a0_2 a0_3 false _ A6.out).mono ?_);rintro e w15 ⟨rfl,hb⟩;replace BK411:=am (blk_below (g:=gb411) (o:=.cells #[.int .i64 a0_0,.int .i64 a0_1,.int .i64 a0_2,.int .i64 a0_3,.int .i64 a0_4] 38 (0,0)) (by (with_reducible repeat (first|refine blk_drewN ?_ _|refine blk_drew ?_|refine blk_alloc ?_ _));exact BK411.out) hb);replace HB:=am (below_step Q102 hb);(try clear hb)))
    go_ret
    exact ⟨Q18,Q102⟩
  ·replace c5:=Bool.eq_false_iff.mpr c5
   subst c5
   have H1 : (some false) = some r:=by rw [if_neg (show ¬ (false = true) by decide)] at H;exact H
   clear H
   have H:=H1
   clear H1
   obtain rfl:=Option.some.inj H
   go_enter Try.func59,Try.ntmps59
   go_wp2_with (first|((with_reducible refine gate_dst (N:=1) rfl ?_);refine bE_ 1 #[.int .i64 a0_0,.int .i64 a0_1,.int .i64 a0_2,.int .i64 a0_3,.int .i64 a0_4] 38 ?_;intro gb411 hg w16 hbox hb;have BK411:=am (hbox);have GW411:=am ((Q173 : w.heap.size ≤ gb411));replace HB:=am (below_step Q80 hb);have GE411:=GW411;clear hb hbox hg;obtain ⟨hcz17_0,hcz17_1,hcz17_2,hcz17_3,hcz17_4,hfz17_0,hfz17_1,hfz17_2,hfz17_3,hfz17_4⟩:=bx5_ BK411)|((with_reducible refine gate_callee (f:=89) rfl ?_);refine goesL_ (some 5) rfl rfl Try.func89 Q1 rfl #[.int .i64 a0_0,.int .i64 0,.int .i64 3] rfl Q84 ?_;(with_reducible refine (spec_l6In.calls a0_0 0 3 true _ A2.out).mono ?_);rintro e w' ⟨rfl,⟨nd,rfl⟩⟩;refine ⟨_,rfl,?_⟩)|(go_at_call 89;(with_reducible refine (spec_l6In.calls a0_1 0 99 false _ A4.out).mono ?_);rintro e w' ⟨rfl,⟨nd,rfl⟩⟩))
   go_ret
   exact ⟨Q18,Q102⟩
 ·replace c3:=Bool.eq_false_iff.mpr c3
  subst c3
  have H1 : (some false) = some r:=by rw [if_neg (show ¬ (false = true) by decide)] at H;exact H
  clear H
  have H:=H1
  clear H1
  obtain rfl:=Option.some.inj H
  go_enter Try.func59,Try.ntmps59
  go_wp2_with (first|((with_reducible refine gate_dst (N:=1) rfl ?_);refine bE_ 1 #[.int .i64 a0_0,.int .i64 a0_1,.int .i64 a0_2,.int .i64 a0_3,.int .i64 a0_4] 38 ?_;intro gb411 hg w18 hbox hb;have BK411:=am (hbox);have GW411:=am ((Q173 : w.heap.size ≤ gb411));replace HB:=am (below_step Q80 hb);have GE411:=GW411;clear hb hbox hg;obtain ⟨hcz19_0,hcz19_1,hcz19_2,hcz19_3,hcz19_4,hfz19_0,hfz19_1,hfz19_2,hfz19_3,hfz19_4⟩:=bx5_ BK411)|((with_reducible refine gate_callee (f:=89) rfl ?_);refine goesL_ (some 5) rfl rfl Try.func89 Q1 rfl #[.int .i64 a0_0,.int .i64 0,.int .i64 3] rfl Q84 ?_;(with_reducible refine (spec_l6In.calls a0_0 0 3 false _ A2.out).mono ?_);rintro e w' ⟨rfl,⟨nd,rfl⟩⟩;refine ⟨_,rfl,?_⟩))
  go_ret
  exact ⟨Q18,Q102⟩
def spec_RowsOk.l0 : Nat → List (S38) → Int → Option (Bool)
 | 0, _, _ => none
 | k + 1, x0, x3 => if x3 < (x0.length : Int) then (if 0 ≤ x3 then ((spec_l2Row.f ((rd_T38 x0 x3).f0) ((rd_T38 x0 x3).f1) ((rd_T38 x0 x3).f2.f0) ((rd_T38 x0 x3).f2.f1) ((rd_T38 x0 x3).f3)).bind fun t417 => (if t417 = true then (spec_RowsOk.l0 k x0 (wrap64 (x3 + 1))) else (some false))) else (none)) else (some true)
def spec_RowsOk.f (k : Nat) (l0 : List (S38)) : Option (Bool) := if (l0.length : Int) > 400 then (some false) else (spec_RowsOk.l0 k l0 0)
set_option maxHeartbeats 8000000 in
set_option maxRecDepth 100000 in
theorem spec_RowsOk.calls (k : Nat) (A0 : Option Addr) (c0 : Nat) (l0 : List (S38)) (r : Bool) (w : World) (hr0 : Kd.C k38 w A0 l0.length l0) (hc0 : l0.length ≤ c0) (h : spec_RowsOk.f k l0 = some r) :
  Calls Try.prog 20 #[.slice A0 l0.length c0] w fun e w'=>e = .returned (.bool r) ∧ Below w.heap.size w w':=by
 have hu38:=Try.underlying38
 have HR0:=Aside0.mk hr0
 have HC0:=Aside0.mk hc0
 clear hr0 hc0
 have HB:=am (Below.refl w.heap.size w)
 have H : (if (l0.length : Int) > 400 then (some false) else (spec_RowsOk.l0 k l0 0)) = some r:=h
 clear h
 by_cases c2 : (l0.length : Int) > 400
 ·rw [if_pos c2] at H
  have c2b0 : decide (400 < (l0.length : Int)) = true:=decide_eq_true c2
  have c2b1 : decide (400 < l0.length) = true:=decide_eq_true (by omega)
  clear c2
  obtain rfl:=Option.some.inj H
  go_enter Try.func20,Try.ntmps20
  go_wp2
  go_ret
  exact ⟨Q18,Q80⟩
 ·rw [if_neg c2] at H
  have c2b0 : decide (400 < (l0.length : Int)) = false:=decide_eq_false c2
  have c2b1 : decide (400 < l0.length) = false:=decide_eq_false (by omega)
  clear c2
  have H':=Aside0.mk H
  clear H
  go_enter Try.func20,Try.ntmps20
  go_wp2
  go_loopg [3] k (fun kq v3 w'=>∃ (x3_1 : Int),v3 = .int .i64 x3_1 ∧ Aside0 (spec_RowsOk.l0 kq l0 x3_1 = some r) ∧ Aside0 (kq ≤ k) ∧ Aside0 (Below w.heap.size w w'))
  case atStart=>exact ⟨(0),Q7,H',⟨Nat.le_refl _⟩,⟨Q80⟩⟩
  case round =>
   clear H'
   try clear c2
   try clear c2b0
   try clear c2b1
   try clear p2
   obtain ⟨x3_1,rfl,HA,HK1,HB⟩:=hrel
   cases gk with
   | zero=>exact absurd HA.out (by simp [spec_RowsOk.l0])
   | succ k1 =>
    have H:=HA.out
    clear HA
    simp only [spec_RowsOk.l0] at H
    by_cases c3 : x3_1 < (l0.length : Int)
    ·rw [if_pos c3] at H
     have c3b0 : decide (x3_1 < (l0.length : Int)) = true:=decide_eq_true c3
     clear c3
     have c4 : 0 ≤ x3_1:=nn_ H
     rw [if_pos c4] at H
     have c4b0 : decide (0 ≤ x3_1) = true:=decide_eq_true c4
     clear c4
     replace H:=Option.bind_eq_some_iff.mp H
     obtain ⟨t417,A50,H⟩:=H
     replace H : (if t417 = true then (spec_RowsOk.l0 k1 l0 (wrap64 (x3_1 + 1))) else (some false)) = some r:=H
     have A5:=Aside0.mk A50
     clear A50
     by_cases c6 : t417 = true
     ·subst c6
      have H1 : (spec_RowsOk.l0 k1 l0 (wrap64 (x3_1 + 1))) = some r:=by rw [if_pos rfl] at H;exact H
      clear H
      have H:=H1
      clear H1
      have H':=Aside0.mk H
      clear H
      have p416 : 0 ≤ (x3_1 : Int):=of_decide_eq_true Q8
      have q416 : x3_1 < (l0.length : Int):=of_decide_eq_true Q8
      obtain ⟨ad416,e416,hx416_0,hx416_1,hx416_2,hx416_3,hx416_4⟩:=at_T38 HR0.out x3_1 p416 q416
      cases e416
      replace hx416_0:=cb_ HB hx416_0
      replace hx416_1:=cb_ HB hx416_1
      replace hx416_2:=cb_ HB hx416_2
      replace hx416_3:=cb_ HB hx416_3
      replace hx416_4:=cb_ HB hx416_4
      replace p416:=eq_true p416
      replace q416:=eq_true q416
      go_wp2_with (first|((with_reducible refine gate_callee (f:=59) rfl ?_);refine goesL_ (some 17) rfl rfl Try.func59 Q1 rfl #[.agg #[.int .i64 ((rd_T38 l0 x3_1).f0),.int .i64 ((rd_T38 l0 x3_1).f1),.int .i64 ((rd_T38 l0 x3_1).f2.f0),.int .i64 ((rd_T38 l0 x3_1).f2.f1),.int .i64 ((rd_T38 l0 x3_1).f3)]] rfl Q84 ?_;(with_reducible refine (spec_l2Row.calls ((rd_T38 l0 x3_1).f0) ((rd_T38 l0 x3_1).f1) ((rd_T38 l0 x3_1).f2.f0) ((rd_T38 l0 x3_1).f2.f1) ((rd_T38 l0 x3_1).f3) true _ A5.out).mono ?_);rintro e w7 ⟨rfl,hb⟩;refine ⟨_,rfl,?_⟩;replace HB:=am (below_step Q80 hb);(try clear hb)))
      go_roundg k1
      case measure=>have:=HK1.out;omega
      case rel=>exact ⟨(wrap64 (x3_1 + 1)),Q7,H',⟨Q3⟩,⟨Q80⟩⟩
     ·replace c6:=Bool.eq_false_iff.mpr c6
      subst c6
      have H1 : (some false) = some r:=by rw [if_neg (show ¬ (false = true) by decide)] at H;exact H
      clear H
      have H:=H1
      clear H1
      obtain rfl:=Option.some.inj H
      have p416 : 0 ≤ (x3_1 : Int):=of_decide_eq_true Q8
      have q416 : x3_1 < (l0.length : Int):=of_decide_eq_true Q8
      obtain ⟨ad416,e416,hx416_0,hx416_1,hx416_2,hx416_3,hx416_4⟩:=at_T38 HR0.out x3_1 p416 q416
      cases e416
      replace hx416_0:=cb_ HB hx416_0
      replace hx416_1:=cb_ HB hx416_1
      replace hx416_2:=cb_ HB hx416_2
      replace hx416_3:=cb_ HB hx416_3
      replace hx416_4:=cb_ HB hx416_4
      replace p416:=eq_true p416
      replace q416:=eq_true q416
      go_wp2_with (first|((with_reducible refine gate_callee (f:=59) rfl ?_);refine goesL_ (some 17) rfl rfl Try.func59 Q1 rfl #[.agg #[.int .i64 ((rd_T38 l0 x3_1).f0),.int .i64 ((rd_T38 l0 x3_1).f1),.int .i64 ((rd_T38 l0 x3_1).f2.f0),.int .i64 ((rd_T38 l0 x3_1).f2.f1),.int .i64 ((rd_T38 l0 x3_1).f3)]] rfl Q84 ?_;(with_reducible refine (spec_l2Row.calls ((rd_T38 l0 x3_1).f0) ((rd_T38 l0 x3_1).f1) ((rd_T38 l0 x3_1).f2.f0) ((rd_T38 l0 x3_1).f2.f1) ((rd_T38 l0 x3_1).f3) false _ A5.out).mono ?_);rintro e w8 ⟨rfl,hb⟩;refine ⟨_,rfl,?_⟩;replace HB:=am (below_step Q80 hb);(try clear hb)))
      go_ret
      exact ⟨Q18,Q80⟩
    ·rw [if_neg c3] at H
     have c3b0 : decide (x3_1 < (l0.length : Int)) = false:=decide_eq_false c3
     clear c3
     obtain rfl:=Option.some.inj H
     go_wp2
     go_ret
     exact ⟨Q18,Q80⟩
def spec_FrontOk.l0 : Nat → List (S36) → Int → Option (Bool)
 | 0, _, _ => none
 | k + 1, x0, x3 => if x3 < (x0.length : Int) then (if 0 ≤ x3 then ((spec_TimeOk.f ((rd_T36 x0 x3).f0) ((rd_T36 x0 x3).f1)).bind fun t419 => (if t419 = true then (if x3 > 0 then (if 0 ≤ (wrap64 (x3 - 1)) then (if (wrap64 (x3 - 1)) < (x0.length : Int) then (if ((rd_T36 x0 (wrap64 (x3 - 1))).f0) ≥ ((rd_T36 x0 x3).f0) then (some false) else (if ((rd_T36 x0 (wrap64 (x3 - 1))).f1) ≤ ((rd_T36 x0 x3).f1) then (some false) else (spec_FrontOk.l0 k x0 (wrap64 (x3 + 1))))) else (none)) else (none)) else (spec_FrontOk.l0 k x0 (wrap64 (x3 + 1)))) else (some false))) else (none)) else (some true)
def spec_FrontOk.f (k : Nat) (l0 : List (S36)) : Option (Bool) := spec_FrontOk.l0 k l0 0
def spec_FrontOk.T4 : Bool × List (List Nat × List Nat) := (true, [([], []), ([], []), ([0, 1], [0, 1]), ([2], [2]), ([3], [3]), ([4], [4]), ([5, 4], [5]), ([6], [6]), ([7, 6], [6, 7]), ([8, 6, 6], [6, 8]), ([9], [9]), ([9], [9]), ([11, 9], [9, 11]), ([10, 12, 9], [9, 10, 12]), ([13, 9], [9, 13]), ([14, 9], [9, 14]), ([9], [9]), ([9], [9]), ([16, 17, 9], [9, 16, 17]), ([18, 9], [9, 18]), ([19, 9], [9, 19]), ([15, 20, 9], [9, 15, 20]), ([21, 9, 9], [9, 21]), ([22], [22]), ([22], [22]), ([24, 22], [22, 24]), ([23, 25, 22], [22, 23, 25]), ([26, 22], [22, 26]), ([27, 22], [22, 27]), ([22], [22]), ([22], [22]), ([29, 30, 22], [22, 29, 30]), ([31, 22], [22, 31]), ([32, 22], [22, 32]), ([28, 33, 22], [22, 28, 33]), ([22, 34, 9], [9, 22, 34]), ([9, 35, 6], [6, 9, 35]), ([6, 36], [6, 36])])
def spec_FrontOk.B4 : List Nat := [0, 0, 3, 7, 15, 31, 63, 127, 255, 511, 1023, 1023, 3071, 8191, 16383, 32767, 1023, 1023, 197631, 459775, 984063, 2097151, 4194303, 8388607, 8388607, 25165823, 67108863, 134217727, 268435455, 8388607, 8388607, 1619001343, 3766484991, 8061452287, 17179869183, 34359738367, 68719476735, 137438953471]
theorem spec_FrontOk.tab4 : rtab .any (opsOf Try.f21 4) = spec_FrontOk.T4:=by kernel_rfl
theorem spec_FrontOk.bits4 : waitsOk spec_FrontOk.T4.2 spec_FrontOk.B4 = true:=by kernel_rfl
end Go.Proofs.Ytjlkffmdmifahaa.PFnBatchMove
