/- Functions that the law comes to: each as a plain Lean function, with the contract of the Go function. -/
import Derived.Test.YtjlkffmdmifahaaVFnBatchTwicew
import Derived.Test.YtjlkffmdmifahaaVFnBatchTwicep0
import Derived.Test.YtjlkffmdmifahaaVFnBatchTwicep1
import Derived.Test.YtjlkffmdmifahaaVFnBatchTwicep2
import Derived.Test.YtjlkffmdmifahaaVFnBatchTwicep3
namespace Go.Proofs.Ytjlkffmdmifahaa.PFnBatchTwice
open Go.RowKit Go.Proofs.YtjlkffmdmifahaaW.PrintWords Go.Proofs.YtjlkffmdmifahaaW.PrintLast Go.Proofs.YtjlkffmdmifahaaW.PrintMore
attribute [local go_sem] max2_int min2_int max_two min_two max_three min_three max_four min_four
set_option linter.unusedVariables false
set_option linter.unusedSimpArgs false
attribute [local go_sem high] eqA38
set_option maxHeartbeats 8000000 in
set_option maxRecDepth 100000 in
theorem laws_FnBatchTwice.calls (k : Nat) (A0 : Option Addr) (c0 : Nat) (l0 : List Int) (r : Bool) (w : World) (hr0 : Kd.C (Kd.int .u8) w A0 l0.length l0) (hc0 : l0.length ≤ c0) (h : laws_FnBatchTwice.f k l0 = some r) (hr_ : r = true) :
  Calls Try.prog 8 #[.slice A0 l0.length c0] w fun e w' => e = .returned (.bool r) ∧ Below w.heap.size w w' := by
 have HR0 := Aside0.mk hr0
 have HC0 := Aside0.mk hc0
 clear hr0 hc0
 have HB := Aside0.mk (Below.refl w.heap.size w)
 have hq_ := Aside0.mk hr_
 clear hr_
 have H : (if (l0.length : Int) > 1048576 then (some true) else ((spec_DrawBatchOk.f k l0).bind fun t407 => ((impl_BatchOk.f k t407).bind fun t410 => ((impl_BatchOf.f k t407).bind fun t411 => ((spec_BatchOk.f k t407).bind fun t414 => (if (t410 != t414) = true then (laws_FnBatchTwice.j0 k t407 t410 t411 true) else ((spec_BatchOf.f k t407).bind fun t415 => ((laws_lwRows.f k t411 t415).bind fun t418 => (laws_FnBatchTwice.j0 k t407 t410 t411 (!t418)))))))))) = some r := h
 clear h
 by_cases c2 : (l0.length : Int) > 1048576
 ·rw [if_pos c2] at H
  have c2b0 : decide (1048576 < (l0.length : Int)) = true := decide_eq_true c2
  have c2b1 : decide (1048576 < l0.length) = true := decide_eq_true (by omega)
  clear c2
  obtain rfl := Option.some.inj H
  go_enter Try.func8, Try.ntmps8
  go_wp2
  go_ret
  exact ⟨Q33, Q35⟩
 ·rw [if_neg c2] at H
  have c2b0 : decide (1048576 < (l0.length : Int)) = false := decide_eq_false c2
  have c2b1 : decide (1048576 < l0.length) = false := decide_eq_false (by omega)
  clear c2
  replace H := Option.bind_eq_some_iff.mp H
  obtain ⟨t407, A30, H⟩ := H
  replace H : ((impl_BatchOk.f k t407).bind fun t410 => ((impl_BatchOf.f k t407).bind fun t411 => ((spec_BatchOk.f k t407).bind fun t414 => (if (t410 != t414) = true then (laws_FnBatchTwice.j0 k t407 t410 t411 true) else ((spec_BatchOf.f k t407).bind fun t415 => ((laws_lwRows.f k t411 t415).bind fun t418 => (laws_FnBatchTwice.j0 k t407 t410 t411 (!t418)))))))) = some r := H
  have A3 := Aside0.mk A30
  clear A30
  replace H := Option.bind_eq_some_iff.mp H
  obtain ⟨t410, A40, H⟩ := H
  replace H : ((impl_BatchOf.f k t407).bind fun t411 => ((spec_BatchOk.f k t407).bind fun t414 => (if (t410 != t414) = true then (laws_FnBatchTwice.j0 k t407 t410 t411 true) else ((spec_BatchOf.f k t407).bind fun t415 => ((laws_lwRows.f k t411 t415).bind fun t418 => (laws_FnBatchTwice.j0 k t407 t410 t411 (!t418))))))) = some r := H
  have A4 := Aside0.mk A40
  clear A40
  replace H := Option.bind_eq_some_iff.mp H
  obtain ⟨t411, A50, H⟩ := H
  replace H : ((spec_BatchOk.f k t407).bind fun t414 => (if (t410 != t414) = true then (laws_FnBatchTwice.j0 k t407 t410 t411 true) else ((spec_BatchOf.f k t407).bind fun t415 => ((laws_lwRows.f k t411 t415).bind fun t418 => (laws_FnBatchTwice.j0 k t407 t410 t411 (!t418)))))) = some r := H
  have A5 := Aside0.mk A50
  clear A50
  have HC6 := Aside0.mk H
  clear H
  go_enter Try.func8, Try.ntmps8
  go_upto_region 6 with (first | ((with_reducible refine gate_callee (f := 30) rfl ?_); refine goesL_ (some 10) rfl rfl Try.func30 Q2 rfl #[.slice A0 l0.length c0] rfl Q37 ?_; (with_reducible refine (spec_DrawBatchOk.calls k _ _ l0 t407 _ ?side1 ?side2 A3.out).mono ?_); (case side1 => exact Q41); (case side2 => exact HC0.out); rintro e w7 ⟨v408, rfl, ho0, hb⟩; refine ⟨_, rfl, ?_⟩; have n0_ := Aside0.mk (Kd.R_lower ho0 (below_size Q35)); have n1_ := Aside0.mk (below_step Q35 hb); clear HB; have HO409 := n0_; have HB := n1_; clear n0_ n1_; (try clear hb); (try clear hb2); (try clear hk); (try clear hi); (try clear ho0); obtain ⟨Ao8, co8, eo8⟩ := Kd.R_slice HO409.out; subst eo8) | ((with_reducible refine gate_callee (f := 24) rfl ?_); refine goesL_ (some 12) rfl rfl Try.func24 Q2 rfl #[.slice Ao8 t407.length co8] rfl Q37 ?_; (with_reducible refine (impl_BatchOk.calls k _ _ t407 t410 _ ?side1 ?side2 A4.out).mono ?_); (case side1 => exact Q56); (case side2 => exact (Kd.R_reads' HO409.out).2.1); rintro e w9 ⟨rfl, hb⟩; refine ⟨_, rfl, ?_⟩; have n0_ := Aside0.mk (Kd.R_below Q20 hb); have n1_ := Aside0.mk (below_step Q35 hb); clear HO409; clear HB; have HO409 := n0_; have HB := n1_; clear n0_ n1_; (try clear hb); (try clear hb2); (try clear hk); (try clear hi)) | ((with_reducible refine gate_callee (f := 26) rfl ?_); refine goesL_ (some 14) rfl rfl Try.func26 Q2 rfl #[.slice Ao8 t407.length co8] rfl Q37 ?_; (with_reducible refine (impl_BatchOf.calls k _ _ t407 t411 _ ?side1 ?side2 A5.out).mono ?_); (case side1 => exact Q56); (case side2 => exact (Kd.R_reads' HO409.out).2.1); rintro e w10 ⟨v412, rfl, ho0, hb⟩; refine ⟨_, rfl, ?_⟩; have n0_ := Aside0.mk (Kd.R_elder' Q20 (Kd.R_base ho0) hb); have n1_ := Aside0.mk (Kd.R_lower (Kd.R_new' ho0 (Kd.R_lt Q20)) (below_size Q35)); have n2_ := Aside0.mk (below_step Q35 hb); clear HO409; clear HB; have HO409 := n0_; have HO413 := n1_; have HB := n2_; clear n0_ n1_ n2_; (try clear hb); (try clear hb2); (try clear hk); (try clear hi); (try clear ho0)))
  (try simp only [Act.put, List.setIfInBounds_toArray, List.set_cons_zero, List.set_cons_succ])
  go_cut [25] (fun v25 wc => ∃ (kq : Nat) (x25_5 : Bool), v25 = .bool x25_5 ∧ Aside0 (laws_FnBatchTwice.j0 kq t407 t410 t411 x25_5 = some r) ∧ Aside0 (kq ≤ k) ∧ Aside0 (Kd.R k38 38 wc w.heap.size (fun k_ => some k_ ≠ (v412 : Value).ownBlock) (.slice Ao8 t407.length co8) t407) ∧ Aside0 (Kd.R k38 38 wc w.heap.size (fun k_ => some k_ ≠ ((.slice Ao8 t407.length co8) : Value).ownBlock) v412 t411) ∧ Aside0 (Below w.heap.size w wc))
  case first =>
   have H := HC6.out
   clear HC6
   replace H := Option.bind_eq_some_iff.mp H
   obtain ⟨t414, A110, H⟩ := H
   replace H : (if (t410 != t414) = true then (laws_FnBatchTwice.j0 k t407 t410 t411 true) else ((spec_BatchOf.f k t407).bind fun t415 => ((laws_lwRows.f k t411 t415).bind fun t418 => (laws_FnBatchTwice.j0 k t407 t410 t411 (!t418))))) = some r := H
   have A11 := Aside0.mk A110
   clear A110
   by_cases c12 : (t410 != t414) = true
   ·rw [if_pos c12] at H
    have c12b0 : (t410 != t414) = true := c12
    (try (have c12b1 : decide (t410 = t414) = false := by simpa using c12))
    (try (have c12b2 : (t410 == t414) = false := by simpa using c12))
    (try (have c12b3 : ¬ (t410 = t414) := by simpa using c12))
    clear c12
    (first | rw [c12b0] | (simp only [i64_w, i32_w]; rw [c12b0]) | skip)
    have H' := Aside0.mk H
    clear H
    go_wp2_with (first | ((with_reducible refine gate_callee (f := 31) rfl ?_); refine goesL_ (some 17) rfl rfl Try.func31 Q2 rfl #[.slice Ao8 t407.length co8] rfl Q37 ?_; (with_reducible refine (spec_BatchOk.calls k _ _ t407 t414 _ ?side1 ?side2 A11.out).mono ?_); (case side1 => exact Q56); (case side2 => exact (Kd.R_reads' HO409.out).2.1); rintro e w13 ⟨rfl, hb⟩; refine ⟨_, rfl, ?_⟩; have n0_ := Aside0.mk (Kd.R_below Q20 hb); have n1_ := Aside0.mk (Kd.R_below Q21 hb); have n2_ := Aside0.mk (below_step Q35 hb); clear HO409; clear HO413; clear HB; have HO409 := n0_; have HO413 := n1_; have HB := n2_; clear n0_ n1_ n2_; (try clear hb); (try clear hb2); (try clear hk); (try clear hi)))
    go_meet
    case rel => exact ⟨_, (true), Q6, H', ⟨Q4⟩, ⟨by (with_reducible repeat (first | apply Kd.R_alloc | apply Kd.R_drewN | apply Kd.R_drew)); exact Kd.R_mono HO409.out (fun _ hk => hk.2)⟩, ⟨by (with_reducible repeat (first | apply Kd.R_alloc | apply Kd.R_drewN | apply Kd.R_drew)); exact Kd.R_mono HO413.out (fun _ hk => hk.2)⟩, ⟨Q35⟩⟩
   ·rw [if_neg c12] at H
    have c12b0 : (t410 != t414) = false := by simpa using c12
    (try (have c12b1 : decide (t410 = t414) = true := by simpa using c12))
    (try (have c12b2 : (t410 == t414) = true := by simpa using c12))
    clear c12
    (first | rw [c12b0] | (simp only [i64_w, i32_w]; rw [c12b0]) | skip)
    replace H := Option.bind_eq_some_iff.mp H
    obtain ⟨t415, A140, H⟩ := H
    replace H : ((laws_lwRows.f k t411 t415).bind fun t418 => (laws_FnBatchTwice.j0 k t407 t410 t411 (!t418))) = some r := H
    have A14 := Aside0.mk A140
    clear A140
    replace H := Option.bind_eq_some_iff.mp H
    obtain ⟨t418, A150, H⟩ := H
    replace H : (laws_FnBatchTwice.j0 k t407 t410 t411 (!t418)) = some r := H
    have A15 := Aside0.mk A150
    clear A150
    have H' := Aside0.mk H
    clear H
    go_wp2_with (first | ((with_reducible refine gate_callee (f := 31) rfl ?_); refine goesL_ (some 17) rfl rfl Try.func31 Q2 rfl #[.slice Ao8 t407.length co8] rfl Q37 ?_; (with_reducible refine (spec_BatchOk.calls k _ _ t407 t414 _ ?side1 ?side2 A11.out).mono ?_); (case side1 => exact Q56); (case side2 => exact (Kd.R_reads' HO409.out).2.1); rintro e w16 ⟨rfl, hb⟩; refine ⟨_, rfl, ?_⟩; have n0_ := Aside0.mk (Kd.R_below Q20 hb); have n1_ := Aside0.mk (Kd.R_below Q21 hb); have n2_ := Aside0.mk (below_step Q35 hb); clear HO409; clear HO413; clear HB; have HO409 := n0_; have HO413 := n1_; have HB := n2_; clear n0_ n1_ n2_; (try clear hb); (try clear hb2); (try clear hk); (try clear hi)) | (go_at_call 27; (with_reducible refine (spec_BatchOf.calls k _ _ t407 t415 _ ?side1 ?side2 A14.out).mono ?_); (case side1 => exact Q56); (case side2 => exact (Kd.R_reads' HO409.out).2.1); rintro e w17 ⟨v416, rfl, ho0, hb⟩; have n0_ := Aside0.mk (Kd.R_elder' Q20 (Kd.R_base ho0) hb); have n1_ := Aside0.mk (Kd.R_elder' Q21 (Kd.R_base ho0) hb); have n2_ := Aside0.mk (Kd.R_lower (Kd.R_new' (Kd.R_new' ho0 (Kd.R_lt Q20)) (Kd.R_lt Q21)) (below_size Q35)); have n3_ := Aside0.mk (below_step Q35 hb); clear HO409; clear HO413; clear HB; have HO409 := n0_; have HO413 := n1_; have HO417 := n2_; have HB := n3_; clear n0_ n1_ n2_ n3_; (try clear hb); (try clear hb2); (try clear hk); (try clear hi); (try clear ho0); obtain ⟨Ao18, co18, eo18⟩ := Kd.R_slice HO413.out; subst eo18; obtain ⟨Ao19, co19, eo19⟩ := Kd.R_slice HO417.out; subst eo19) | (go_at_call 18; (with_reducible refine (laws_lwRows.calls k _ _ t411 _ _ t415 t418 _ ?side1 ?side2 ?side3 ?side4 A15.out).mono ?_); (case side1 => exact (by repeat (first | exact (Kd.R_reads' HO413.out).2.2 | (with_reducible refine Kd.C_alloc ?_ _) | (with_reducible refine Kd.C_drewN ?_ _) | (with_reducible refine Kd.C_drew ?_)))); (case side2 => exact (Kd.R_reads' HO413.out).2.1); (case side3 => exact (by repeat (first | exact (Kd.R_reads' HO417.out).2.2 | (with_reducible refine Kd.C_alloc ?_ _) | (with_reducible refine Kd.C_drewN ?_ _) | (with_reducible refine Kd.C_drew ?_)))); (case side4 => exact (Kd.R_reads' HO417.out).2.1); rintro e w' ⟨rfl, ⟨nd, rfl⟩⟩))
    go_meet
    case rel => exact ⟨_, (!t418), Q6, H', ⟨Q4⟩, ⟨by (with_reducible repeat (first | apply Kd.R_alloc | apply Kd.R_drewN | apply Kd.R_drew)); exact Kd.R_mono HO409.out (fun _ hk => hk.1.2)⟩, ⟨by (with_reducible repeat (first | apply Kd.R_alloc | apply Kd.R_drewN | apply Kd.R_drew)); exact Kd.R_mono HO413.out (fun _ hk => hk.1.2)⟩, ⟨Q35⟩⟩
  case rest =>
   clear HC6
   try clear c1
   try clear c2
   try clear c2b0
   try clear c2b1
   try clear p2
   try clear c3
   try clear c8
   try clear c12
   try clear c12b0
   try clear c12b1
   try clear c12b2
   obtain ⟨kq, x25_5, rfl, HA, HJ5, HO_3, HO_5, HB⟩ := hcut
   cases kq with
   | zero => exact absurd HA.out (by simp [laws_FnBatchTwice.j0])
   | succ kj5 =>
    have H := HA.out
    clear HA
    simp only [laws_FnBatchTwice.j0] at H
    by_cases c20 : x25_5 = true
    ·subst c20
     have H1 : (some false) = some r := by rw [if_pos rfl] at H; exact H
     clear H
     have H := H1
     clear H1
     exact absurd ((Option.some.inj H).trans hq_.out) Q1
    ·replace c20 := Bool.eq_false_iff.mpr c20
     subst c20
     have H1 : ((impl_BatchOf.f kj5 t411).bind fun t419 => ((laws_lwRows.f kj5 t419 t411).bind fun t422 => (if t422 = true then (if t410 = true then ((laws_lwRows.f kj5 t411 t407).bind fun t423 => (if t423 = true then (some true) else (some false))) else ((spec_RowsOk.f kj5 t407).bind fun t424 => (if t424 = true then ((laws_lwRows.f kj5 t411 t407).bind fun t425 => (some (!t425))) else (some true)))) else (some false)))) = some r := by rw [if_neg (show ¬ (false = true) by decide)] at H; exact H
     clear H
     have H := H1
     clear H1
     replace H := Option.bind_eq_some_iff.mp H
     obtain ⟨t419, A210, H⟩ := H
     replace H : ((laws_lwRows.f kj5 t419 t411).bind fun t422 => (if t422 = true then (if t410 = true then ((laws_lwRows.f kj5 t411 t407).bind fun t423 => (if t423 = true then (some true) else (some false))) else ((spec_RowsOk.f kj5 t407).bind fun t424 => (if t424 = true then ((laws_lwRows.f kj5 t411 t407).bind fun t425 => (some (!t425))) else (some true)))) else (some false))) = some r := H
     have A21 := Aside0.mk A210
     clear A210
     replace H := Option.bind_eq_some_iff.mp H
     obtain ⟨t422, A220, H⟩ := H
     replace H : (if t422 = true then (if t410 = true then ((laws_lwRows.f kj5 t411 t407).bind fun t423 => (if t423 = true then (some true) else (some false))) else ((spec_RowsOk.f kj5 t407).bind fun t424 => (if t424 = true then ((laws_lwRows.f kj5 t411 t407).bind fun t425 => (some (!t425))) else (some true)))) else (some false)) = some r := H
     have A22 := Aside0.mk A220
     clear A220
     by_cases c23 : t422 = true
     ·subst c23
      have H1 : (if t410 = true then ((laws_lwRows.f kj5 t411 t407).bind fun t423 => (if t423 = true then (some true) else (some false))) else ((spec_RowsOk.f kj5 t407).bind fun t424 => (if t424 = true then ((laws_lwRows.f kj5 t411 t407).bind fun t425 => (some (!t425))) else (some true)))) = some r := by rw [if_pos rfl] at H; exact H
      clear H
      have H := H1
      clear H1
      by_cases c24 : t410 = true
      ·subst c24
       have H1 : ((laws_lwRows.f kj5 t411 t407).bind fun t423 => (if t423 = true then (some true) else (some false))) = some r := by rw [if_pos rfl] at H; exact H
       clear H
       have H := H1
       clear H1
       replace H := Option.bind_eq_some_iff.mp H
       obtain ⟨t423, A250, H⟩ := H
       replace H : (if t423 = true then (some true) else (some false)) = some r := H
       have A25 := Aside0.mk A250
       clear A250
       by_cases c26 : t423 = true
       ·subst c26
        have H1 : (some true) = some r := by rw [if_pos rfl] at H; exact H
        clear H
        have H := H1
        clear H1
        obtain rfl := Option.some.inj H
        obtain ⟨Ao27, co27, eo27⟩ := Kd.R_slice HO_5.out
        subst eo27
        go_wp2_with (first | ((with_reducible refine gate_callee (f := 26) rfl ?_); refine goesL_ (some 27) rfl rfl Try.func26 Q2 rfl #[.slice Ao27 t411.length co27] rfl Q37 ?_; (with_reducible refine (impl_BatchOf.calls kj5 _ _ t411 t419 _ ?side1 ?side2 A21.out).mono ?_); (case side1 => exact Q53); (case side2 => exact (Kd.R_reads' HO_5.out).2.1); rintro e w28 ⟨v420, rfl, ho0, hb⟩; refine ⟨_, rfl, ?_⟩; have n0_ := Aside0.mk (Kd.R_elder' Q13 (Kd.R_base ho0) hb); have n1_ := Aside0.mk (Kd.R_elder' Q12 (Kd.R_base ho0) hb); have n2_ := Aside0.mk (Kd.R_lower (Kd.R_new' (Kd.R_new' ho0 (Kd.R_lt Q13)) (Kd.R_lt Q12)) (below_size Q35)); have n3_ := Aside0.mk (below_step Q35 hb); clear HO_3; clear HO_5; clear HB; have HO_3 := n0_; have HO_5 := n1_; have HO421 := n2_; have HB := n3_; clear n0_ n1_ n2_ n3_; (try clear hb); (try clear hb2); (try clear hk); (try clear hi); (try clear ho0); obtain ⟨Ao29, co29, eo29⟩ := Kd.R_slice HO421.out; subst eo29) | ((with_reducible refine gate_callee (f := 18) rfl ?_); refine goesL_ (some 29) rfl rfl Try.func18 Q2 rfl #[.slice Ao29 t419.length co29, .slice Ao27 t411.length co27] rfl Q37 ?_; (with_reducible refine (laws_lwRows.calls kj5 _ _ t419 _ _ t411 true _ ?side1 ?side2 ?side3 ?side4 A22.out).mono ?_); (case side1 => exact Q57); (case side2 => exact (Kd.R_reads' HO421.out).2.1); (case side3 => exact Q53); (case side4 => exact (Kd.R_reads' HO_5.out).2.1); rintro e w' ⟨rfl, ⟨nd, rfl⟩⟩; refine ⟨_, rfl, ?_⟩) | (go_at_call 18; (with_reducible refine (laws_lwRows.calls kj5 _ _ t411 _ _ t407 true _ ?side1 ?side2 ?side3 ?side4 A25.out).mono ?_); (case side1 => exact Q53); (case side2 => exact (Kd.R_reads' HO_5.out).2.1); (case side3 => exact Q52); (case side4 => exact (Kd.R_reads' HO_3.out).2.1); rintro e w' ⟨rfl, ⟨nd, rfl⟩⟩))
        go_ret
        exact ⟨Q33, Q35⟩
       ·replace c26 := Bool.eq_false_iff.mpr c26
        subst c26
        have H1 : (some false) = some r := by rw [if_neg (show ¬ (false = true) by decide)] at H; exact H
        clear H
        have H := H1
        clear H1
        exact absurd ((Option.some.inj H).trans hq_.out) Q1
      ·replace c24 := Bool.eq_false_iff.mpr c24
       subst c24
       have H1 : ((spec_RowsOk.f kj5 t407).bind fun t424 => (if t424 = true then ((laws_lwRows.f kj5 t411 t407).bind fun t425 => (some (!t425))) else (some true))) = some r := by rw [if_neg (show ¬ (false = true) by decide)] at H; exact H
       clear H
       have H := H1
       clear H1
       replace H := Option.bind_eq_some_iff.mp H
       obtain ⟨t424, A300, H⟩ := H
       replace H : (if t424 = true then ((laws_lwRows.f kj5 t411 t407).bind fun t425 => (some (!t425))) else (some true)) = some r := H
       have A30 := Aside0.mk A300
       clear A300
       by_cases c31 : t424 = true
       ·subst c31
        have H1 : ((laws_lwRows.f kj5 t411 t407).bind fun t425 => (some (!t425))) = some r := by rw [if_pos rfl] at H; exact H
        clear H
        have H := H1
        clear H1
        replace H := Option.bind_eq_some_iff.mp H
        obtain ⟨t425, A320, H⟩ := H
        replace H : (some (!t425)) = some r := H
        have A32 := Aside0.mk A320
        clear A320
        obtain rfl := Option.some.inj H
        obtain ⟨Ao33, co33, eo33⟩ := Kd.R_slice HO_5.out
        subst eo33
        go_wp2_with (first | ((with_reducible refine gate_callee (f := 26) rfl ?_); refine goesL_ (some 27) rfl rfl Try.func26 Q2 rfl #[.slice Ao33 t411.length co33] rfl Q37 ?_; (with_reducible refine (impl_BatchOf.calls kj5 _ _ t411 t419 _ ?side1 ?side2 A21.out).mono ?_); (case side1 => exact Q53); (case side2 => exact (Kd.R_reads' HO_5.out).2.1); rintro e w34 ⟨v420, rfl, ho0, hb⟩; refine ⟨_, rfl, ?_⟩; have n0_ := Aside0.mk (Kd.R_elder' Q13 (Kd.R_base ho0) hb); have n1_ := Aside0.mk (Kd.R_elder' Q12 (Kd.R_base ho0) hb); have n2_ := Aside0.mk (Kd.R_lower (Kd.R_new' (Kd.R_new' ho0 (Kd.R_lt Q13)) (Kd.R_lt Q12)) (below_size Q35)); have n3_ := Aside0.mk (below_step Q35 hb); clear HO_3; clear HO_5; clear HB; have HO_3 := n0_; have HO_5 := n1_; have HO421 := n2_; have HB := n3_; clear n0_ n1_ n2_ n3_; (try clear hb); (try clear hb2); (try clear hk); (try clear hi); (try clear ho0); obtain ⟨Ao35, co35, eo35⟩ := Kd.R_slice HO421.out; subst eo35) | ((with_reducible refine gate_callee (f := 18) rfl ?_); refine goesL_ (some 29) rfl rfl Try.func18 Q2 rfl #[.slice Ao35 t419.length co35, .slice Ao33 t411.length co33] rfl Q37 ?_; (with_reducible refine (laws_lwRows.calls kj5 _ _ t419 _ _ t411 true _ ?side1 ?side2 ?side3 ?side4 A22.out).mono ?_); (case side1 => exact Q57); (case side2 => exact (Kd.R_reads' HO421.out).2.1); (case side3 => exact Q53); (case side4 => exact (Kd.R_reads' HO_5.out).2.1); rintro e w' ⟨rfl, ⟨nd, rfl⟩⟩; refine ⟨_, rfl, ?_⟩) | (go_at_call 20; (with_reducible refine (spec_RowsOk.calls kj5 _ _ t407 true _ ?side1 ?side2 A30.out).mono ?_); (case side1 => exact Q52); (case side2 => exact (Kd.R_reads' HO_3.out).2.1); rintro e w36 ⟨rfl, hb⟩; have n0_ := Aside0.mk (Kd.R_below Q13 hb); have n1_ := Aside0.mk (Kd.R_below Q12 hb); have n2_ := Aside0.mk (Kd.R_below (by (with_reducible repeat (first | apply Kd.R_alloc | apply Kd.R_drewN | apply Kd.R_drew)); exact HO421.out) hb); have n3_ := Aside0.mk (below_step Q35 hb); clear HO_3; clear HO_5; clear HO421; clear HB; have HO_3 := n0_; have HO_5 := n1_; have HO421 := n2_; have HB := n3_; clear n0_ n1_ n2_ n3_; (try clear hb); (try clear hb2); (try clear hk); (try clear hi)) | (go_at_call 18; (with_reducible refine (laws_lwRows.calls kj5 _ _ t411 _ _ t407 t425 _ ?side1 ?side2 ?side3 ?side4 A32.out).mono ?_); (case side1 => exact Q53); (case side2 => exact (Kd.R_reads' HO_5.out).2.1); (case side3 => exact Q52); (case side4 => exact (Kd.R_reads' HO_3.out).2.1); rintro e w' ⟨rfl, ⟨nd, rfl⟩⟩))
        go_ret
        exact ⟨Q33, Q35⟩
       ·replace c31 := Bool.eq_false_iff.mpr c31
        subst c31
        have H1 : (some true) = some r := by rw [if_neg (show ¬ (false = true) by decide)] at H; exact H
        clear H
        have H := H1
        clear H1
        obtain rfl := Option.some.inj H
        obtain ⟨Ao37, co37, eo37⟩ := Kd.R_slice HO_5.out
        subst eo37
        go_wp2_with (first | ((with_reducible refine gate_callee (f := 26) rfl ?_); refine goesL_ (some 27) rfl rfl Try.func26 Q2 rfl #[.slice Ao37 t411.length co37] rfl Q37 ?_; (with_reducible refine (impl_BatchOf.calls kj5 _ _ t411 t419 _ ?side1 ?side2 A21.out).mono ?_); (case side1 => exact Q53); (case side2 => exact (Kd.R_reads' HO_5.out).2.1); rintro e w38 ⟨v420, rfl, ho0, hb⟩; refine ⟨_, rfl, ?_⟩; have n0_ := Aside0.mk (Kd.R_elder' Q13 (Kd.R_base ho0) hb); have n1_ := Aside0.mk (Kd.R_elder' Q12 (Kd.R_base ho0) hb); have n2_ := Aside0.mk (Kd.R_lower (Kd.R_new' (Kd.R_new' ho0 (Kd.R_lt Q13)) (Kd.R_lt Q12)) (below_size Q35)); have n3_ := Aside0.mk (below_step Q35 hb); clear HO_3; clear HO_5; clear HB; have HO_3 := n0_; have HO_5 := n1_; have HO421 := n2_; have HB := n3_; clear n0_ n1_ n2_ n3_; (try clear hb); (try clear hb2); (try clear hk); (try clear hi); (try clear ho0); obtain ⟨Ao39, co39, eo39⟩ := Kd.R_slice HO421.out; subst eo39) | ((with_reducible refine gate_callee (f := 18) rfl ?_); refine goesL_ (some 29) rfl rfl Try.func18 Q2 rfl #[.slice Ao39 t419.length co39, .slice Ao37 t411.length co37] rfl Q37 ?_; (with_reducible refine (laws_lwRows.calls kj5 _ _ t419 _ _ t411 true _ ?side1 ?side2 ?side3 ?side4 A22.out).mono ?_); (case side1 => exact Q57); (case side2 => exact (Kd.R_reads' HO421.out).2.1); (case side3 => exact Q53); (case side4 => exact (Kd.R_reads' HO_5.out).2.1); rintro e w' ⟨rfl, ⟨nd, rfl⟩⟩; refine ⟨_, rfl, ?_⟩) | (go_at_call 20; (with_reducible refine (spec_RowsOk.calls kj5 _ _ t407 false _ ?side1 ?side2 A30.out).mono ?_); (case side1 => exact Q52); (case side2 => exact (Kd.R_reads' HO_3.out).2.1); rintro e w40 ⟨rfl, hb⟩; have n0_ := Aside0.mk (Kd.R_below Q13 hb); have n1_ := Aside0.mk (Kd.R_below Q12 hb); have n2_ := Aside0.mk (Kd.R_below (by (with_reducible repeat (first | apply Kd.R_alloc | apply Kd.R_drewN | apply Kd.R_drew)); exact HO421.out) hb); have n3_ := Aside0.mk (below_step Q35 hb); clear HO_3; clear HO_5; clear HO421; clear HB; have HO_3 := n0_; have HO_5 := n1_; have HO421 := n2_; have HB := n3_; clear n0_ n1_ n2_ n3_; (try clear hb); (try clear hb2); (try clear hk); (try clear hi)))
        go_ret
        exact ⟨Q33, Q35⟩
     ·replace c23 := Bool.eq_false_iff.mpr c23
      subst c23
      have H1 : (some false) = some r := by rw [if_neg (show ¬ (false = true) by decide)] at H; exact H
      clear H
      have H := H1
      clear H1
      exact absurd ((Option.some.inj H).trans hq_.out) Q1
noncomputable def laws_FnBatchTwice.Pure : Prop := ∀ (l0 : List Int), l0.length ≤ maxLen → l0.length * 1 ≤ 140737488351232 → (∀ x ∈ l0, (Lit.int .u8 x).wf = true) → ∃ k, laws_FnBatchTwice.f k l0 = some true
end Go.Proofs.Ytjlkffmdmifahaa.PFnBatchTwice
