/- Functions that the law comes to: each as a plain Lean function, with the contract of the Go function. -/
import Derived.Test.YtjlkffmdmifahaaVFnBatchTurnw
import Derived.Test.YtjlkffmdmifahaaVFnBatchTurnp0
import Derived.Test.YtjlkffmdmifahaaVFnBatchTurnp1
import Derived.Test.YtjlkffmdmifahaaVFnBatchTurnp3
namespace Go.Proofs.Ytjlkffmdmifahaa.PFnBatchTurn
open Go.RowKit Go.Proofs.YtjlkffmdmifahaaW.PrintWords Go.Proofs.YtjlkffmdmifahaaW.PrintLast Go.Proofs.YtjlkffmdmifahaaW.PrintMore
attribute [local go_sem] max2_int min2_int max_two min_two max_three min_three max_four min_four
set_option linter.unusedVariables false
set_option linter.unusedSimpArgs false
attribute [local go_sem high] eqA38
set_option maxHeartbeats 8000000 in
set_option maxRecDepth 100000 in
theorem laws_FnBatchTurn.calls (k : Nat) (A0 : Option Addr) (c0 : Nat) (l0 : List Int) (r : Bool) (w : World) (hr0 : Kd.C (Kd.int .u8) w A0 l0.length l0) (hc0 : l0.length ≤ c0) (h : laws_FnBatchTurn.f k l0 = some r) (hr_ : r = true) :
  Calls Try.prog 7 #[.slice A0 l0.length c0] w fun e w' => e = .returned (.bool r) ∧ Below w.heap.size w w' := by
 have HR0 := Aside0.mk hr0
 have HC0 := Aside0.mk hc0
 clear hr0 hc0
 have HB := Aside0.mk (Below.refl w.heap.size w)
 have hq_ := Aside0.mk hr_
 clear hr_
 have H : (if (l0.length : Int) > 1048576 then (some true) else ((spec_DrawBatchBoth.f k l0).bind fun bt412 => ((impl_BatchBoth.f k bt412.1 bt412.2).bind fun t418 => ((spec_BatchBoth.f k bt412.1 bt412.2).bind fun t421 => ((laws_lwRows.f k t418 t421).bind fun t424 => (if t424 = true then ((impl_BatchBoth.f k bt412.2 bt412.1).bind fun t425 => ((laws_lwRows.f k t425 t418).bind fun t428 => (if t428 = true then ((impl_BatchBoth.f k bt412.1 ([] : List (S38))).bind fun t429 => ((impl_BatchOf.f k bt412.1).bind fun t432 => ((laws_lwRows.f k t429 t432).bind fun t435 => (some t435)))) else (some false)))) else (some false))))))) = some r := h
 clear h
 by_cases c2 : (l0.length : Int) > 1048576
 ·rw [if_pos c2] at H
  have c2b0 : decide (1048576 < (l0.length : Int)) = true := decide_eq_true c2
  have c2b1 : decide (1048576 < l0.length) = true := decide_eq_true (by omega)
  clear c2
  obtain rfl := Option.some.inj H
  go_enter Try.func7, Try.ntmps7
  go_wp2
  go_ret
  exact ⟨by first | rfl | (rw [hq_.out]; done) | (simp [errW_none, errW_some] <;> rfl) | (simp [*, errW_none, errW_some] <;> rfl), Q37⟩
 ·rw [if_neg c2] at H
  have c2b0 : decide (1048576 < (l0.length : Int)) = false := decide_eq_false c2
  have c2b1 : decide (1048576 < l0.length) = false := decide_eq_false (by omega)
  clear c2
  replace H := Option.bind_eq_some_iff.mp H
  obtain ⟨⟨t412, t413⟩, A30, H⟩ := H
  replace H : ((impl_BatchBoth.f k t412 t413).bind fun t418 => ((spec_BatchBoth.f k t412 t413).bind fun t421 => ((laws_lwRows.f k t418 t421).bind fun t424 => (if t424 = true then ((impl_BatchBoth.f k t413 t412).bind fun t425 => ((laws_lwRows.f k t425 t418).bind fun t428 => (if t428 = true then ((impl_BatchBoth.f k t412 ([] : List (S38))).bind fun t429 => ((impl_BatchOf.f k t412).bind fun t432 => ((laws_lwRows.f k t429 t432).bind fun t435 => (some t435)))) else (some false)))) else (some false))))) = some r := H
  have A3 := Aside0.mk A30
  clear A30
  replace H := Option.bind_eq_some_iff.mp H
  obtain ⟨t418, A40, H⟩ := H
  replace H : ((spec_BatchBoth.f k t412 t413).bind fun t421 => ((laws_lwRows.f k t418 t421).bind fun t424 => (if t424 = true then ((impl_BatchBoth.f k t413 t412).bind fun t425 => ((laws_lwRows.f k t425 t418).bind fun t428 => (if t428 = true then ((impl_BatchBoth.f k t412 ([] : List (S38))).bind fun t429 => ((impl_BatchOf.f k t412).bind fun t432 => ((laws_lwRows.f k t429 t432).bind fun t435 => (some t435)))) else (some false)))) else (some false)))) = some r := H
  have A4 := Aside0.mk A40
  clear A40
  replace H := Option.bind_eq_some_iff.mp H
  obtain ⟨t421, A50, H⟩ := H
  replace H : ((laws_lwRows.f k t418 t421).bind fun t424 => (if t424 = true then ((impl_BatchBoth.f k t413 t412).bind fun t425 => ((laws_lwRows.f k t425 t418).bind fun t428 => (if t428 = true then ((impl_BatchBoth.f k t412 ([] : List (S38))).bind fun t429 => ((impl_BatchOf.f k t412).bind fun t432 => ((laws_lwRows.f k t429 t432).bind fun t435 => (some t435)))) else (some false)))) else (some false))) = some r := H
  have A5 := Aside0.mk A50
  clear A50
  replace H := Option.bind_eq_some_iff.mp H
  obtain ⟨t424, A60, H⟩ := H
  replace H : (if t424 = true then ((impl_BatchBoth.f k t413 t412).bind fun t425 => ((laws_lwRows.f k t425 t418).bind fun t428 => (if t428 = true then ((impl_BatchBoth.f k t412 ([] : List (S38))).bind fun t429 => ((impl_BatchOf.f k t412).bind fun t432 => ((laws_lwRows.f k t429 t432).bind fun t435 => (some t435)))) else (some false)))) else (some false)) = some r := H
  have A6 := Aside0.mk A60
  clear A60
  by_cases c7 : t424 = true
  ·subst c7
   have H1 : ((impl_BatchBoth.f k t413 t412).bind fun t425 => ((laws_lwRows.f k t425 t418).bind fun t428 => (if t428 = true then ((impl_BatchBoth.f k t412 ([] : List (S38))).bind fun t429 => ((impl_BatchOf.f k t412).bind fun t432 => ((laws_lwRows.f k t429 t432).bind fun t435 => (some t435)))) else (some false)))) = some r := by rw [if_pos rfl] at H; exact H
   clear H
   have H := H1
   clear H1
   replace H := Option.bind_eq_some_iff.mp H
   obtain ⟨t425, A80, H⟩ := H
   replace H : ((laws_lwRows.f k t425 t418).bind fun t428 => (if t428 = true then ((impl_BatchBoth.f k t412 ([] : List (S38))).bind fun t429 => ((impl_BatchOf.f k t412).bind fun t432 => ((laws_lwRows.f k t429 t432).bind fun t435 => (some t435)))) else (some false))) = some r := H
   have A8 := Aside0.mk A80
   clear A80
   replace H := Option.bind_eq_some_iff.mp H
   obtain ⟨t428, A90, H⟩ := H
   replace H : (if t428 = true then ((impl_BatchBoth.f k t412 ([] : List (S38))).bind fun t429 => ((impl_BatchOf.f k t412).bind fun t432 => ((laws_lwRows.f k t429 t432).bind fun t435 => (some t435)))) else (some false)) = some r := H
   have A9 := Aside0.mk A90
   clear A90
   by_cases c10 : t428 = true
   ·subst c10
    have H1 : ((impl_BatchBoth.f k t412 ([] : List (S38))).bind fun t429 => ((impl_BatchOf.f k t412).bind fun t432 => ((laws_lwRows.f k t429 t432).bind fun t435 => (some t435)))) = some r := by rw [if_pos rfl] at H; exact H
    clear H
    have H := H1
    clear H1
    replace H := Option.bind_eq_some_iff.mp H
    obtain ⟨t429, A110, H⟩ := H
    replace H : ((impl_BatchOf.f k t412).bind fun t432 => ((laws_lwRows.f k t429 t432).bind fun t435 => (some t435))) = some r := H
    have A11 := Aside0.mk A110
    clear A110
    replace H := Option.bind_eq_some_iff.mp H
    obtain ⟨t432, A120, H⟩ := H
    replace H : ((laws_lwRows.f k t429 t432).bind fun t435 => (some t435)) = some r := H
    have A12 := Aside0.mk A120
    clear A120
    replace H := Option.bind_eq_some_iff.mp H
    obtain ⟨t435, A130, H⟩ := H
    replace H : (some t435) = some r := H
    have A13 := Aside0.mk A130
    clear A130
    obtain rfl := Option.some.inj H
    go_enter Try.func7, Try.ntmps7
    go_wp2_with (first | ((with_reducible refine gate_callee (f := 28) rfl ?_); refine goesL_ (some 11) rfl rfl Try.func28 Q2 rfl #[.slice A0 l0.length c0] rfl Q39 ?_; (with_reducible refine (spec_DrawBatchBoth.calls k _ _ l0 t412 t413 _ ?side1 ?side2 A3.out).mono ?_); (case side1 => exact Q44); (case side2 => exact HC0.out); rintro e w14 ⟨v414, v416, rfl, ho0, ho1, hb⟩; refine ⟨_, rfl, ?_⟩; have n0_ := Aside0.mk (Kd.R_lower ho0 (below_size Q37)); have n1_ := Aside0.mk (Kd.R_lower ho1 (below_size Q37)); have n2_ := Aside0.mk (below_step Q37 hb); clear HB; have HO415 := n0_; have HO417 := n1_; have HB := n2_; clear n0_ n1_ n2_; (try clear hb); (try clear hb2); (try clear hk); (try clear hi); (try clear ho0); (try clear ho1); obtain ⟨Ao15, co15, eo15⟩ := Kd.R_slice HO415.out; subst eo15; obtain ⟨Ao16, co16, eo16⟩ := Kd.R_slice HO417.out; subst eo16) | ((with_reducible refine gate_callee (f := 22) rfl ?_); refine goesL_ (some 16) rfl rfl Try.func22 Q2 rfl #[.slice Ao15 t412.length co15, .slice Ao16 t413.length co16] rfl Q39 ?_; (with_reducible refine (impl_BatchBoth.calls k _ _ t412 _ _ t413 t418 _ ?side1 ?side2 ?side3 ?side4 A4.out).mono ?_); (case side1 => exact Q57); (case side2 => exact (Kd.R_reads' HO415.out).2.1); (case side3 => exact Q58); (case side4 => exact (Kd.R_reads' HO417.out).2.1); rintro e w17 ⟨v419, rfl, ho0, hb⟩; refine ⟨_, rfl, ?_⟩; have n0_ := Aside0.mk (Kd.R_elder' Q20 (Kd.R_base ho0) hb); have n1_ := Aside0.mk (Kd.R_elder' Q21 (Kd.R_base ho0) hb); have n2_ := Aside0.mk (Kd.R_lower (Kd.R_new' (Kd.R_new' ho0 (Kd.R_lt Q20)) (Kd.R_lt Q21)) (below_size Q37)); have n3_ := Aside0.mk (below_step Q37 hb); clear HO415; clear HO417; clear HB; have HO415 := n0_; have HO417 := n1_; have HO420 := n2_; have HB := n3_; clear n0_ n1_ n2_ n3_; (try clear hb); (try clear hb2); (try clear hk); (try clear hi); (try clear ho0)) | ((with_reducible refine gate_callee (f := 29) rfl ?_); refine goesL_ (some 20) rfl rfl Try.func29 Q2 rfl #[.slice Ao15 t412.length co15, .slice Ao16 t413.length co16] rfl Q39 ?_; (with_reducible refine (spec_BatchBoth.calls k _ _ t412 _ _ t413 t421 _ ?side1 ?side2 ?side3 ?side4 A5.out).mono ?_); (case side1 => exact Q57); (case side2 => exact (Kd.R_reads' HO415.out).2.1); (case side3 => exact Q58); (case side4 => exact (Kd.R_reads' HO417.out).2.1); rintro e w18 ⟨v422, rfl, ho0, hb⟩; refine ⟨_, rfl, ?_⟩; have n0_ := Aside0.mk (Kd.R_elder' Q20 (Kd.R_base ho0) hb); have n1_ := Aside0.mk (Kd.R_elder' Q21 (Kd.R_base ho0) hb); have n2_ := Aside0.mk (Kd.R_elder' Q22 (Kd.R_base ho0) hb); have n3_ := Aside0.mk (Kd.R_lower (Kd.R_new' (Kd.R_new' (Kd.R_new' ho0 (Kd.R_lt Q20)) (Kd.R_lt Q21)) (Kd.R_lt Q22)) (below_size Q37)); have n4_ := Aside0.mk (below_step Q37 hb); clear HO415; clear HO417; clear HO420; clear HB; have HO415 := n0_; have HO417 := n1_; have HO420 := n2_; have HO423 := n3_; have HB := n4_; clear n0_ n1_ n2_ n3_ n4_; (try clear hb); (try clear hb2); (try clear hk); (try clear hi); (try clear ho0); obtain ⟨Ao19, co19, eo19⟩ := Kd.R_slice HO420.out; subst eo19; obtain ⟨Ao20, co20, eo20⟩ := Kd.R_slice HO423.out; subst eo20) | ((with_reducible refine gate_callee (f := 18) rfl ?_); refine goesL_ (some 21) rfl rfl Try.func18 Q2 rfl #[.slice Ao19 t418.length co19, .slice Ao20 t421.length co20] rfl Q39 ?_; (with_reducible refine (laws_lwRows.calls k _ _ t418 _ _ t421 true _ ?side1 ?side2 ?side3 ?side4 A6.out).mono ?_); (case side1 => exact (by repeat (first | exact (Kd.R_reads' HO420.out).2.2 | (with_reducible refine Kd.C_alloc ?_ _) | (with_reducible refine Kd.C_drewN ?_ _) | (with_reducible refine Kd.C_drew ?_)))); (case side2 => exact (Kd.R_reads' HO420.out).2.1); (case side3 => exact (by repeat (first | exact (Kd.R_reads' HO423.out).2.2 | (with_reducible refine Kd.C_alloc ?_ _) | (with_reducible refine Kd.C_drewN ?_ _) | (with_reducible refine Kd.C_drew ?_)))); (case side4 => exact (Kd.R_reads' HO423.out).2.1); rintro e w' ⟨rfl, ⟨nd, rfl⟩⟩; refine ⟨_, rfl, ?_⟩) | (go_at_call 22; (with_reducible refine (impl_BatchBoth.calls k _ _ t413 _ _ t412 t425 _ ?side1 ?side2 ?side3 ?side4 A8.out).mono ?_); (case side1 => exact Q58); (case side2 => exact (Kd.R_reads' HO417.out).2.1); (case side3 => exact Q57); (case side4 => exact (Kd.R_reads' HO415.out).2.1); rintro e w21 ⟨v426, rfl, ho0, hb⟩; have n0_ := Aside0.mk (Kd.R_elder' Q20 (Kd.R_base ho0) hb); have n1_ := Aside0.mk (Kd.R_elder' Q21 (Kd.R_base ho0) hb); have n2_ := Aside0.mk (Kd.R_elder' Q22 (Kd.R_base ho0) hb); have n3_ := Aside0.mk (Kd.R_elder' Q23 (Kd.R_base ho0) hb); have n4_ := Aside0.mk (Kd.R_lower (Kd.R_new' (Kd.R_new' (Kd.R_new' (Kd.R_new' ho0 (Kd.R_lt Q20)) (Kd.R_lt Q21)) (Kd.R_lt Q22)) (Kd.R_lt Q23)) (below_size Q37)); have n5_ := Aside0.mk (below_step Q37 hb); clear HO415; clear HO417; clear HO420; clear HO423; clear HB; have HO415 := n0_; have HO417 := n1_; have HO420 := n2_; have HO423 := n3_; have HO427 := n4_; have HB := n5_; clear n0_ n1_ n2_ n3_ n4_ n5_; (try clear hb); (try clear hb2); (try clear hk); (try clear hi); (try clear ho0); obtain ⟨Ao22, co22, eo22⟩ := Kd.R_slice HO427.out; subst eo22) | (go_at_call 18; (with_reducible refine (laws_lwRows.calls k _ _ t425 _ _ t418 true _ ?side1 ?side2 ?side3 ?side4 A9.out).mono ?_); (case side1 => exact (by repeat (first | exact (Kd.R_reads' HO427.out).2.2 | (with_reducible refine Kd.C_alloc ?_ _) | (with_reducible refine Kd.C_drewN ?_ _) | (with_reducible refine Kd.C_drew ?_)))); (case side2 => exact (Kd.R_reads' HO427.out).2.1); (case side3 => exact (by repeat (first | exact (Kd.R_reads' HO420.out).2.2 | (with_reducible refine Kd.C_alloc ?_ _) | (with_reducible refine Kd.C_drewN ?_ _) | (with_reducible refine Kd.C_drew ?_)))); (case side4 => exact (Kd.R_reads' HO420.out).2.1); rintro e w' ⟨rfl, ⟨nd, rfl⟩⟩) | (go_at_call 22; (refine (impl_BatchBoth.calls k _ _ t412 _ _ ([] : List (S38)) t429 _ ?side1 ?side2 ?side3 ?side4 A11.out).mono ?_); (case side1 => exact Q57); (case side2 => exact (Kd.R_reads' HO415.out).2.1); (case side3 => exact Kd.C_nil _ _); (case side4 => exact Nat.le_refl _); rintro e w23 ⟨v430, rfl, ho0, hb⟩; have n0_ := Aside0.mk (Kd.R_elder' Q20 (Kd.R_base ho0) hb); have n1_ := Aside0.mk (Kd.R_elder' Q21 (Kd.R_base ho0) hb); have n2_ := Aside0.mk (Kd.R_elder' Q22 (Kd.R_base ho0) hb); have n3_ := Aside0.mk (Kd.R_elder' Q23 (Kd.R_base ho0) hb); have n4_ := Aside0.mk (Kd.R_elder' Q24 (Kd.R_base ho0) hb); have n5_ := Aside0.mk (Kd.R_lower (Kd.R_new' (Kd.R_new' (Kd.R_new' (Kd.R_new' (Kd.R_new' ho0 (Kd.R_lt Q20)) (Kd.R_lt Q21)) (Kd.R_lt Q22)) (Kd.R_lt Q23)) (Kd.R_lt Q24)) (below_size Q37)); have n6_ := Aside0.mk (below_step Q37 hb); clear HO415; clear HO417; clear HO420; clear HO423; clear HO427; clear HB; have HO415 := n0_; have HO417 := n1_; have HO420 := n2_; have HO423 := n3_; have HO427 := n4_; have HO431 := n5_; have HB := n6_; clear n0_ n1_ n2_ n3_ n4_ n5_ n6_; (try clear hb); (try clear hb2); (try clear hk); (try clear hi); (try clear ho0)) | (go_at_call 26; (with_reducible refine (impl_BatchOf.calls k _ _ t412 t432 _ ?side1 ?side2 A12.out).mono ?_); (case side1 => exact Q57); (case side2 => exact (Kd.R_reads' HO415.out).2.1); rintro e w24 ⟨v433, rfl, ho0, hb⟩; have n0_ := Aside0.mk (Kd.R_elder' Q20 (Kd.R_base ho0) hb); have n1_ := Aside0.mk (Kd.R_elder' Q21 (Kd.R_base ho0) hb); have n2_ := Aside0.mk (Kd.R_elder' Q22 (Kd.R_base ho0) hb); have n3_ := Aside0.mk (Kd.R_elder' Q23 (Kd.R_base ho0) hb); have n4_ := Aside0.mk (Kd.R_elder' Q24 (Kd.R_base ho0) hb); have n5_ := Aside0.mk (Kd.R_elder' (by (with_reducible repeat (first | apply Kd.R_alloc | apply Kd.R_drewN | apply Kd.R_drew)); exact HO431.out) (Kd.R_base ho0) hb); have n6_ := Aside0.mk (Kd.R_lower (Kd.R_new' (Kd.R_new' (Kd.R_new' (Kd.R_new' (Kd.R_new' (Kd.R_new' ho0 (Kd.R_lt Q20)) (Kd.R_lt Q21)) (Kd.R_lt Q22)) (Kd.R_lt Q23)) (Kd.R_lt Q24)) (Kd.R_lt (by (with_reducible repeat (first | apply Kd.R_alloc | apply Kd.R_drewN | apply Kd.R_drew)); exact HO431.out))) (below_size Q37)); have n7_ := Aside0.mk (below_step Q37 hb); clear HO415; clear HO417; clear HO420; clear HO423; clear HO427; clear HO431; clear HB; have HO415 := n0_; have HO417 := n1_; have HO420 := n2_; have HO423 := n3_; have HO427 := n4_; have HO431 := n5_; have HO434 := n6_; have HB := n7_; clear n0_ n1_ n2_ n3_ n4_ n5_ n6_ n7_; (try clear hb); (try clear hb2); (try clear hk); (try clear hi); (try clear ho0); obtain ⟨Ao25, co25, eo25⟩ := Kd.R_slice HO431.out; subst eo25; obtain ⟨Ao26, co26, eo26⟩ := Kd.R_slice HO434.out; subst eo26) | (go_at_call 18; (with_reducible refine (laws_lwRows.calls k _ _ t429 _ _ t432 t435 _ ?side1 ?side2 ?side3 ?side4 A13.out).mono ?_); (case side1 => exact (by repeat (first | exact (Kd.R_reads' HO431.out).2.2 | (with_reducible refine Kd.C_alloc ?_ _) | (with_reducible refine Kd.C_drewN ?_ _) | (with_reducible refine Kd.C_drew ?_)))); (case side2 => exact (Kd.R_reads' HO431.out).2.1); (case side3 => exact (by repeat (first | exact (Kd.R_reads' HO434.out).2.2 | (with_reducible refine Kd.C_alloc ?_ _) | (with_reducible refine Kd.C_drewN ?_ _) | (with_reducible refine Kd.C_drew ?_)))); (case side4 => exact (Kd.R_reads' HO434.out).2.1); rintro e w' ⟨rfl, ⟨nd, rfl⟩⟩))
    go_ret
    exact ⟨by first | rfl | (rw [hq_.out]; done) | (simp [errW_none, errW_some] <;> rfl) | (simp [*, errW_none, errW_some] <;> rfl), Q37⟩
   ·replace c10 := Bool.eq_false_iff.mpr c10
    subst c10
    have H1 : (some false) = some r := by rw [if_neg (show ¬ (false = true) by decide)] at H; exact H
    clear H
    have H := H1
    clear H1
    exact absurd ((Option.some.inj H).trans hq_.out) Q1
  ·replace c7 := Bool.eq_false_iff.mpr c7
   subst c7
   have H1 : (some false) = some r := by rw [if_neg (show ¬ (false = true) by decide)] at H; exact H
   clear H
   have H := H1
   clear H1
   exact absurd ((Option.some.inj H).trans hq_.out) Q1
noncomputable def laws_FnBatchTurn.Pure : Prop := ∀ (l0 : List Int), l0.length ≤ maxLen → l0.length * 1 ≤ 140737488351232 → (∀ x ∈ l0, (Lit.int .u8 x).wf = true) → ∃ k, laws_FnBatchTurn.f k l0 = some true
end Go.Proofs.Ytjlkffmdmifahaa.PFnBatchTurn
