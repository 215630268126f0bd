/- Functions that the law comes to: each as a plain Lean function, with the contract of the Go function. -/
import Derived.Test.YtjlkffmdmifahaaVFnExactBatchMovew
import Derived.Test.YtjlkffmdmifahaaVFnExactBatchMovep0
import Derived.Test.YtjlkffmdmifahaaVFnExactBatchMovep2
import Derived.Test.YtjlkffmdmifahaaVFnExactBatchMovep3
import Derived.Test.YtjlkffmdmifahaaVFnExactBatchMovep4
import Derived.Test.YtjlkffmdmifahaaVFnExactBatchMoveg1
namespace Go.Proofs.Ytjlkffmdmifahaa.PFnExactBatchMove
open Go.RowKit Go.Proofs.YtjlkffmdmifahaaW.PrintWords Go.Proofs.YtjlkffmdmifahaaW.PrintLast Go.Proofs.YtjlkffmdmifahaaW.PrintMore
attribute [local go_sem] max2_int min2_int max_two min_two max_three min_three max_four min_four
set_option linter.unusedVariables false
set_option linter.unusedSimpArgs false
set_option maxHeartbeats 8000000 in
set_option maxRecDepth 100000 in
theorem laws_FnExactBatchMove.calls (k : Nat) (A0 : Option Addr) (c0 : Nat) (l0 : List (S80)) (A1 : Option Addr) (c1 : Nat) (l1 : List (S56)) (r : Bool) (w : World) (hr0 : Kd.C k80 w A0 l0.length l0) (hc0 : l0.length ≤ c0) (hr1 : Kd.C k56 w A1 l1.length l1) (hc1 : l1.length ≤ c1) (h : laws_FnExactBatchMove.f k l0 l1 = some r) (hr_ : r = true) :
  Calls Try.prog 13 #[.slice A0 l0.length c0, .slice A1 l1.length c1] w fun e w' => e = .returned (.bool r) ∧ Below w.heap.size w w' := by
 have HR0 := Aside0.mk hr0
 have HC0 := Aside0.mk hc0
 clear hr0 hc0
 have HR1 := Aside0.mk hr1
 have HC1 := Aside0.mk hc1
 clear hr1 hc1
 have HB := Aside0.mk (Below.refl w.heap.size w)
 have hq_ := Aside0.mk hr_
 clear hr_
 have H : ((laws_szRowS.f l0 1048576).bind fun t331 => (if t331 < 0 then (some true) else ((laws_szTimeS.f l1 t331).bind fun t332 => (if t332 < 0 then (some true) else ((laws_toRowS.f k l0).bind fun t333 => ((laws_toTimeS.f k l1).bind fun t336 => ((spec_BatchMove.f k t333 t336).bind fun t339 => ((laws_toRowS.f k l0).bind fun t342 => ((laws_toTimeS.f k l1).bind fun t345 => ((impl_BatchMove.f k t342 t345).bind fun t348 => ((laws_eqRowS.f k t348 t339).bind fun t351 => (if t351 = true then ((laws_toRowS.f k l0).bind fun t352 => ((laws_eqRowS.f k t342 t352).bind fun t355 => (if t355 = true then ((laws_toTimeS.f k l1).bind fun t356 => ((laws_eqTimeS.f k t345 t356).bind fun t359 => (if t359 = true then ((laws_markRowS.f t342 1).bind fun bt360 => ((laws_markTimeS.f k t345 bt360.1).bind fun bt362 => (if bt362.1 < 0 then (laws_FnExactBatchMove.j0 k l0 l1 t339 t348 true) else ((laws_eqRowS.f k t348 t339).bind fun t364 => (laws_FnExactBatchMove.j0 k l0 l1 t339 t348 (!t364)))))) else (some false)))) else (some false)))) else (some false))))))))))))) = some r := h
 clear h
 replace H := Option.bind_eq_some_iff.mp H
 obtain ⟨t331, A30, H⟩ := H
 replace H : (if t331 < 0 then (some true) else ((laws_szTimeS.f l1 t331).bind fun t332 => (if t332 < 0 then (some true) else ((laws_toRowS.f k l0).bind fun t333 => ((laws_toTimeS.f k l1).bind fun t336 => ((spec_BatchMove.f k t333 t336).bind fun t339 => ((laws_toRowS.f k l0).bind fun t342 => ((laws_toTimeS.f k l1).bind fun t345 => ((impl_BatchMove.f k t342 t345).bind fun t348 => ((laws_eqRowS.f k t348 t339).bind fun t351 => (if t351 = true then ((laws_toRowS.f k l0).bind fun t352 => ((laws_eqRowS.f k t342 t352).bind fun t355 => (if t355 = true then ((laws_toTimeS.f k l1).bind fun t356 => ((laws_eqTimeS.f k t345 t356).bind fun t359 => (if t359 = true then ((laws_markRowS.f t342 1).bind fun bt360 => ((laws_markTimeS.f k t345 bt360.1).bind fun bt362 => (if bt362.1 < 0 then (laws_FnExactBatchMove.j0 k l0 l1 t339 t348 true) else ((laws_eqRowS.f k t348 t339).bind fun t364 => (laws_FnExactBatchMove.j0 k l0 l1 t339 t348 (!t364)))))) else (some false)))) else (some false)))) else (some false)))))))))))) = some r := H
 have A3 := Aside0.mk A30
 clear A30
 by_cases c4 : t331 < 0
 ·rw [if_pos c4] at H
  have c4b0 : decide (t331 < 0) = true := decide_eq_true c4
  clear c4
  obtain rfl := Option.some.inj H
  go_enter Try.func13, Try.ntmps13
  go_wp2_with (first | ((with_reducible refine gate_callee (f := 32) rfl ?_); refine goesL_ (some 16) rfl rfl Try.func32 Q1 rfl #[.slice A0 l0.length c0, .int .i64 1048576] rfl Q65 ?_; (with_reducible refine (laws_szRowS.calls _ _ l0 1048576 t331 _ ?side1 ?side2 A3.out).mono ?_); (case side1 => repeat (first | exact HR0.out | (with_reducible refine Kd.C_alloc ?_ _) | (with_reducible refine Kd.C_drewN ?_ _) | (with_reducible refine Kd.C_drew ?_))); (case side2 => exact HC0.out); rintro e w' ⟨rfl, ⟨nd, rfl⟩⟩; refine ⟨_, rfl, ?_⟩))
  go_ret
  exact ⟨Q62, Q64⟩
 ·rw [if_neg c4] at H
  have c4b0 : decide (t331 < 0) = false := decide_eq_false c4
  clear c4
  replace H := Option.bind_eq_some_iff.mp H
  obtain ⟨t332, A50, H⟩ := H
  replace H : (if t332 < 0 then (some true) else ((laws_toRowS.f k l0).bind fun t333 => ((laws_toTimeS.f k l1).bind fun t336 => ((spec_BatchMove.f k t333 t336).bind fun t339 => ((laws_toRowS.f k l0).bind fun t342 => ((laws_toTimeS.f k l1).bind fun t345 => ((impl_BatchMove.f k t342 t345).bind fun t348 => ((laws_eqRowS.f k t348 t339).bind fun t351 => (if t351 = true then ((laws_toRowS.f k l0).bind fun t352 => ((laws_eqRowS.f k t342 t352).bind fun t355 => (if t355 = true then ((laws_toTimeS.f k l1).bind fun t356 => ((laws_eqTimeS.f k t345 t356).bind fun t359 => (if t359 = true then ((laws_markRowS.f t342 1).bind fun bt360 => ((laws_markTimeS.f k t345 bt360.1).bind fun bt362 => (if bt362.1 < 0 then (laws_FnExactBatchMove.j0 k l0 l1 t339 t348 true) else ((laws_eqRowS.f k t348 t339).bind fun t364 => (laws_FnExactBatchMove.j0 k l0 l1 t339 t348 (!t364)))))) else (some false)))) else (some false)))) else (some false)))))))))) = some r := H
  have A5 := Aside0.mk A50
  clear A50
  by_cases c6 : t332 < 0
  ·rw [if_pos c6] at H
   have c6b0 : decide (t332 < 0) = true := decide_eq_true c6
   clear c6
   obtain rfl := Option.some.inj H
   go_enter Try.func13, Try.ntmps13
   go_wp2_with (first | ((with_reducible refine gate_callee (f := 32) rfl ?_); refine goesL_ (some 16) rfl rfl Try.func32 Q1 rfl #[.slice A0 l0.length c0, .int .i64 1048576] rfl Q65 ?_; (with_reducible refine (laws_szRowS.calls _ _ l0 1048576 t331 _ ?side1 ?side2 A3.out).mono ?_); (case side1 => repeat (first | exact HR0.out | (with_reducible refine Kd.C_alloc ?_ _) | (with_reducible refine Kd.C_drewN ?_ _) | (with_reducible refine Kd.C_drew ?_))); (case side2 => exact HC0.out); rintro e w' ⟨rfl, ⟨nd, rfl⟩⟩; refine ⟨_, rfl, ?_⟩) | ((with_reducible refine gate_callee (f := 40) rfl ?_); refine goesL_ (some 21) rfl rfl Try.func40 Q1 rfl #[.slice A1 l1.length c1, .int .i64 t331] rfl Q65 ?_; (with_reducible refine (laws_szTimeS.calls _ _ l1 t331 t332 _ ?side1 ?side2 A5.out).mono ?_); (case side1 => repeat (first | exact HR1.out | (with_reducible refine Kd.C_alloc ?_ _) | (with_reducible refine Kd.C_drewN ?_ _) | (with_reducible refine Kd.C_drew ?_))); (case side2 => exact HC1.out); rintro e w' ⟨rfl, ⟨nd, rfl⟩⟩; refine ⟨_, rfl, ?_⟩))
   go_ret
   exact ⟨Q62, Q64⟩
  ·rw [if_neg c6] at H
   have c6b0 : decide (t332 < 0) = false := decide_eq_false c6
   clear c6
   replace H := Option.bind_eq_some_iff.mp H
   obtain ⟨t333, A70, H⟩ := H
   replace H : ((laws_toTimeS.f k l1).bind fun t336 => ((spec_BatchMove.f k t333 t336).bind fun t339 => ((laws_toRowS.f k l0).bind fun t342 => ((laws_toTimeS.f k l1).bind fun t345 => ((impl_BatchMove.f k t342 t345).bind fun t348 => ((laws_eqRowS.f k t348 t339).bind fun t351 => (if t351 = true then ((laws_toRowS.f k l0).bind fun t352 => ((laws_eqRowS.f k t342 t352).bind fun t355 => (if t355 = true then ((laws_toTimeS.f k l1).bind fun t356 => ((laws_eqTimeS.f k t345 t356).bind fun t359 => (if t359 = true then ((laws_markRowS.f t342 1).bind fun bt360 => ((laws_markTimeS.f k t345 bt360.1).bind fun bt362 => (if bt362.1 < 0 then (laws_FnExactBatchMove.j0 k l0 l1 t339 t348 true) else ((laws_eqRowS.f k t348 t339).bind fun t364 => (laws_FnExactBatchMove.j0 k l0 l1 t339 t348 (!t364)))))) else (some false)))) else (some false)))) else (some false)))))))) = some r := H
   have A7 := Aside0.mk A70
   clear A70
   replace H := Option.bind_eq_some_iff.mp H
   obtain ⟨t336, A80, H⟩ := H
   replace H : ((spec_BatchMove.f k t333 t336).bind fun t339 => ((laws_toRowS.f k l0).bind fun t342 => ((laws_toTimeS.f k l1).bind fun t345 => ((impl_BatchMove.f k t342 t345).bind fun t348 => ((laws_eqRowS.f k t348 t339).bind fun t351 => (if t351 = true then ((laws_toRowS.f k l0).bind fun t352 => ((laws_eqRowS.f k t342 t352).bind fun t355 => (if t355 = true then ((laws_toTimeS.f k l1).bind fun t356 => ((laws_eqTimeS.f k t345 t356).bind fun t359 => (if t359 = true then ((laws_markRowS.f t342 1).bind fun bt360 => ((laws_markTimeS.f k t345 bt360.1).bind fun bt362 => (if bt362.1 < 0 then (laws_FnExactBatchMove.j0 k l0 l1 t339 t348 true) else ((laws_eqRowS.f k t348 t339).bind fun t364 => (laws_FnExactBatchMove.j0 k l0 l1 t339 t348 (!t364)))))) else (some false)))) else (some false)))) else (some false))))))) = some r := H
   have A8 := Aside0.mk A80
   clear A80
   replace H := Option.bind_eq_some_iff.mp H
   obtain ⟨t339, A90, H⟩ := H
   replace H : ((laws_toRowS.f k l0).bind fun t342 => ((laws_toTimeS.f k l1).bind fun t345 => ((impl_BatchMove.f k t342 t345).bind fun t348 => ((laws_eqRowS.f k t348 t339).bind fun t351 => (if t351 = true then ((laws_toRowS.f k l0).bind fun t352 => ((laws_eqRowS.f k t342 t352).bind fun t355 => (if t355 = true then ((laws_toTimeS.f k l1).bind fun t356 => ((laws_eqTimeS.f k t345 t356).bind fun t359 => (if t359 = true then ((laws_markRowS.f t342 1).bind fun bt360 => ((laws_markTimeS.f k t345 bt360.1).bind fun bt362 => (if bt362.1 < 0 then (laws_FnExactBatchMove.j0 k l0 l1 t339 t348 true) else ((laws_eqRowS.f k t348 t339).bind fun t364 => (laws_FnExactBatchMove.j0 k l0 l1 t339 t348 (!t364)))))) else (some false)))) else (some false)))) else (some false)))))) = some r := H
   have A9 := Aside0.mk A90
   clear A90
   replace H := Option.bind_eq_some_iff.mp H
   obtain ⟨t342, A100, H⟩ := H
   replace H : ((laws_toTimeS.f k l1).bind fun t345 => ((impl_BatchMove.f k t342 t345).bind fun t348 => ((laws_eqRowS.f k t348 t339).bind fun t351 => (if t351 = true then ((laws_toRowS.f k l0).bind fun t352 => ((laws_eqRowS.f k t342 t352).bind fun t355 => (if t355 = true then ((laws_toTimeS.f k l1).bind fun t356 => ((laws_eqTimeS.f k t345 t356).bind fun t359 => (if t359 = true then ((laws_markRowS.f t342 1).bind fun bt360 => ((laws_markTimeS.f k t345 bt360.1).bind fun bt362 => (if bt362.1 < 0 then (laws_FnExactBatchMove.j0 k l0 l1 t339 t348 true) else ((laws_eqRowS.f k t348 t339).bind fun t364 => (laws_FnExactBatchMove.j0 k l0 l1 t339 t348 (!t364)))))) else (some false)))) else (some false)))) else (some false))))) = some r := H
   have A10 := Aside0.mk A100
   clear A100
   replace H := Option.bind_eq_some_iff.mp H
   obtain ⟨t345, A110, H⟩ := H
   replace H : ((impl_BatchMove.f k t342 t345).bind fun t348 => ((laws_eqRowS.f k t348 t339).bind fun t351 => (if t351 = true then ((laws_toRowS.f k l0).bind fun t352 => ((laws_eqRowS.f k t342 t352).bind fun t355 => (if t355 = true then ((laws_toTimeS.f k l1).bind fun t356 => ((laws_eqTimeS.f k t345 t356).bind fun t359 => (if t359 = true then ((laws_markRowS.f t342 1).bind fun bt360 => ((laws_markTimeS.f k t345 bt360.1).bind fun bt362 => (if bt362.1 < 0 then (laws_FnExactBatchMove.j0 k l0 l1 t339 t348 true) else ((laws_eqRowS.f k t348 t339).bind fun t364 => (laws_FnExactBatchMove.j0 k l0 l1 t339 t348 (!t364)))))) else (some false)))) else (some false)))) else (some false)))) = some r := H
   have A11 := Aside0.mk A110
   clear A110
   replace H := Option.bind_eq_some_iff.mp H
   obtain ⟨t348, A120, H⟩ := H
   replace H : ((laws_eqRowS.f k t348 t339).bind fun t351 => (if t351 = true then ((laws_toRowS.f k l0).bind fun t352 => ((laws_eqRowS.f k t342 t352).bind fun t355 => (if t355 = true then ((laws_toTimeS.f k l1).bind fun t356 => ((laws_eqTimeS.f k t345 t356).bind fun t359 => (if t359 = true then ((laws_markRowS.f t342 1).bind fun bt360 => ((laws_markTimeS.f k t345 bt360.1).bind fun bt362 => (if bt362.1 < 0 then (laws_FnExactBatchMove.j0 k l0 l1 t339 t348 true) else ((laws_eqRowS.f k t348 t339).bind fun t364 => (laws_FnExactBatchMove.j0 k l0 l1 t339 t348 (!t364)))))) else (some false)))) else (some false)))) else (some false))) = some r := H
   have A12 := Aside0.mk A120
   clear A120
   replace H := Option.bind_eq_some_iff.mp H
   obtain ⟨t351, A130, H⟩ := H
   replace H : (if t351 = true then ((laws_toRowS.f k l0).bind fun t352 => ((laws_eqRowS.f k t342 t352).bind fun t355 => (if t355 = true then ((laws_toTimeS.f k l1).bind fun t356 => ((laws_eqTimeS.f k t345 t356).bind fun t359 => (if t359 = true then ((laws_markRowS.f t342 1).bind fun bt360 => ((laws_markTimeS.f k t345 bt360.1).bind fun bt362 => (if bt362.1 < 0 then (laws_FnExactBatchMove.j0 k l0 l1 t339 t348 true) else ((laws_eqRowS.f k t348 t339).bind fun t364 => (laws_FnExactBatchMove.j0 k l0 l1 t339 t348 (!t364)))))) else (some false)))) else (some false)))) else (some false)) = some r := H
   have A13 := Aside0.mk A130
   clear A130
   by_cases c14 : t351 = true
   ·subst c14
    have H1 : ((laws_toRowS.f k l0).bind fun t352 => ((laws_eqRowS.f k t342 t352).bind fun t355 => (if t355 = true then ((laws_toTimeS.f k l1).bind fun t356 => ((laws_eqTimeS.f k t345 t356).bind fun t359 => (if t359 = true then ((laws_markRowS.f t342 1).bind fun bt360 => ((laws_markTimeS.f k t345 bt360.1).bind fun bt362 => (if bt362.1 < 0 then (laws_FnExactBatchMove.j0 k l0 l1 t339 t348 true) else ((laws_eqRowS.f k t348 t339).bind fun t364 => (laws_FnExactBatchMove.j0 k l0 l1 t339 t348 (!t364)))))) else (some false)))) else (some false)))) = some r := by rw [if_pos rfl] at H; exact H
    clear H
    have H := H1
    clear H1
    replace H := Option.bind_eq_some_iff.mp H
    obtain ⟨t352, A150, H⟩ := H
    replace H : ((laws_eqRowS.f k t342 t352).bind fun t355 => (if t355 = true then ((laws_toTimeS.f k l1).bind fun t356 => ((laws_eqTimeS.f k t345 t356).bind fun t359 => (if t359 = true then ((laws_markRowS.f t342 1).bind fun bt360 => ((laws_markTimeS.f k t345 bt360.1).bind fun bt362 => (if bt362.1 < 0 then (laws_FnExactBatchMove.j0 k l0 l1 t339 t348 true) else ((laws_eqRowS.f k t348 t339).bind fun t364 => (laws_FnExactBatchMove.j0 k l0 l1 t339 t348 (!t364)))))) else (some false)))) else (some false))) = some r := H
    have A15 := Aside0.mk A150
    clear A150
    replace H := Option.bind_eq_some_iff.mp H
    obtain ⟨t355, A160, H⟩ := H
    replace H : (if t355 = true then ((laws_toTimeS.f k l1).bind fun t356 => ((laws_eqTimeS.f k t345 t356).bind fun t359 => (if t359 = true then ((laws_markRowS.f t342 1).bind fun bt360 => ((laws_markTimeS.f k t345 bt360.1).bind fun bt362 => (if bt362.1 < 0 then (laws_FnExactBatchMove.j0 k l0 l1 t339 t348 true) else ((laws_eqRowS.f k t348 t339).bind fun t364 => (laws_FnExactBatchMove.j0 k l0 l1 t339 t348 (!t364)))))) else (some false)))) else (some false)) = some r := H
    have A16 := Aside0.mk A160
    clear A160
    by_cases c17 : t355 = true
    ·subst c17
     have H1 : ((laws_toTimeS.f k l1).bind fun t356 => ((laws_eqTimeS.f k t345 t356).bind fun t359 => (if t359 = true then ((laws_markRowS.f t342 1).bind fun bt360 => ((laws_markTimeS.f k t345 bt360.1).bind fun bt362 => (if bt362.1 < 0 then (laws_FnExactBatchMove.j0 k l0 l1 t339 t348 true) else ((laws_eqRowS.f k t348 t339).bind fun t364 => (laws_FnExactBatchMove.j0 k l0 l1 t339 t348 (!t364)))))) else (some false)))) = some r := by rw [if_pos rfl] at H; exact H
     clear H
     have H := H1
     clear H1
     replace H := Option.bind_eq_some_iff.mp H
     obtain ⟨t356, A180, H⟩ := H
     replace H : ((laws_eqTimeS.f k t345 t356).bind fun t359 => (if t359 = true then ((laws_markRowS.f t342 1).bind fun bt360 => ((laws_markTimeS.f k t345 bt360.1).bind fun bt362 => (if bt362.1 < 0 then (laws_FnExactBatchMove.j0 k l0 l1 t339 t348 true) else ((laws_eqRowS.f k t348 t339).bind fun t364 => (laws_FnExactBatchMove.j0 k l0 l1 t339 t348 (!t364)))))) else (some false))) = some r := H
     have A18 := Aside0.mk A180
     clear A180
     replace H := Option.bind_eq_some_iff.mp H
     obtain ⟨t359, A190, H⟩ := H
     replace H : (if t359 = true then ((laws_markRowS.f t342 1).bind fun bt360 => ((laws_markTimeS.f k t345 bt360.1).bind fun bt362 => (if bt362.1 < 0 then (laws_FnExactBatchMove.j0 k l0 l1 t339 t348 true) else ((laws_eqRowS.f k t348 t339).bind fun t364 => (laws_FnExactBatchMove.j0 k l0 l1 t339 t348 (!t364)))))) else (some false)) = some r := H
     have A19 := Aside0.mk A190
     clear A190
     by_cases c20 : t359 = true
     ·subst c20
      have H1 : ((laws_markRowS.f t342 1).bind fun bt360 => ((laws_markTimeS.f k t345 bt360.1).bind fun bt362 => (if bt362.1 < 0 then (laws_FnExactBatchMove.j0 k l0 l1 t339 t348 true) else ((laws_eqRowS.f k t348 t339).bind fun t364 => (laws_FnExactBatchMove.j0 k l0 l1 t339 t348 (!t364)))))) = some r := by rw [if_pos rfl] at H; exact H
      clear H
      have H := H1
      clear H1
      replace H := Option.bind_eq_some_iff.mp H
      obtain ⟨⟨t360, t361⟩, A210, H⟩ := H
      replace H : ((laws_markTimeS.f k t345 t360).bind fun bt362 => (if bt362.1 < 0 then (laws_FnExactBatchMove.j0 k l0 l1 t339 t348 true) else ((laws_eqRowS.f k t348 t339).bind fun t364 => (laws_FnExactBatchMove.j0 k l0 l1 t339 t348 (!t364))))) = some r := H
      have A21 := Aside0.mk A210
      clear A210
      replace H := Option.bind_eq_some_iff.mp H
      obtain ⟨⟨t362, t363⟩, A220, H⟩ := H
      replace H : (if t362 < 0 then (laws_FnExactBatchMove.j0 k l0 l1 t339 t348 true) else ((laws_eqRowS.f k t348 t339).bind fun t364 => (laws_FnExactBatchMove.j0 k l0 l1 t339 t348 (!t364)))) = some r := H
      have A22 := Aside0.mk A220
      clear A220
      have HC23 := Aside0.mk H
      clear H
      go_enter Try.func13, Try.ntmps13
      go_upto_region 21 with (first | ((with_reducible refine gate_callee (f := 32) rfl ?_); refine goesL_ (some 16) rfl rfl Try.func32 Q1 rfl #[.slice A0 l0.length c0, .int .i64 1048576] rfl Q65 ?_; (with_reducible refine (laws_szRowS.calls _ _ l0 1048576 t331 _ ?side1 ?side2 A3.out).mono ?_); (case side1 => repeat (first | exact HR0.out | (with_reducible refine Kd.C_alloc ?_ _) | (with_reducible refine Kd.C_drewN ?_ _) | (with_reducible refine Kd.C_drew ?_))); (case side2 => exact HC0.out); rintro e w' ⟨rfl, ⟨nd, rfl⟩⟩; refine ⟨_, rfl, ?_⟩) | ((with_reducible refine gate_callee (f := 40) rfl ?_); refine goesL_ (some 21) rfl rfl Try.func40 Q1 rfl #[.slice A1 l1.length c1, .int .i64 t331] rfl Q65 ?_; (with_reducible refine (laws_szTimeS.calls _ _ l1 t331 t332 _ ?side1 ?side2 A5.out).mono ?_); (case side1 => repeat (first | exact HR1.out | (with_reducible refine Kd.C_alloc ?_ _) | (with_reducible refine Kd.C_drewN ?_ _) | (with_reducible refine Kd.C_drew ?_))); (case side2 => exact HC1.out); rintro e w' ⟨rfl, ⟨nd, rfl⟩⟩; refine ⟨_, rfl, ?_⟩) | ((with_reducible refine gate_callee (f := 33) rfl ?_); refine goesL_ (some 25) rfl rfl Try.func33 Q1 rfl #[.slice A0 l0.length c0] rfl Q65 ?_; (with_reducible refine (laws_toRowS.calls k _ _ l0 t333 _ ?side1 ?side2 A7.out).mono ?_); (case side1 => repeat (first | exact HR0.out | (with_reducible refine Kd.C_alloc ?_ _) | (with_reducible refine Kd.C_drewN ?_ _) | (with_reducible refine Kd.C_drew ?_))); (case side2 => exact HC0.out); rintro e w24 ⟨v334, rfl, ho0, hb⟩; refine ⟨_, rfl, ?_⟩; have n0_ := Aside0.mk (Kd.R_lower ho0 (below_size Q64)); have n1_ := Aside0.mk (below_step Q64 hb); clear HB; have HO335 := n0_; have HB := n1_; clear n0_ n1_; (try clear hb); (try clear hb2); (try clear hk); (try clear hi); (try clear ho0)) | ((with_reducible refine gate_callee (f := 41) rfl ?_); refine goesL_ (some 27) rfl rfl Try.func41 Q1 rfl #[.slice A1 l1.length c1] rfl Q65 ?_; (with_reducible refine (laws_toTimeS.calls k _ _ l1 t336 _ ?side1 ?side2 A8.out).mono ?_); (case side1 => repeat (first | exact (Kd.C_below HR1.out HB.out) | (with_reducible refine Kd.C_alloc ?_ _) | (with_reducible refine Kd.C_drewN ?_ _) | (with_reducible refine Kd.C_drew ?_))); (case side2 => exact HC1.out); rintro e w25 ⟨v337, rfl, ho0, hb⟩; refine ⟨_, rfl, ?_⟩; have n0_ := Aside0.mk (Kd.R_below Q23 hb); have n1_ := Aside0.mk (Kd.R_lower ho0 (below_size Q64)); have n2_ := Aside0.mk (below_step Q64 hb); clear HO335; clear HB; have HO335 := n0_; have HO338 := n1_; have HB := n2_; clear n0_ n1_ n2_; (try clear hb); (try clear hb2); (try clear hk); (try clear hi); (try clear ho0); obtain ⟨Ao26, co26, eo26⟩ := Kd.R_slice HO335.out; subst eo26; obtain ⟨Ao27, co27, eo27⟩ := Kd.R_slice HO338.out; subst eo27) | ((with_reducible refine gate_callee (f := 19) rfl ?_); refine goesL_ (some 28) rfl rfl Try.func19 Q1 rfl #[.slice Ao26 t333.length co26, .slice Ao27 t336.length co27] rfl Q65 ?_; (with_reducible refine (spec_BatchMove.calls k _ _ t333 _ _ t336 t339 _ ?side1 ?side2 ?side3 ?side4 A9.out).mono ?_); (case side1 => repeat (first | exact (Kd.R_reads' HO335.out).2.2 | (with_reducible refine Kd.C_alloc ?_ _) | (with_reducible refine Kd.C_drewN ?_ _) | (with_reducible refine Kd.C_drew ?_))); (case side2 => exact (Kd.R_reads' HO335.out).2.1); (case side3 => repeat (first | exact (Kd.R_reads' HO338.out).2.2 | (with_reducible refine Kd.C_alloc ?_ _) | (with_reducible refine Kd.C_drewN ?_ _) | (with_reducible refine Kd.C_drew ?_))); (case side4 => exact (Kd.R_reads' HO338.out).2.1); rintro e w28 ⟨v340, rfl, ho0, hb⟩; refine ⟨_, rfl, ?_⟩; have n0_ := Aside0.mk (Kd.R_elder' Q23 (Kd.R_base ho0) hb); have n1_ := Aside0.mk (Kd.R_below Q24 hb); have n2_ := Aside0.mk (Kd.R_lower (Kd.R_new' ho0 (Kd.R_lt Q23)) (below_size Q64)); have n3_ := Aside0.mk (below_step Q64 hb); clear HO335; clear HO338; clear HB; have HO335 := n0_; have HO338 := n1_; have HO341 := n2_; have HB := n3_; clear n0_ n1_ n2_ n3_; (try clear hb); (try clear hb2); (try clear hk); (try clear hi); (try clear ho0)) | ((with_reducible refine gate_callee (f := 33) rfl ?_); refine goesL_ (some 30) rfl rfl Try.func33 Q1 rfl #[.slice A0 l0.length c0] rfl Q65 ?_; (with_reducible refine (laws_toRowS.calls k _ _ l0 t342 _ ?side1 ?side2 A10.out).mono ?_); (case side1 => repeat (first | exact (Kd.C_below HR0.out HB.out) | (with_reducible refine Kd.C_alloc ?_ _) | (with_reducible refine Kd.C_drewN ?_ _) | (with_reducible refine Kd.C_drew ?_))); (case side2 => exact HC0.out); rintro e w29 ⟨v343, rfl, ho0, hb⟩; refine ⟨_, rfl, ?_⟩; have n0_ := Aside0.mk (Kd.R_elder' Q23 (Kd.R_base ho0) hb); have n1_ := Aside0.mk (Kd.R_below Q24 hb); have n2_ := Aside0.mk (Kd.R_elder' Q25 (Kd.R_base ho0) hb); have n3_ := Aside0.mk (Kd.R_lower (Kd.R_new' (Kd.R_new' ho0 (Kd.R_lt Q23)) (Kd.R_lt Q25)) (below_size Q64)); have n4_ := Aside0.mk (below_step Q64 hb); clear HO335; clear HO338; clear HO341; clear HB; have HO335 := n0_; have HO338 := n1_; have HO341 := n2_; have HO344 := n3_; have HB := n4_; clear n0_ n1_ n2_ n3_ n4_; (try clear hb); (try clear hb2); (try clear hk); (try clear hi); (try clear ho0)) | ((with_reducible refine gate_callee (f := 41) rfl ?_); refine goesL_ (some 32) rfl rfl Try.func41 Q1 rfl #[.slice A1 l1.length c1] rfl Q65 ?_; (with_reducible refine (laws_toTimeS.calls k _ _ l1 t345 _ ?side1 ?side2 A11.out).mono ?_); (case side1 => repeat (first | exact (Kd.C_below HR1.out HB.out) | (with_reducible refine Kd.C_alloc ?_ _) | (with_reducible refine Kd.C_drewN ?_ _) | (with_reducible refine Kd.C_drew ?_))); (case side2 => exact HC1.out); rintro e w30 ⟨v346, rfl, ho0, hb⟩; refine ⟨_, rfl, ?_⟩; have n0_ := Aside0.mk (Kd.R_below Q23 hb); have n1_ := Aside0.mk (Kd.R_elder' Q24 (Kd.R_base ho0) hb); have n2_ := Aside0.mk (Kd.R_below Q25 hb); have n3_ := Aside0.mk (Kd.R_below Q26 hb); have n4_ := Aside0.mk (Kd.R_lower (Kd.R_new' ho0 (Kd.R_lt Q24)) (below_size Q64)); have n5_ := Aside0.mk (below_step Q64 hb); clear HO335; clear HO338; clear HO341; clear HO344; clear HB; have HO335 := n0_; have HO338 := n1_; have HO341 := n2_; have HO344 := n3_; have HO347 := n4_; have HB := n5_; clear n0_ n1_ n2_ n3_ n4_ n5_; (try clear hb); (try clear hb2); (try clear hk); (try clear hi); (try clear ho0); obtain ⟨Ao31, co31, eo31⟩ := Kd.R_slice HO344.out; subst eo31; obtain ⟨Ao32, co32, eo32⟩ := Kd.R_slice HO347.out; subst eo32) | ((with_reducible refine gate_callee (f := 17) rfl ?_); refine goesL_ (some 35) rfl rfl Try.func17 Q1 rfl #[.slice Ao31 t342.length co31, .slice Ao32 t345.length co32] rfl Q65 ?_; (with_reducible refine (impl_BatchMove.calls k _ _ t342 _ _ t345 t348 _ ?side1 ?side2 ?side3 ?side4 A12.out).mono ?_); (case side1 => repeat (first | exact (Kd.R_reads' HO344.out).2.2 | (with_reducible refine Kd.C_alloc ?_ _) | (with_reducible refine Kd.C_drewN ?_ _) | (with_reducible refine Kd.C_drew ?_))); (case side2 => exact (Kd.R_reads' HO344.out).2.1); (case side3 => repeat (first | exact (Kd.R_reads' HO347.out).2.2 | (with_reducible refine Kd.C_alloc ?_ _) | (with_reducible refine Kd.C_drewN ?_ _) | (with_reducible refine Kd.C_drew ?_))); (case side4 => exact (Kd.R_reads' HO347.out).2.1); rintro e w33 ⟨v349, rfl, ho0, hb⟩; refine ⟨_, rfl, ?_⟩; have n0_ := Aside0.mk (Kd.R_elder' Q23 (Kd.R_base ho0) hb); have n1_ := Aside0.mk (Kd.R_below Q24 hb); have n2_ := Aside0.mk (Kd.R_elder' Q25 (Kd.R_base ho0) hb); have n3_ := Aside0.mk (Kd.R_elder' Q26 (Kd.R_base ho0) hb); have n4_ := Aside0.mk (Kd.R_below Q27 hb); have n5_ := Aside0.mk (Kd.R_lower (Kd.R_new' (Kd.R_new' (Kd.R_new' ho0 (Kd.R_lt Q23)) (Kd.R_lt Q25)) (Kd.R_lt Q26)) (below_size Q64)); have n6_ := Aside0.mk (below_step Q64 hb); clear HO335; clear HO338; clear HO341; clear HO344; clear HO347; clear HB; have HO335 := n0_; have HO338 := n1_; have HO341 := n2_; have HO344 := n3_; have HO347 := n4_; have HO350 := n5_; have HB := n6_; clear n0_ n1_ n2_ n3_ n4_ n5_ n6_; (try clear hb); (try clear hb2); (try clear hk); (try clear hi); (try clear ho0); obtain ⟨Ao34, co34, eo34⟩ := Kd.R_slice HO350.out; subst eo34; obtain ⟨Ao35, co35, eo35⟩ := Kd.R_slice HO341.out; subst eo35) | ((with_reducible refine gate_callee (f := 34) rfl ?_); refine goesL_ (some 38) rfl rfl Try.func34 Q1 rfl #[.slice Ao34 t348.length co34, .slice Ao35 t339.length co35] rfl Q65 ?_; (with_reducible refine (laws_eqRowS.calls k _ _ t348 _ _ t339 true _ ?side1 ?side2 ?side3 ?side4 A13.out).mono ?_); (case side1 => repeat (first | exact (Kd.R_reads' HO350.out).2.2 | (with_reducible refine Kd.C_alloc ?_ _) | (with_reducible refine Kd.C_drewN ?_ _) | (with_reducible refine Kd.C_drew ?_))); (case side2 => exact (Kd.R_reads' HO350.out).2.1); (case side3 => repeat (first | exact (Kd.R_reads' HO341.out).2.2 | (with_reducible refine Kd.C_alloc ?_ _) | (with_reducible refine Kd.C_drewN ?_ _) | (with_reducible refine Kd.C_drew ?_))); (case side4 => exact (Kd.R_reads' HO341.out).2.1); rintro e w36 ⟨rfl, hb⟩; refine ⟨_, rfl, ?_⟩; have n0_ := Aside0.mk (Kd.R_below Q23 hb); have n1_ := Aside0.mk (Kd.R_below Q24 hb); have n2_ := Aside0.mk (Kd.R_below Q25 hb); have n3_ := Aside0.mk (Kd.R_below Q26 hb); have n4_ := Aside0.mk (Kd.R_below Q27 hb); have n5_ := Aside0.mk (Kd.R_below Q28 hb); have n6_ := Aside0.mk (below_step Q64 hb); clear HO335; clear HO338; clear HO341; clear HO344; clear HO347; clear HO350; clear HB; have HO335 := n0_; have HO338 := n1_; have HO341 := n2_; have HO344 := n3_; have HO347 := n4_; have HO350 := n5_; have HB := n6_; clear n0_ n1_ n2_ n3_ n4_ n5_ n6_; (try clear hb); (try clear hb2); (try clear hk); (try clear hi)) | ((with_reducible refine gate_callee (f := 33) rfl ?_); refine goesL_ (some 42) rfl rfl Try.func33 Q1 rfl #[.slice A0 l0.length c0] rfl Q65 ?_; (with_reducible refine (laws_toRowS.calls k _ _ l0 t352 _ ?side1 ?side2 A15.out).mono ?_); (case side1 => repeat (first | exact (Kd.C_below HR0.out HB.out) | (with_reducible refine Kd.C_alloc ?_ _) | (with_reducible refine Kd.C_drewN ?_ _) | (with_reducible refine Kd.C_drew ?_))); (case side2 => exact HC0.out); rintro e w37 ⟨v353, rfl, ho0, hb⟩; refine ⟨_, rfl, ?_⟩; have n0_ := Aside0.mk (Kd.R_elder' Q23 (Kd.R_base ho0) hb); have n1_ := Aside0.mk (Kd.R_below Q24 hb); have n2_ := Aside0.mk (Kd.R_elder' Q25 (Kd.R_base ho0) hb); have n3_ := Aside0.mk (Kd.R_elder' Q26 (Kd.R_base ho0) hb); have n4_ := Aside0.mk (Kd.R_below Q27 hb); have n5_ := Aside0.mk (Kd.R_elder' Q28 (Kd.R_base ho0) hb); have n6_ := Aside0.mk (Kd.R_lower (Kd.R_new' (Kd.R_new' (Kd.R_new' (Kd.R_new' ho0 (Kd.R_lt Q23)) (Kd.R_lt Q25)) (Kd.R_lt Q26)) (Kd.R_lt Q28)) (below_size Q64)); have n7_ := Aside0.mk (below_step Q64 hb); clear HO335; clear HO338; clear HO341; clear HO344; clear HO347; clear HO350; clear HB; have HO335 := n0_; have HO338 := n1_; have HO341 := n2_; have HO344 := n3_; have HO347 := n4_; have HO350 := n5_; have HO354 := n6_; have HB := n7_; clear n0_ n1_ n2_ n3_ n4_ n5_ n6_ n7_; (try clear hb); (try clear hb2); (try clear hk); (try clear hi); (try clear ho0); obtain ⟨Ao38, co38, eo38⟩ := Kd.R_slice HO354.out; subst eo38) | ((with_reducible refine gate_callee (f := 34) rfl ?_); refine goesL_ (some 43) rfl rfl Try.func34 Q1 rfl #[.slice Ao31 t342.length co31, .slice Ao38 t352.length co38] rfl Q65 ?_; (with_reducible refine (laws_eqRowS.calls k _ _ t342 _ _ t352 true _ ?side1 ?side2 ?side3 ?side4 A16.out).mono ?_); (case side1 => repeat (first | exact (Kd.R_reads' HO344.out).2.2 | (with_reducible refine Kd.C_alloc ?_ _) | (with_reducible refine Kd.C_drewN ?_ _) | (with_reducible refine Kd.C_drew ?_))); (case side2 => exact (Kd.R_reads' HO344.out).2.1); (case side3 => repeat (first | exact (Kd.R_reads' HO354.out).2.2 | (with_reducible refine Kd.C_alloc ?_ _) | (with_reducible refine Kd.C_drewN ?_ _) | (with_reducible refine Kd.C_drew ?_))); (case side4 => exact (Kd.R_reads' HO354.out).2.1); rintro e w39 ⟨rfl, hb⟩; refine ⟨_, rfl, ?_⟩; have n0_ := Aside0.mk (Kd.R_below Q23 hb); have n1_ := Aside0.mk (Kd.R_below Q24 hb); have n2_ := Aside0.mk (Kd.R_below Q25 hb); have n3_ := Aside0.mk (Kd.R_below Q26 hb); have n4_ := Aside0.mk (Kd.R_below Q27 hb); have n5_ := Aside0.mk (Kd.R_below Q28 hb); have n6_ := Aside0.mk (Kd.R_below Q29 hb); have n7_ := Aside0.mk (below_step Q64 hb); clear HO335; clear HO338; clear HO341; clear HO344; clear HO347; clear HO350; clear HO354; clear HB; have HO335 := n0_; have HO338 := n1_; have HO341 := n2_; have HO344 := n3_; have HO347 := n4_; have HO350 := n5_; have HO354 := n6_; have HB := n7_; clear n0_ n1_ n2_ n3_ n4_ n5_ n6_ n7_; (try clear hb); (try clear hb2); (try clear hk); (try clear hi)) | ((with_reducible refine gate_callee (f := 41) rfl ?_); refine goesL_ (some 47) rfl rfl Try.func41 Q1 rfl #[.slice A1 l1.length c1] rfl Q65 ?_; (with_reducible refine (laws_toTimeS.calls k _ _ l1 t356 _ ?side1 ?side2 A18.out).mono ?_); (case side1 => repeat (first | exact (Kd.C_below HR1.out HB.out) | (with_reducible refine Kd.C_alloc ?_ _) | (with_reducible refine Kd.C_drewN ?_ _) | (with_reducible refine Kd.C_drew ?_))); (case side2 => exact HC1.out); rintro e w40 ⟨v357, rfl, ho0, hb⟩; refine ⟨_, rfl, ?_⟩; have n0_ := Aside0.mk (Kd.R_below Q23 hb); have n1_ := Aside0.mk (Kd.R_elder' Q24 (Kd.R_base ho0) hb); have n2_ := Aside0.mk (Kd.R_below Q25 hb); have n3_ := Aside0.mk (Kd.R_below Q26 hb); have n4_ := Aside0.mk (Kd.R_elder' Q27 (Kd.R_base ho0) hb); have n5_ := Aside0.mk (Kd.R_below Q28 hb); have n6_ := Aside0.mk (Kd.R_below Q29 hb); have n7_ := Aside0.mk (Kd.R_lower (Kd.R_new' (Kd.R_new' ho0 (Kd.R_lt Q24)) (Kd.R_lt Q27)) (below_size Q64)); have n8_ := Aside0.mk (below_step Q64 hb); clear HO335; clear HO338; clear HO341; clear HO344; clear HO347; clear HO350; clear HO354; clear HB; have HO335 := n0_; have HO338 := n1_; have HO341 := n2_; have HO344 := n3_; have HO347 := n4_; have HO350 := n5_; have HO354 := n6_; have HO358 := n7_; have HB := n8_; clear n0_ n1_ n2_ n3_ n4_ n5_ n6_ n7_ n8_; (try clear hb); (try clear hb2); (try clear hk); (try clear hi); (try clear ho0); obtain ⟨Ao41, co41, eo41⟩ := Kd.R_slice HO358.out; subst eo41) | ((with_reducible refine gate_callee (f := 42) rfl ?_); refine goesL_ (some 48) rfl rfl Try.func42 Q1 rfl #[.slice Ao32 t345.length co32, .slice Ao41 t356.length co41] rfl Q65 ?_; (with_reducible refine (laws_eqTimeS.calls k _ _ t345 _ _ t356 true _ ?side1 ?side2 ?side3 ?side4 A19.out).mono ?_); (case side1 => repeat (first | exact (Kd.R_reads' HO347.out).2.2 | (with_reducible refine Kd.C_alloc ?_ _) | (with_reducible refine Kd.C_drewN ?_ _) | (with_reducible refine Kd.C_drew ?_))); (case side2 => exact (Kd.R_reads' HO347.out).2.1); (case side3 => repeat (first | exact (Kd.R_reads' HO358.out).2.2 | (with_reducible refine Kd.C_alloc ?_ _) | (with_reducible refine Kd.C_drewN ?_ _) | (with_reducible refine Kd.C_drew ?_))); (case side4 => exact (Kd.R_reads' HO358.out).2.1); rintro e w42 ⟨rfl, hb⟩; refine ⟨_, rfl, ?_⟩; have n0_ := Aside0.mk (Kd.R_below Q23 hb); have n1_ := Aside0.mk (Kd.R_below Q24 hb); have n2_ := Aside0.mk (Kd.R_below Q25 hb); have n3_ := Aside0.mk (Kd.R_below Q26 hb); have n4_ := Aside0.mk (Kd.R_below Q27 hb); have n5_ := Aside0.mk (Kd.R_below Q28 hb); have n6_ := Aside0.mk (Kd.R_below Q29 hb); have n7_ := Aside0.mk (Kd.R_below (by (with_reducible repeat (first | apply Kd.R_alloc | apply Kd.R_drewN | apply Kd.R_drew)); exact HO358.out) hb); have n8_ := Aside0.mk (below_step Q64 hb); clear HO335; clear HO338; clear HO341; clear HO344; clear HO347; clear HO350; clear HO354; clear HO358; clear HB; have HO335 := n0_; have HO338 := n1_; have HO341 := n2_; have HO344 := n3_; have HO347 := n4_; have HO350 := n5_; have HO354 := n6_; have HO358 := n7_; have HB := n8_; clear n0_ n1_ n2_ n3_ n4_ n5_ n6_ n7_ n8_; (try clear hb); (try clear hb2); (try clear hk); (try clear hi)) | ((with_reducible refine gate_callee (f := 35) rfl ?_); refine goesL_ (some 52) rfl rfl Try.func35 Q1 rfl #[.slice Ao31 t342.length co31, .int .i64 1] rfl Q65 ?_; (with_reducible refine (laws_markRowS.calls (fun k_ => some k_ = (.slice Ao31 t342.length co31 : Value).ownBlock) (.slice Ao31 t342.length co31) t342 1 t360 t361 w _ ?side1 ?side2 A21.out).mono ?_); (case side1 => repeat (first | (with_reducible first | exact HB.out | apply below_alloc | apply pw_below_drewN | apply below_drew1) | exact HB.out)); (case side2 => exact Kd.R_tight rfl HO344.out); rintro e w43 ⟨rfl, hy0, hb, hkp⟩; refine ⟨_, rfl, ?_⟩; have n0_ := Aside0.mk (Kd.R_mono (ok' := fun k_ => some k_ ≠ (.slice Ao35 t339.length co35 : Value).ownBlock ∧ some k_ ≠ (.slice Ao31 t342.length co31 : Value).ownBlock ∧ some k_ ≠ (.slice Ao34 t348.length co34 : Value).ownBlock ∧ some k_ ≠ (.slice Ao38 t352.length co38 : Value).ownBlock) (Kd.R_keptB (HO335.out) hkp (fun k_ hk_ hs_ => (hk_.1.1.2) hs_)) (fun k_ hk_ => ⟨hk_.1.1.1.1.2, hk_.1.1.1.2, hk_.1.1.2, hk_.1.2⟩)); have n1_ := Aside0.mk (Kd.R_mono (ok' := fun k_ => some k_ ≠ (.slice Ao32 t345.length co32 : Value).ownBlock ∧ some k_ ≠ (.slice Ao41 t356.length co41 : Value).ownBlock) (Kd.R_keptB ((Kd.R_apart' HO338.out (Kd.R_typed HO344.out) Q0)) hkp (fun k_ hk_ hs_ => (hk_.2) hs_)) (fun k_ hk_ => ⟨hk_.1.1.1.2, hk_.1.1.2⟩)); have n2_ := Aside0.mk (Kd.R_mono (ok' := fun k_ => some k_ ≠ (.slice Ao26 t333.length co26 : Value).ownBlock ∧ some k_ ≠ (.slice Ao31 t342.length co31 : Value).ownBlock ∧ some k_ ≠ (.slice Ao34 t348.length co34 : Value).ownBlock ∧ some k_ ≠ (.slice Ao38 t352.length co38 : Value).ownBlock) (Kd.R_keptB (HO341.out) hkp (fun k_ hk_ hs_ => (hk_.1.1.2) hs_)) (fun k_ hk_ => ⟨hk_.1.1.1.1.2, hk_.1.1.1.2, hk_.1.1.2, hk_.1.2⟩)); have n3_ := Aside0.mk (Kd.R_reok rfl hy0 (fun k_ e_ => HO344.out.1 k_ e_)); have n4_ := Aside0.mk (Kd.R_mono (ok' := fun k_ => some k_ ≠ (.slice Ao27 t336.length co27 : Value).ownBlock ∧ some k_ ≠ (.slice Ao41 t356.length co41 : Value).ownBlock) (Kd.R_keptB ((Kd.R_apart' HO347.out (Kd.R_typed HO344.out) Q0)) hkp (fun k_ hk_ hs_ => (hk_.2) hs_)) (fun k_ hk_ => ⟨hk_.1.1.1.2, hk_.1.1.2⟩)); have n5_ := Aside0.mk (Kd.R_mono (ok' := fun k_ => some k_ ≠ (.slice Ao26 t333.length co26 : Value).ownBlock ∧ some k_ ≠ (.slice Ao35 t339.length co35 : Value).ownBlock ∧ some k_ ≠ (.slice Ao31 t342.length co31 : Value).ownBlock ∧ some k_ ≠ (.slice Ao38 t352.length co38 : Value).ownBlock) (Kd.R_keptB (HO350.out) hkp (fun k_ hk_ hs_ => (hk_.1.2) hs_)) (fun k_ hk_ => ⟨hk_.1.1.1.1.2, hk_.1.1.1.2, hk_.1.1.2, hk_.1.2⟩)); have n6_ := Aside0.mk (Kd.R_mono (ok' := fun k_ => some k_ ≠ (.slice Ao26 t333.length co26 : Value).ownBlock ∧ some k_ ≠ (.slice Ao35 t339.length co35 : Value).ownBlock ∧ some k_ ≠ (.slice Ao31 t342.length co31 : Value).ownBlock ∧ some k_ ≠ (.slice Ao34 t348.length co34 : Value).ownBlock) (Kd.R_keptB (HO354.out) hkp (fun k_ hk_ hs_ => (hk_.1.2) hs_)) (fun k_ hk_ => ⟨hk_.1.1.1.1.2, hk_.1.1.1.2, hk_.1.1.2, hk_.1.2⟩)); have n7_ := Aside0.mk (Kd.R_mono (ok' := fun k_ => some k_ ≠ (.slice Ao27 t336.length co27 : Value).ownBlock ∧ some k_ ≠ (.slice Ao32 t345.length co32 : Value).ownBlock) (Kd.R_keptB ((Kd.R_apart' HO358.out (Kd.R_typed HO344.out) Q0)) hkp (fun k_ hk_ hs_ => (hk_.2) hs_)) (fun k_ hk_ => ⟨hk_.1.1.1.2, hk_.1.1.2⟩)); have n8_ := Aside0.mk (hb); clear HO335; clear HO338; clear HO341; clear HO344; clear HO347; clear HO350; clear HO354; clear HO358; clear HB; have HO335 := n0_; have HO338 := n1_; have HO341 := n2_; have HO344 := n3_; have HO347 := n4_; have HO350 := n5_; have HO354 := n6_; have HO358 := n7_; have HB := n8_; clear n0_ n1_ n2_ n3_ n4_ n5_ n6_ n7_ n8_; (try clear hb); (try clear hkp); (try clear hy0)) | ((with_reducible refine gate_callee (f := 43) rfl ?_); refine goesL_ (some 55) rfl rfl Try.func43 Q1 rfl #[.slice Ao32 t345.length co32, .int .i64 t360] rfl Q65 ?_; (with_reducible refine (laws_markTimeS.calls k (fun k_ => some k_ = (.slice Ao32 t345.length co32 : Value).ownBlock) (.slice Ao32 t345.length co32) t345 t360 t362 t363 w _ ?side1 ?side2 A22.out).mono ?_); (case side1 => repeat (first | (with_reducible first | exact HB.out | apply below_alloc | apply pw_below_drewN | apply below_drew1) | exact HB.out)); (case side2 => exact Kd.R_tight rfl HO347.out); rintro e w44 ⟨rfl, hy0, hb, hkp⟩; refine ⟨_, rfl, ?_⟩; have n0_ := Aside0.mk (Kd.R_mono (ok' := fun k_ => some k_ ≠ (.slice Ao35 t339.length co35 : Value).ownBlock ∧ some k_ ≠ (.slice Ao31 t342.length co31 : Value).ownBlock ∧ some k_ ≠ (.slice Ao34 t348.length co34 : Value).ownBlock ∧ some k_ ≠ (.slice Ao38 t352.length co38 : Value).ownBlock) (Kd.R_keptB ((Kd.R_apart' HO335.out (Kd.R_typed HO347.out) Q0)) hkp (fun k_ hk_ hs_ => (hk_.2) hs_)) (fun k_ hk_ => ⟨hk_.1.1.1, hk_.1.1.2.1, hk_.1.1.2.2.1, hk_.1.1.2.2.2⟩)); have n1_ := Aside0.mk (Kd.R_mono (ok' := fun k_ => some k_ ≠ (.slice Ao32 t345.length co32 : Value).ownBlock ∧ some k_ ≠ (.slice Ao41 t356.length co41 : Value).ownBlock) (Kd.R_keptB (HO338.out) hkp (fun k_ hk_ hs_ => (hk_.1) hs_)) (fun k_ hk_ => ⟨hk_.1.1, hk_.1.2⟩)); have n2_ := Aside0.mk (Kd.R_mono (ok' := fun k_ => some k_ ≠ (.slice Ao26 t333.length co26 : Value).ownBlock ∧ some k_ ≠ (.slice Ao31 t342.length co31 : Value).ownBlock ∧ some k_ ≠ (.slice Ao34 t348.length co34 : Value).ownBlock ∧ some k_ ≠ (.slice Ao38 t352.length co38 : Value).ownBlock) (Kd.R_keptB ((Kd.R_apart' HO341.out (Kd.R_typed HO347.out) Q0)) hkp (fun k_ hk_ hs_ => (hk_.2) hs_)) (fun k_ hk_ => ⟨hk_.1.1.1, hk_.1.1.2.1, hk_.1.1.2.2.1, hk_.1.1.2.2.2⟩)); have n3_ := Aside0.mk (Kd.R_mono (ok' := fun k_ => some k_ ≠ (.slice Ao26 t333.length co26 : Value).ownBlock ∧ some k_ ≠ (.slice Ao35 t339.length co35 : Value).ownBlock ∧ some k_ ≠ (.slice Ao34 t348.length co34 : Value).ownBlock ∧ some k_ ≠ (.slice Ao38 t352.length co38 : Value).ownBlock) (Kd.R_keptB ((Kd.R_apart' HO344.out (Kd.R_typed HO347.out) Q0)) hkp (fun k_ hk_ hs_ => (hk_.2) hs_)) (fun k_ hk_ => ⟨hk_.1.1.1.1.1.2, hk_.1.1.1.1.2, hk_.1.1.1.2, hk_.1.1.2⟩)); have n4_ := Aside0.mk (Kd.R_reok rfl hy0 (fun k_ e_ => HO347.out.1 k_ e_)); have n5_ := Aside0.mk (Kd.R_mono (ok' := fun k_ => some k_ ≠ (.slice Ao26 t333.length co26 : Value).ownBlock ∧ some k_ ≠ (.slice Ao35 t339.length co35 : Value).ownBlock ∧ some k_ ≠ (.slice Ao31 t342.length co31 : Value).ownBlock ∧ some k_ ≠ (.slice Ao38 t352.length co38 : Value).ownBlock) (Kd.R_keptB ((Kd.R_apart' HO350.out (Kd.R_typed HO347.out) Q0)) hkp (fun k_ hk_ hs_ => (hk_.2) hs_)) (fun k_ hk_ => ⟨hk_.1.1.1, hk_.1.1.2.1, hk_.1.1.2.2.1, hk_.1.1.2.2.2⟩)); have n6_ := Aside0.mk (Kd.R_mono (ok' := fun k_ => some k_ ≠ (.slice Ao26 t333.length co26 : Value).ownBlock ∧ some k_ ≠ (.slice Ao35 t339.length co35 : Value).ownBlock ∧ some k_ ≠ (.slice Ao31 t342.length co31 : Value).ownBlock ∧ some k_ ≠ (.slice Ao34 t348.length co34 : Value).ownBlock) (Kd.R_keptB ((Kd.R_apart' HO354.out (Kd.R_typed HO347.out) Q0)) hkp (fun k_ hk_ hs_ => (hk_.2) hs_)) (fun k_ hk_ => ⟨hk_.1.1.1, hk_.1.1.2.1, hk_.1.1.2.2.1, hk_.1.1.2.2.2⟩)); have n7_ := Aside0.mk (Kd.R_mono (ok' := fun k_ => some k_ ≠ (.slice Ao27 t336.length co27 : Value).ownBlock ∧ some k_ ≠ (.slice Ao32 t345.length co32 : Value).ownBlock) (Kd.R_keptB (HO358.out) hkp (fun k_ hk_ hs_ => (hk_.2) hs_)) (fun k_ hk_ => ⟨hk_.1.1, hk_.1.2⟩)); have n8_ := Aside0.mk (hb); clear HO335; clear HO338; clear HO341; clear HO344; clear HO347; clear HO350; clear HO354; clear HO358; clear HB; have HO335 := n0_; have HO338 := n1_; have HO341 := n2_; have HO344 := n3_; have HO347 := n4_; have HO350 := n5_; have HO354 := n6_; have HO358 := n7_; have HB := n8_; clear n0_ n1_ n2_ n3_ n4_ n5_ n6_ n7_ n8_; (try clear hb); (try clear hkp); (try clear hy0)))
      (try simp only [Act.put, List.setIfInBounds_toArray, List.set_cons_zero, List.set_cons_succ])
      go_cut [63] (fun v63 wc => ∃ (kq : Nat) (x63_22 : Bool), v63 = .bool x63_22 ∧ Aside0 (laws_FnExactBatchMove.j0 kq l0 l1 t339 t348 x63_22 = some r) ∧ Aside0 (kq ≤ k) ∧ Aside0 (Kd.R k38 38 wc w.heap.size (fun k_ => some k_ ≠ ((.slice Ao34 t348.length co34) : Value).ownBlock) (.slice Ao35 t339.length co35) t339) ∧ Aside0 (Kd.R k38 38 wc w.heap.size (fun k_ => some k_ ≠ ((.slice Ao35 t339.length co35) : Value).ownBlock) (.slice Ao34 t348.length co34) t348) ∧ Aside0 (Below w.heap.size w wc))
      case first =>
       have H := HC23.out
       clear HC23
       by_cases c45 : t362 < 0
       ·rw [if_pos c45] at H
        have c45b0 : decide (t362 < 0) = true := decide_eq_true c45
        clear c45
        (first | rw [c45b0] | (simp only [i64_w, i32_w]; rw [c45b0]) | skip)
        have H' := Aside0.mk H
        clear H
        go_wp2
        go_meet
        case rel => exact ⟨_, (true), Q4, H', ⟨Q3⟩, ⟨by (with_reducible repeat (first | apply Kd.R_alloc | apply Kd.R_drewN | apply Kd.R_drew)); exact Kd.R_mono HO341.out (fun _ hk => hk.2.2.1)⟩, ⟨by (with_reducible repeat (first | apply Kd.R_alloc | apply Kd.R_drewN | apply Kd.R_drew)); exact Kd.R_mono HO350.out (fun _ hk => hk.2.1)⟩, ⟨Q64⟩⟩
       ·rw [if_neg c45] at H
        have c45b0 : decide (t362 < 0) = false := decide_eq_false c45
        clear c45
        (first | rw [c45b0] | (simp only [i64_w, i32_w]; rw [c45b0]) | skip)
        replace H := Option.bind_eq_some_iff.mp H
        obtain ⟨t364, A460, H⟩ := H
        replace H : (laws_FnExactBatchMove.j0 k l0 l1 t339 t348 (!t364)) = some r := H
        have A46 := Aside0.mk A460
        clear A460
        have H' := Aside0.mk H
        clear H
        go_wp2_with (first | (go_at_call 34; (with_reducible refine (laws_eqRowS.calls k _ _ t348 _ _ t339 t364 _ ?side1 ?side2 ?side3 ?side4 A46.out).mono ?_); (case side1 => repeat (first | exact (Kd.R_reads' HO350.out).2.2 | (with_reducible refine Kd.C_alloc ?_ _) | (with_reducible refine Kd.C_drewN ?_ _) | (with_reducible refine Kd.C_drew ?_))); (case side2 => exact (Kd.R_reads' HO350.out).2.1); (case side3 => repeat (first | exact (Kd.R_reads' HO341.out).2.2 | (with_reducible refine Kd.C_alloc ?_ _) | (with_reducible refine Kd.C_drewN ?_ _) | (with_reducible refine Kd.C_drew ?_))); (case side4 => exact (Kd.R_reads' HO341.out).2.1); rintro e w47 ⟨rfl, hb⟩; have n0_ := Aside0.mk (Kd.R_below Q23 hb); have n1_ := Aside0.mk (Kd.R_below Q24 hb); have n2_ := Aside0.mk (Kd.R_below Q25 hb); have n3_ := Aside0.mk (Kd.R_below Q26 hb); have n4_ := Aside0.mk (Kd.R_below Q27 hb); have n5_ := Aside0.mk (Kd.R_below Q28 hb); have n6_ := Aside0.mk (Kd.R_below Q29 hb); have n7_ := Aside0.mk (Kd.R_below (by (with_reducible repeat (first | apply Kd.R_alloc | apply Kd.R_drewN | apply Kd.R_drew)); exact HO358.out) hb); have n8_ := Aside0.mk (below_step Q64 hb); clear HO335; clear HO338; clear HO341; clear HO344; clear HO347; clear HO350; clear HO354; clear HO358; clear HB; have HO335 := n0_; have HO338 := n1_; have HO341 := n2_; have HO344 := n3_; have HO347 := n4_; have HO350 := n5_; have HO354 := n6_; have HO358 := n7_; have HB := n8_; clear n0_ n1_ n2_ n3_ n4_ n5_ n6_ n7_ n8_; (try clear hb); (try clear hb2); (try clear hk); (try clear hi)))
        go_meet
        case rel => exact ⟨_, (!t364), Q4, H', ⟨Q3⟩, ⟨by (with_reducible repeat (first | apply Kd.R_alloc | apply Kd.R_drewN | apply Kd.R_drew)); exact Kd.R_mono HO341.out (fun _ hk => hk.2.2.1)⟩, ⟨by (with_reducible repeat (first | apply Kd.R_alloc | apply Kd.R_drewN | apply Kd.R_drew)); exact Kd.R_mono HO350.out (fun _ hk => hk.2.1)⟩, ⟨Q64⟩⟩
      case rest =>
       clear HC23
       try clear c1
       try clear c2
       try clear p2
       try clear c3
       try clear c4
       try clear c4b0
       try clear c6
       try clear c6b0
       try clear c13
       try clear c14
       try clear c17
       try clear c19
       try clear c20
       try clear c32
       try clear c33
       try clear c34
       try clear c35
       try clear c40
       try clear c41
       try clear c42
       try clear c43
       try clear c45
       try clear c45b0
       obtain ⟨kq, x63_22, rfl, HA, HJ22, HO_6, HO_9, HB⟩ := hcut
       cases kq with
       | zero => exact absurd HA.out (by simp [laws_FnExactBatchMove.j0])
       | succ kj22 =>
        have H := HA.out
        clear HA
        simp only [laws_FnExactBatchMove.j0] at H
        by_cases c48 : x63_22 = true
        ·subst c48
         have H1 : (some false) = some r := by rw [if_pos rfl] at H; exact H
         clear H
         have H := H1
         clear H1
         exact absurd ((Option.some.inj H).trans hq_.out) Q0
        ·replace c48 := Bool.eq_false_iff.mpr c48
         subst c48
         have H1 : ((laws_markRowS.f t348 1).bind fun bt365 => ((laws_heldRowS.f kj22 bt365.2 1).bind fun t367 => (if t367 < 0 then (some false) else (if t367 = bt365.1 then ((laws_toRowS.f kj22 l0).bind fun t368 => ((laws_toTimeS.f kj22 l1).bind fun t371 => ((impl_BatchMove.f kj22 t368 t371).bind fun t374 => ((laws_eqRowS.f kj22 t374 t339).bind fun t377 => (if t377 = true then ((laws_heldRowS.f kj22 bt365.2 1).bind fun t378 => (if t378 < 0 then (some false) else (if t378 = bt365.1 then (some true) else (some false)))) else (some false)))))) else (some false))))) = some r := by rw [if_neg (show ¬ (false = true) by decide)] at H; exact H
         clear H
         have H := H1
         clear H1
         replace H := Option.bind_eq_some_iff.mp H
         obtain ⟨⟨t365, t366⟩, A490, H⟩ := H
         replace H : ((laws_heldRowS.f kj22 t366 1).bind fun t367 => (if t367 < 0 then (some false) else (if t367 = t365 then ((laws_toRowS.f kj22 l0).bind fun t368 => ((laws_toTimeS.f kj22 l1).bind fun t371 => ((impl_BatchMove.f kj22 t368 t371).bind fun t374 => ((laws_eqRowS.f kj22 t374 t339).bind fun t377 => (if t377 = true then ((laws_heldRowS.f kj22 t366 1).bind fun t378 => (if t378 < 0 then (some false) else (if t378 = t365 then (some true) else (some false)))) else (some false)))))) else (some false)))) = some r := H
         have A49 := Aside0.mk A490
         clear A490
         replace H := Option.bind_eq_some_iff.mp H
         obtain ⟨t367, A500, H⟩ := H
         replace H : (if t367 < 0 then (some false) else (if t367 = t365 then ((laws_toRowS.f kj22 l0).bind fun t368 => ((laws_toTimeS.f kj22 l1).bind fun t371 => ((impl_BatchMove.f kj22 t368 t371).bind fun t374 => ((laws_eqRowS.f kj22 t374 t339).bind fun t377 => (if t377 = true then ((laws_heldRowS.f kj22 t366 1).bind fun t378 => (if t378 < 0 then (some false) else (if t378 = t365 then (some true) else (some false)))) else (some false)))))) else (some false))) = some r := H
         have A50 := Aside0.mk A500
         clear A500
         by_cases c51 : t367 < 0
         ·rw [if_pos c51] at H
          have c51b0 : decide (t367 < 0) = true := decide_eq_true c51
          clear c51
          exact absurd ((Option.some.inj H).trans hq_.out) Q0
         ·rw [if_neg c51] at H
          have c51b0 : decide (t367 < 0) = false := decide_eq_false c51
          clear c51
          by_cases c52 : t367 = t365
          ·rw [if_pos c52] at H
           have c52b0 : (t367 == t365) = true := beq_iff_eq.mpr c52
           have c52b1 : (t367 != t365) = false := bne_eq_false_iff_eq.mpr c52
           clear c52
           replace H := Option.bind_eq_some_iff.mp H
           obtain ⟨t368, A530, H⟩ := H
           replace H : ((laws_toTimeS.f kj22 l1).bind fun t371 => ((impl_BatchMove.f kj22 t368 t371).bind fun t374 => ((laws_eqRowS.f kj22 t374 t339).bind fun t377 => (if t377 = true then ((laws_heldRowS.f kj22 t366 1).bind fun t378 => (if t378 < 0 then (some false) else (if t378 = t365 then (some true) else (some false)))) else (some false))))) = some r := H
           have A53 := Aside0.mk A530
           clear A530
           replace H := Option.bind_eq_some_iff.mp H
           obtain ⟨t371, A540, H⟩ := H
           replace H : ((impl_BatchMove.f kj22 t368 t371).bind fun t374 => ((laws_eqRowS.f kj22 t374 t339).bind fun t377 => (if t377 = true then ((laws_heldRowS.f kj22 t366 1).bind fun t378 => (if t378 < 0 then (some false) else (if t378 = t365 then (some true) else (some false)))) else (some false)))) = some r := H
           have A54 := Aside0.mk A540
           clear A540
           replace H := Option.bind_eq_some_iff.mp H
           obtain ⟨t374, A550, H⟩ := H
           replace H : ((laws_eqRowS.f kj22 t374 t339).bind fun t377 => (if t377 = true then ((laws_heldRowS.f kj22 t366 1).bind fun t378 => (if t378 < 0 then (some false) else (if t378 = t365 then (some true) else (some false)))) else (some false))) = some r := H
           have A55 := Aside0.mk A550
           clear A550
           replace H := Option.bind_eq_some_iff.mp H
           obtain ⟨t377, A560, H⟩ := H
           replace H : (if t377 = true then ((laws_heldRowS.f kj22 t366 1).bind fun t378 => (if t378 < 0 then (some false) else (if t378 = t365 then (some true) else (some false)))) else (some false)) = some r := H
           have A56 := Aside0.mk A560
           clear A560
           by_cases c57 : t377 = true
           ·subst c57
            have H1 : ((laws_heldRowS.f kj22 t366 1).bind fun t378 => (if t378 < 0 then (some false) else (if t378 = t365 then (some true) else (some false)))) = some r := by rw [if_pos rfl] at H; exact H
            clear H
            have H := H1
            clear H1
            replace H := Option.bind_eq_some_iff.mp H
            obtain ⟨t378, A580, H⟩ := H
            replace H : (if t378 < 0 then (some false) else (if t378 = t365 then (some true) else (some false))) = some r := H
            have A58 := Aside0.mk A580
            clear A580
            by_cases c59 : t378 < 0
            ·rw [if_pos c59] at H
             have c59b0 : decide (t378 < 0) = true := decide_eq_true c59
             clear c59
             exact absurd ((Option.some.inj H).trans hq_.out) Q0
            ·rw [if_neg c59] at H
             have c59b0 : decide (t378 < 0) = false := decide_eq_false c59
             clear c59
             by_cases c60 : t378 = t365
             ·rw [if_pos c60] at H
              have c60b0 : (t378 == t365) = true := beq_iff_eq.mpr c60
              have c60b1 : (t378 != t365) = false := bne_eq_false_iff_eq.mpr c60
              clear c60
              obtain rfl := Option.some.inj H
              go_wp2_with (first | ((with_reducible refine gate_callee (f := 35) rfl ?_); refine goesL_ (some 66) rfl rfl Try.func35 Q1 rfl #[.slice Ao34 t348.length co34, .int .i64 1] rfl Q65 ?_; (with_reducible refine (laws_markRowS.calls (fun k_ => some k_ = (.slice Ao34 t348.length co34 : Value).ownBlock) (.slice Ao34 t348.length co34) t348 1 t365 t366 w _ ?side1 ?side2 A49.out).mono ?_); (case side1 => repeat (first | (with_reducible first | exact HB.out | apply below_alloc | apply pw_below_drewN | apply below_drew1) | exact HB.out)); (case side2 => exact Kd.R_tight rfl HO_9.out); rintro e w61 ⟨rfl, hy0, hb, hkp⟩; refine ⟨_, rfl, ?_⟩; have n0_ := Aside0.mk (Kd.R_mono (ok' := fun k_ => some k_ ≠ (.slice Ao34 t348.length co34 : Value).ownBlock) (Kd.R_keptB (HO_6.out) hkp (fun k_ hk_ hs_ => (hk_) hs_)) (fun k_ hk_ => hk_.1)); have n1_ := Aside0.mk (Kd.R_reok rfl hy0 (fun k_ e_ => HO_9.out.1 k_ e_)); have n2_ := Aside0.mk (hb); clear HO_6; clear HO_9; clear HB; have HO_6 := n0_; have HO_9 := n1_; have HB := n2_; clear n0_ n1_ n2_; (try clear hb); (try clear hkp); (try clear hy0)) | ((with_reducible refine gate_callee (f := 36) rfl ?_); refine goesL_ (some 69) rfl rfl Try.func36 Q1 rfl #[.slice Ao34 t366.length co34, .int .i64 1] rfl (by (try simp only [List.map_toArray, List.map_cons, List.map_nil]); first | done | (rw [show t366.length = t348.length from (Kd.R_reads' HO_9.out).1.symm] <;> rfl) | rfl | (simp only [List.length_drop, List.length_take]; rfl)) ?_; (with_reducible refine (laws_heldRowS.calls kj22 _ _ t366 1 t367 _ ?side1 ?side2 A50.out).mono ?_); (case side1 => repeat (first | exact (Kd.R_reads' HO_9.out).2.2 | (with_reducible refine Kd.C_alloc ?_ _) | (with_reducible refine Kd.C_drewN ?_ _) | (with_reducible refine Kd.C_drew ?_))); (case side2 => rw [show t366.length = t348.length from (Kd.R_reads' HO_9.out).1.symm]; exact (Kd.R_reads' HO_9.out).2.1); rintro e w' ⟨rfl, ⟨nd, rfl⟩⟩; refine ⟨_, rfl, ?_⟩) | ((with_reducible refine gate_callee (f := 33) rfl ?_); refine goesL_ (some 76) rfl rfl Try.func33 Q1 rfl #[.slice A0 l0.length c0] rfl Q65 ?_; (with_reducible refine (laws_toRowS.calls kj22 _ _ l0 t368 _ ?side1 ?side2 A53.out).mono ?_); (case side1 => repeat (first | exact (Kd.C_below HR0.out Q64) | (with_reducible refine Kd.C_alloc ?_ _) | (with_reducible refine Kd.C_drewN ?_ _) | (with_reducible refine Kd.C_drew ?_))); (case side2 => exact HC0.out); rintro e w62 ⟨v369, rfl, ho0, hb⟩; refine ⟨_, rfl, ?_⟩; have n0_ := Aside0.mk (Kd.R_elder' Q16 (Kd.R_base ho0) hb); have n1_ := Aside0.mk (Kd.R_elder' Q19 (Kd.R_base ho0) hb); have n2_ := Aside0.mk (Kd.R_lower (Kd.R_new' (Kd.R_new' ho0 (Kd.R_lt Q16)) (Kd.R_lt Q19)) (below_size Q64)); have n3_ := Aside0.mk (below_step Q64 hb); clear HO_6; clear HO_9; clear HB; have HO_6 := n0_; have HO_9 := n1_; have HO370 := n2_; have HB := n3_; clear n0_ n1_ n2_ n3_; (try clear hb); (try clear hb2); (try clear hk); (try clear hi); (try clear ho0)) | ((with_reducible refine gate_callee (f := 41) rfl ?_); refine goesL_ (some 78) rfl rfl Try.func41 Q1 rfl #[.slice A1 l1.length c1] rfl Q65 ?_; (with_reducible refine (laws_toTimeS.calls kj22 _ _ l1 t371 _ ?side1 ?side2 A54.out).mono ?_); (case side1 => repeat (first | exact (Kd.C_below HR1.out HB.out) | (with_reducible refine Kd.C_alloc ?_ _) | (with_reducible refine Kd.C_drewN ?_ _) | (with_reducible refine Kd.C_drew ?_))); (case side2 => exact HC1.out); rintro e w63 ⟨v372, rfl, ho0, hb⟩; refine ⟨_, rfl, ?_⟩; have n0_ := Aside0.mk (Kd.R_below Q16 hb); have n1_ := Aside0.mk (Kd.R_below Q19 hb); have n2_ := Aside0.mk (Kd.R_below Q30 hb); have n3_ := Aside0.mk (Kd.R_lower ho0 (below_size Q64)); have n4_ := Aside0.mk (below_step Q64 hb); clear HO_6; clear HO_9; clear HO370; clear HB; have HO_6 := n0_; have HO_9 := n1_; have HO370 := n2_; have HO373 := n3_; have HB := n4_; clear n0_ n1_ n2_ n3_ n4_; (try clear hb); (try clear hb2); (try clear hk); (try clear hi); (try clear ho0); obtain ⟨Ao64, co64, eo64⟩ := Kd.R_slice HO370.out; subst eo64; obtain ⟨Ao65, co65, eo65⟩ := Kd.R_slice HO373.out; subst eo65) | ((with_reducible refine gate_callee (f := 17) rfl ?_); refine goesL_ (some 79) rfl rfl Try.func17 Q1 rfl #[.slice Ao64 t368.length co64, .slice Ao65 t371.length co65] rfl Q65 ?_; (with_reducible refine (impl_BatchMove.calls kj22 _ _ t368 _ _ t371 t374 _ ?side1 ?side2 ?side3 ?side4 A55.out).mono ?_); (case side1 => repeat (first | exact (Kd.R_reads' HO370.out).2.2 | (with_reducible refine Kd.C_alloc ?_ _) | (with_reducible refine Kd.C_drewN ?_ _) | (with_reducible refine Kd.C_drew ?_))); (case side2 => exact (Kd.R_reads' HO370.out).2.1); (case side3 => repeat (first | exact (Kd.R_reads' HO373.out).2.2 | (with_reducible refine Kd.C_alloc ?_ _) | (with_reducible refine Kd.C_drewN ?_ _) | (with_reducible refine Kd.C_drew ?_))); (case side4 => exact (Kd.R_reads' HO373.out).2.1); rintro e w66 ⟨v375, rfl, ho0, hb⟩; refine ⟨_, rfl, ?_⟩; have n0_ := Aside0.mk (Kd.R_elder' Q16 (Kd.R_base ho0) hb); have n1_ := Aside0.mk (Kd.R_elder' Q19 (Kd.R_base ho0) hb); have n2_ := Aside0.mk (Kd.R_elder' Q30 (Kd.R_base ho0) hb); have n3_ := Aside0.mk (Kd.R_below (by (with_reducible repeat (first | apply Kd.R_alloc | apply Kd.R_drewN | apply Kd.R_drew)); exact HO373.out) hb); have n4_ := Aside0.mk (Kd.R_lower (Kd.R_new' (Kd.R_new' (Kd.R_new' ho0 (Kd.R_lt Q16)) (Kd.R_lt Q19)) (Kd.R_lt Q30)) (below_size Q64)); have n5_ := Aside0.mk (below_step Q64 hb); clear HO_6; clear HO_9; clear HO370; clear HO373; clear HB; have HO_6 := n0_; have HO_9 := n1_; have HO370 := n2_; have HO373 := n3_; have HO376 := n4_; have HB := n5_; clear n0_ n1_ n2_ n3_ n4_ n5_; (try clear hb); (try clear hb2); (try clear hk); (try clear hi); (try clear ho0); obtain ⟨Ao67, co67, eo67⟩ := Kd.R_slice HO376.out; subst eo67) | ((with_reducible refine gate_callee (f := 34) rfl ?_); refine goesL_ (some 82) rfl rfl Try.func34 Q1 rfl #[.slice Ao67 t374.length co67, .slice Ao35 t339.length co35] rfl Q65 ?_; (with_reducible refine (laws_eqRowS.calls kj22 _ _ t374 _ _ t339 true _ ?side1 ?side2 ?side3 ?side4 A56.out).mono ?_); (case side1 => repeat (first | exact (Kd.R_reads' HO376.out).2.2 | (with_reducible refine Kd.C_alloc ?_ _) | (with_reducible refine Kd.C_drewN ?_ _) | (with_reducible refine Kd.C_drew ?_))); (case side2 => exact (Kd.R_reads' HO376.out).2.1); (case side3 => repeat (first | exact (Kd.R_reads' HO_6.out).2.2 | (with_reducible refine Kd.C_alloc ?_ _) | (with_reducible refine Kd.C_drewN ?_ _) | (with_reducible refine Kd.C_drew ?_))); (case side4 => exact (Kd.R_reads' HO_6.out).2.1); rintro e w68 ⟨rfl, hb⟩; refine ⟨_, rfl, ?_⟩; have n0_ := Aside0.mk (Kd.R_below Q16 hb); have n1_ := Aside0.mk (Kd.R_below Q19 hb); have n2_ := Aside0.mk (Kd.R_below Q30 hb); have n3_ := Aside0.mk (Kd.R_below (by (with_reducible repeat (first | apply Kd.R_alloc | apply Kd.R_drewN | apply Kd.R_drew)); exact HO373.out) hb); have n4_ := Aside0.mk (Kd.R_below (by (with_reducible repeat (first | apply Kd.R_alloc | apply Kd.R_drewN | apply Kd.R_drew)); exact HO376.out) hb); have n5_ := Aside0.mk (below_step Q64 hb); clear HO_6; clear HO_9; clear HO370; clear HO373; clear HO376; clear HB; have HO_6 := n0_; have HO_9 := n1_; have HO370 := n2_; have HO373 := n3_; have HO376 := n4_; have HB := n5_; clear n0_ n1_ n2_ n3_ n4_ n5_; (try clear hb); (try clear hb2); (try clear hk); (try clear hi)) | ((with_reducible refine gate_callee (f := 36) rfl ?_); refine goesL_ (some 86) rfl rfl Try.func36 Q1 rfl #[.slice Ao34 t366.length co34, .int .i64 1] rfl (by (try simp only [List.map_toArray, List.map_cons, List.map_nil]); first | done | (rw [show t366.length = t348.length from (Kd.R_reads' HO_9.out).1.symm] <;> rfl) | rfl | (simp only [List.length_drop, List.length_take]; rfl)) ?_; (with_reducible refine (laws_heldRowS.calls kj22 _ _ t366 1 t378 _ ?side1 ?side2 A58.out).mono ?_); (case side1 => repeat (first | exact (Kd.R_reads' HO_9.out).2.2 | (with_reducible refine Kd.C_alloc ?_ _) | (with_reducible refine Kd.C_drewN ?_ _) | (with_reducible refine Kd.C_drew ?_))); (case side2 => rw [show t366.length = t348.length from (Kd.R_reads' HO_9.out).1.symm]; exact (Kd.R_reads' HO_9.out).2.1); rintro e w' ⟨rfl, ⟨nd, rfl⟩⟩; refine ⟨_, rfl, ?_⟩))
              go_ret
              exact ⟨Q62, Q64⟩
             ·rw [if_neg c60] at H
              have c60b0 : (t378 == t365) = false := beq_eq_false_iff_ne.mpr c60
              have c60b1 : (t378 != t365) = true := bne_iff_ne.mpr c60
              exact absurd ((Option.some.inj H).trans hq_.out) Q0
           ·replace c57 := Bool.eq_false_iff.mpr c57
            subst c57
            have H1 : (some false) = some r := by rw [if_neg (show ¬ (false = true) by decide)] at H; exact H
            clear H
            have H := H1
            clear H1
            exact absurd ((Option.some.inj H).trans hq_.out) Q0
          ·rw [if_neg c52] at H
           have c52b0 : (t367 == t365) = false := beq_eq_false_iff_ne.mpr c52
           have c52b1 : (t367 != t365) = true := bne_iff_ne.mpr c52
           exact absurd ((Option.some.inj H).trans hq_.out) Q0
     ·replace c20 := Bool.eq_false_iff.mpr c20
      subst c20
      have H1 : (some false) = some r := by rw [if_neg (show ¬ (false = true) by decide)] at H; exact H
      clear H
      have H := H1
      clear H1
      exact absurd ((Option.some.inj H).trans hq_.out) Q0
    ·replace c17 := Bool.eq_false_iff.mpr c17
     subst c17
     have H1 : (some false) = some r := by rw [if_neg (show ¬ (false = true) by decide)] at H; exact H
     clear H
     have H := H1
     clear H1
     exact absurd ((Option.some.inj H).trans hq_.out) Q0
   ·replace c14 := Bool.eq_false_iff.mpr c14
    subst c14
    have H1 : (some false) = some r := by rw [if_neg (show ¬ (false = true) by decide)] at H; exact H
    clear H
    have H := H1
    clear H1
    exact absurd ((Option.some.inj H).trans hq_.out) Q0
end Go.Proofs.Ytjlkffmdmifahaa.PFnExactBatchMove
