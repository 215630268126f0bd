/- Functions that the law comes to: each as a plain Lean function, with the contract of the Go function. -/
import Derived.Test.YtjlkffmdmifahaaVFnBatchTurnw
import Derived.Test.YtjlkffmdmifahaaVFnBatchTurnp0
import Derived.Test.YtjlkffmdmifahaaVFnBatchTurnp1
import Derived.Test.YtjlkffmdmifahaaVFnBatchTurnp2
namespace Go.Proofs.Ytjlkffmdmifahaa.PFnBatchTurn
open Go.RowKit Go.Proofs.YtjlkffmdmifahaaW.PrintWords Go.Proofs.YtjlkffmdmifahaaW.PrintLast Go.Proofs.YtjlkffmdmifahaaW.PrintMore
attribute [local go_sem] max2_int min2_int max_two min_two max_three min_three max_four min_four
set_option linter.unusedVariables false
set_option linter.unusedSimpArgs false
attribute [local go_sem high] eqA38
def spec_l71Any.f (k : Nat) (s0_0 : List Int) (s0_1 : Int) : Option ((List (S38)) × Int) := (spec_l71Rows.f k s0_0 s0_1 10).bind fun bt297 => ((spec_l6Rd_pick.f k s0_0 bt297.2 14).bind fun bt301 => (if bt301.1 = 0 then ((spec_l71Spoil.f k s0_0 bt301.2 bt297.1).bind fun bt303 => (some (bt303.1, bt303.2))) else (some (bt297.1, bt301.2))))
theorem spec_l71Any.mono : ∀ a0 a1 k, LeO (spec_l71Any.f k a0 a1) (spec_l71Any.f (k + 1) a0 a1) := by
 intro a0 a1 k
 unfold spec_l71Any.f
 repeat' first
   | (with_reducible exact spec_l6Rd_pick.mono _ _ _ _)
   | (with_reducible exact spec_l71Rows.mono _ _ _ _)
   | (with_reducible exact spec_l71Spoil.mono _ _ _ _)
   | (with_reducible exact LeO.refl _)
   | (with_reducible exact LeO.none _)
   | (with_reducible refine LeO.ite ?_ ?_)
   | (with_reducible refine LeO.bind ?_ (fun _ => ?_))
   | exact spec_l6Rd_pick.mono _ _ _ _
   | exact spec_l71Rows.mono _ _ _ _
   | exact spec_l71Spoil.mono _ _ _ _
   | exact LeO.none _
   | refine LeO.ite ?_ ?_
   | refine LeO.bind ?_ (fun _ => ?_)
set_option maxHeartbeats 8000000 in
set_option maxRecDepth 100000 in
theorem spec_l71Any.calls (k : Nat) (g : Nat) (s0_0 : List Int) (s0_1 : Int) (r1 : List (S38)) (r2 : Int) (w0 w : World) (hI : IsS87 w0 w g s0_0 s0_1) (hB : Below w0.heap.size w0 w) (h : spec_l71Any.f k s0_0 s0_1 = some (r1, r2)) :
  Calls Try.prog 51 #[.pointer (some ⟨g, 0, none⟩)] w fun e w' => ∃ v0_ : Value, e = .returned (v0_) ∧ Kd.R k38 38 w' w.heap.size (fun _ => True) v0_ r1 ∧ IsS87 w0 w' g s0_0 r2 ∧ Below w0.heap.size w0 w' ∧ KeepBut w w' g none := by
 have HI0 := Aside0.mk hI
 have HK := Aside0.mk (KeepBut.refl w g none)
 have HL := Aside0.mk hB.size
 clear hI
 have HW0 := Aside0.mk hB.size
 have HB := Aside0.mk hB
 clear hB
 have H : ((spec_l71Rows.f k s0_0 s0_1 10).bind fun bt297 => ((spec_l6Rd_pick.f k s0_0 bt297.2 14).bind fun bt301 => (if bt301.1 = 0 then ((spec_l71Spoil.f k s0_0 bt301.2 bt297.1).bind fun bt303 => (some (bt303.1, bt303.2))) else (some (bt297.1, bt301.2))))) = some (r1, r2) := h
 clear h
 replace H := Option.bind_eq_some_iff.mp H
 obtain ⟨⟨t297, t300⟩, A20, H⟩ := H
 replace H : ((spec_l6Rd_pick.f k s0_0 t300 14).bind fun bt301 => (if bt301.1 = 0 then ((spec_l71Spoil.f k s0_0 bt301.2 t297).bind fun bt303 => (some (bt303.1, bt303.2))) else (some (t297, bt301.2)))) = some (r1, r2) := H
 have A2 := Aside0.mk A20
 clear A20
 replace H := Option.bind_eq_some_iff.mp H
 obtain ⟨⟨t301, t302⟩, A30, H⟩ := H
 replace H : (if t301 = 0 then ((spec_l71Spoil.f k s0_0 t302 t297).bind fun bt303 => (some (bt303.1, bt303.2))) else (some (t297, t302))) = some (r1, r2) := H
 have A3 := Aside0.mk A30
 clear A30
 by_cases c4 : t301 = 0
 ·rw [if_pos c4] at H
  have c4b0 : (t301 == 0) = true := beq_iff_eq.mpr c4
  have c4b1 : (t301 != 0) = false := bne_eq_false_iff_eq.mpr c4
  clear c4
  replace H := Option.bind_eq_some_iff.mp H
  obtain ⟨⟨t303, t306⟩, A50, H⟩ := H
  replace H : (some (t303, t306)) = some (r1, r2) := H
  have A5 := Aside0.mk A50
  clear A50
  simp only [Option.some.injEq, Prod.mk.injEq] at H
  obtain ⟨rfl, rfl⟩ := H
  go_enter Try.func51, Try.ntmps51
  go_wp2_with (first | ((with_reducible refine gate_callee (f := 80) rfl ?_); refine goesL_ (some 5) rfl rfl Try.func80 Q2 rfl #[.pointer (some ⟨g, 0, none⟩), .int .i64 10] rfl Q39 ?_; (with_reducible refine (spec_l71Rows.calls k g s0_0 s0_1 10 t297 t300 w0 _ ?side1 ?side2 A2.out).mono ?_); (case side1 => exact Q43); (case side2 => exact Q56); rintro e w6 ⟨v298, rfl, ho0, hi, hb, hk⟩; refine ⟨_, rfl, ?_⟩; have n0_ := Aside0.mk (Kd.R_lower ho0 (keep_size (w := w) (g := g) (row := none) Q42)); have n1_ := Aside0.mk (KeepBut.trans Q42 hk (.inl rfl)); have n2_ := Aside0.mk (hb); have n3_ := Aside0.mk (hi); clear HK; clear HB; clear HI0; have HO299 := n0_; have HK := n1_; have HB := n2_; have HI0 := n3_; clear n0_ n1_ n2_ n3_; (try clear hb); (try clear hb2); (try clear hk); (try clear hi); (try clear ho0)) | ((with_reducible refine gate_callee (f := 68) rfl ?_); refine goesL_ (some 7) rfl rfl Try.func68 Q2 rfl #[.pointer (some ⟨g, 0, none⟩), .int .i64 14] rfl Q39 ?_; (with_reducible refine (spec_l6Rd_pick.calls k g s0_0 t300 14 t301 t302 w0 _ ?side1 ?side2 A3.out).mono ?_); (case side1 => exact Q43); (case side2 => exact Q56); rintro e w7 ⟨rfl, hi, hb, hk⟩; refine ⟨_, rfl, ?_⟩; have n0_ := Aside0.mk (Kd.R_mono (Kd.R_keep (IsS87.apart (show IsS87 w0 _ g s0_0 t300 from by repeat (first | (with_reducible first | exact HI0.out | apply IsS87.alloc | apply IsS87.drewN | apply IsS87.drew | apply IsS87.set_1) | exact HI0.out)) Q17 Q1) hk (fun _ h => h.2)) (fun _ h => h.1)); have n1_ := Aside0.mk (KeepBut.trans Q42 hk (.inl rfl)); have n2_ := Aside0.mk (hb); have n3_ := Aside0.mk (hi); clear HO299; clear HK; clear HB; clear HI0; have HO299 := n0_; have HK := n1_; have HB := n2_; have HI0 := n3_; clear n0_ n1_ n2_ n3_; (try clear hb); (try clear hb2); (try clear hk); (try clear hi); obtain ⟨Ao8, co8, eo8⟩ := Kd.R_slice HO299.out; subst eo8) | ((with_reducible refine gate_callee (f := 81) rfl ?_); refine goesL_ (some 11) rfl rfl Try.func81 Q2 rfl #[.pointer (some ⟨g, 0, none⟩), .slice Ao8 t297.length co8] rfl Q39 ?_; (with_reducible refine (spec_l71Spoil.calls k g s0_0 t302 _ _ t297 t303 t306 w0 _ ?side1 ?side2 ?side3 ?side4 A5.out).mono ?_); (case side1 => exact Q43); (case side2 => exact Q56); (case side3 => exact Kd.C_foot_own (IsS87.apart (show IsS87 w0 _ g s0_0 t302 from by repeat (first | (with_reducible first | exact HI0.out | apply IsS87.alloc | apply IsS87.drewN | apply IsS87.drew | apply IsS87.set_1) | exact HI0.out)) Q17 Q1) (fun _ h_ => h_.2)); (case side4 => exact (Kd.R_reads' HO299.out).2.1); rintro e w9 ⟨v304, rfl, ho0, hi, hb, hk⟩; refine ⟨_, rfl, ?_⟩; have n0_ := Aside0.mk (Kd.R_mono (Kd.R_told (Kd.R_oldK (IsS87.apart (show IsS87 w0 _ g s0_0 t302 from by repeat (first | (with_reducible first | exact HI0.out | apply IsS87.alloc | apply IsS87.drewN | apply IsS87.drew | apply IsS87.set_1) | exact HI0.out)) Q17 Q1) hk) (Kd.R_base ho0)) (fun _ h_ => h_.1)); have n1_ := Aside0.mk (Kd.R_lower (Kd.R_new' ho0 (Kd.R_lt Q17)) (keep_size (w := w) (g := g) (row := none) Q42)); have n2_ := Aside0.mk (KeepBut.trans Q42 hk (.inl rfl)); have n3_ := Aside0.mk (hb); have n4_ := Aside0.mk (hi); clear HO299; clear HK; clear HB; clear HI0; have HO299 := n0_; have HO305 := n1_; have HK := n2_; have HB := n3_; have HI0 := n4_; clear n0_ n1_ n2_ n3_ n4_; (try clear hb); (try clear hb2); (try clear hk); (try clear hi); (try clear ho0)))
  go_ret
  exact ⟨_, Q10, by (with_reducible repeat (first | apply Kd.R_alloc | apply Kd.R_drewN | apply Kd.R_drew)); exact Kd.R_mono HO305.out (fun _ hk => trivial), Q43, Q56, Q42⟩
 ·rw [if_neg c4] at H
  have c4b0 : (t301 == 0) = false := beq_eq_false_iff_ne.mpr c4
  have c4b1 : (t301 != 0) = true := bne_iff_ne.mpr c4
  simp only [Option.some.injEq, Prod.mk.injEq] at H
  obtain ⟨rfl, rfl⟩ := H
  go_enter Try.func51, Try.ntmps51
  go_wp2_with (first | ((with_reducible refine gate_callee (f := 80) rfl ?_); refine goesL_ (some 5) rfl rfl Try.func80 Q2 rfl #[.pointer (some ⟨g, 0, none⟩), .int .i64 10] rfl Q39 ?_; (with_reducible refine (spec_l71Rows.calls k g s0_0 s0_1 10 t297 t300 w0 _ ?side1 ?side2 A2.out).mono ?_); (case side1 => exact Q43); (case side2 => exact Q56); rintro e w10 ⟨v298, rfl, ho0, hi, hb, hk⟩; refine ⟨_, rfl, ?_⟩; have n0_ := Aside0.mk (Kd.R_lower ho0 (keep_size (w := w) (g := g) (row := none) Q42)); have n1_ := Aside0.mk (KeepBut.trans Q42 hk (.inl rfl)); have n2_ := Aside0.mk (hb); have n3_ := Aside0.mk (hi); clear HK; clear HB; clear HI0; have HO299 := n0_; have HK := n1_; have HB := n2_; have HI0 := n3_; clear n0_ n1_ n2_ n3_; (try clear hb); (try clear hb2); (try clear hk); (try clear hi); (try clear ho0)) | ((with_reducible refine gate_callee (f := 68) rfl ?_); refine goesL_ (some 7) rfl rfl Try.func68 Q2 rfl #[.pointer (some ⟨g, 0, none⟩), .int .i64 14] rfl Q39 ?_; (with_reducible refine (spec_l6Rd_pick.calls k g s0_0 t300 14 t301 t302 w0 _ ?side1 ?side2 A3.out).mono ?_); (case side1 => exact Q43); (case side2 => exact Q56); rintro e w11 ⟨rfl, hi, hb, hk⟩; refine ⟨_, rfl, ?_⟩; have n0_ := Aside0.mk (Kd.R_mono (Kd.R_keep (IsS87.apart (show IsS87 w0 _ g s0_0 t300 from by repeat (first | (with_reducible first | exact HI0.out | apply IsS87.alloc | apply IsS87.drewN | apply IsS87.drew | apply IsS87.set_1) | exact HI0.out)) Q17 Q1) hk (fun _ h => h.2)) (fun _ h => h.1)); have n1_ := Aside0.mk (KeepBut.trans Q42 hk (.inl rfl)); have n2_ := Aside0.mk (hb); have n3_ := Aside0.mk (hi); clear HO299; clear HK; clear HB; clear HI0; have HO299 := n0_; have HK := n1_; have HB := n2_; have HI0 := n3_; clear n0_ n1_ n2_ n3_; (try clear hb); (try clear hb2); (try clear hk); (try clear hi)))
  go_ret
  exact ⟨_, Q10, Q17, Q43, Q56, Q42⟩
def spec_DrawBatchBoth.f (k : Nat) (l0 : List Int) : Option ((List (S38)) × (List (S38))) := (spec_l6Open.f l0).bind fun bt307 => ((spec_l71Any.f k bt307.1 bt307.2).bind fun bt310 => ((spec_l71Any.f k bt307.1 bt310.2).bind fun bt314 => (some (bt310.1, bt314.1))))
theorem spec_DrawBatchBoth.mono : ∀ a0 k, LeO (spec_DrawBatchBoth.f k a0) (spec_DrawBatchBoth.f (k + 1) a0) := by
 intro a0 k
 unfold spec_DrawBatchBoth.f
 repeat' first
   | (with_reducible exact spec_l71Any.mono _ _ _)
   | (with_reducible exact LeO.refl _)
   | (with_reducible exact LeO.none _)
   | (with_reducible refine LeO.ite ?_ ?_)
   | (with_reducible refine LeO.bind ?_ (fun _ => ?_))
   | exact spec_l71Any.mono _ _ _
   | exact LeO.none _
   | refine LeO.ite ?_ ?_
   | refine LeO.bind ?_ (fun _ => ?_)
set_option maxHeartbeats 8000000 in
set_option maxRecDepth 100000 in
theorem spec_DrawBatchBoth.calls (k : Nat) (A0 : Option Addr) (c0 : Nat) (l0 : List Int) (r1 : List (S38)) (r2 : List (S38)) (w : World) (hr0 : Kd.C (Kd.int .u8) w A0 l0.length l0) (hc0 : l0.length ≤ c0) (h : spec_DrawBatchBoth.f k l0 = some (r1, r2)) :
  Calls Try.prog 28 #[.slice A0 l0.length c0] w fun e w' => ∃ v0_ v1_ : Value, e = .returned (.tuple #[v0_, v1_]) ∧ Kd.R k38 38 w' w.heap.size (fun k_ => some k_ ≠ (v1_ : Value).ownBlock) v0_ r1 ∧ Kd.R k38 38 w' w.heap.size (fun k_ => some k_ ≠ (v0_ : Value).ownBlock) v1_ r2 ∧ Below w.heap.size w w' := by
 have HR0 := Aside0.mk hr0
 have HC0 := Aside0.mk hc0
 clear hr0 hc0
 have HB := Aside0.mk (Below.refl w.heap.size w)
 have H : ((spec_l6Open.f l0).bind fun bt307 => ((spec_l71Any.f k bt307.1 bt307.2).bind fun bt310 => ((spec_l71Any.f k bt307.1 bt310.2).bind fun bt314 => (some (bt310.1, bt314.1))))) = some (r1, r2) := h
 clear h
 replace H := Option.bind_eq_some_iff.mp H
 obtain ⟨⟨t307, t308⟩, A20, H⟩ := H
 replace H : ((spec_l71Any.f k t307 t308).bind fun bt310 => ((spec_l71Any.f k t307 bt310.2).bind fun bt314 => (some (bt310.1, bt314.1)))) = some (r1, r2) := H
 have A2 := Aside0.mk A20
 clear A20
 replace H := Option.bind_eq_some_iff.mp H
 obtain ⟨⟨t310, t313⟩, A30, H⟩ := H
 replace H : ((spec_l71Any.f k t307 t313).bind fun bt314 => (some (t310, bt314.1))) = some (r1, r2) := H
 have A3 := Aside0.mk A30
 clear A30
 replace H := Option.bind_eq_some_iff.mp H
 obtain ⟨⟨t314, t317⟩, A40, H⟩ := H
 replace H : (some (t310, t314)) = some (r1, r2) := H
 have A4 := Aside0.mk A40
 clear A40
 simp only [Option.some.injEq, Prod.mk.injEq] at H
 obtain ⟨rfl, rfl⟩ := H
 go_enter Try.func28, Try.ntmps28
 go_wp2_with (first | ((with_reducible refine gate_callee (f := 50) rfl ?_); refine goesL_ (some 6) rfl rfl Try.func50 Q2 rfl #[.slice A0 l0.length c0] rfl Q39 ?_; (with_reducible refine (spec_l6Open.calls _ _ l0 t307 t308 w _ ?side1 ?side2 ?side3 A2.out).mono ?_); (case side1 => exact Q37); (case side2 => exact HR0.out); (case side3 => exact HC0.out); rintro e w5 ⟨g309, rfl, hi, hb, hb2⟩; refine ⟨_, rfl, ?_⟩; have n0_ := Aside0.mk (hb); have n1_ := Aside0.mk (hi); clear HB; have HB := n0_; have HI309 := n1_; clear n0_ n1_; (try clear hb); (try clear hb2); (try clear hk); (try clear hi)) | ((with_reducible refine gate_callee (f := 51) rfl ?_); refine goesL_ (some 8) rfl rfl Try.func51 Q2 rfl #[.pointer (some ⟨g309, 0, none⟩)] rfl Q39 ?_; (with_reducible refine (spec_l71Any.calls k g309 t307 t308 t310 t313 w _ ?side1 ?side2 A3.out).mono ?_); (case side1 => exact (by repeat (first | (with_reducible first | exact HI309.out | apply IsS87.alloc | apply IsS87.drewN | apply IsS87.drew | apply IsS87.set_1) | exact HI309.out))); (case side2 => exact Q59); rintro e w6 ⟨v311, rfl, ho0, hi, hb, hk⟩; refine ⟨_, rfl, ?_⟩; have n0_ := Aside0.mk (Kd.R_lower ho0 (below_size Q59)); have n1_ := Aside0.mk (hb); have n2_ := Aside0.mk (hi); clear HB; clear HI309; have HO312 := n0_; have HB := n1_; have HI309 := n2_; clear n0_ n1_ n2_; (try clear hb); (try clear hb2); (try clear hk); (try clear hi); (try clear ho0)) | ((with_reducible refine gate_callee (f := 51) rfl ?_); refine goesL_ (some 10) rfl rfl Try.func51 Q2 rfl #[.pointer (some ⟨g309, 0, none⟩)] rfl Q39 ?_; (with_reducible refine (spec_l71Any.calls k g309 t307 t313 t314 t317 w _ ?side1 ?side2 A4.out).mono ?_); (case side1 => exact (by repeat (first | (with_reducible first | exact HI309.out | apply IsS87.alloc | apply IsS87.drewN | apply IsS87.drew | apply IsS87.set_1) | exact HI309.out))); (case side2 => exact Q59); rintro e w7 ⟨v315, rfl, ho0, hi, hb, hk⟩; refine ⟨_, rfl, ?_⟩; have n0_ := Aside0.mk (Kd.R_mono (Kd.R_told (Kd.R_oldK (IsS87.apart (show IsS87 w _ g309 t307 t313 from by repeat (first | (with_reducible first | exact HI309.out | apply IsS87.alloc | apply IsS87.drewN | apply IsS87.drew | apply IsS87.set_1) | exact HI309.out)) (by (with_reducible repeat (first | apply Kd.R_alloc | apply Kd.R_drewN | apply Kd.R_drew)); exact HO312.out) Q1) hk) (Kd.R_base ho0)) (fun _ h_ => h_.1)); have n1_ := Aside0.mk (Kd.R_lower (Kd.R_new' ho0 (Kd.R_lt (by (with_reducible repeat (first | apply Kd.R_alloc | apply Kd.R_drewN | apply Kd.R_drew)); exact HO312.out))) (below_size Q59)); have n2_ := Aside0.mk (hb); have n3_ := Aside0.mk (hi); clear HO312; clear HB; clear HI309; have HO312 := n0_; have HO316 := n1_; have HB := n2_; have HI309 := n3_; clear n0_ n1_ n2_ n3_; (try clear hb); (try clear hb2); (try clear hk); (try clear hi); (try clear ho0)))
 go_ret2
 exact ⟨_, _, Q10, by (with_reducible repeat (first | apply Kd.R_alloc | apply Kd.R_drewN | apply Kd.R_drew)); exact Kd.R_mono HO312.out (fun _ hk => hk.2), by (with_reducible repeat (first | apply Kd.R_alloc | apply Kd.R_drewN | apply Kd.R_drew)); exact Kd.R_mono HO316.out (fun _ hk => hk.2), Q59⟩
def spec_l6In.f (a0 : Int) (a1 : Int) (a2 : Int) : Option (Bool) := if a0 ≥ a1 then (some (decide (a0 ≤ a2))) else (some false)
set_option maxHeartbeats 8000000 in
set_option maxRecDepth 100000 in
theorem spec_l6In.calls (a0 : Int) (a1 : Int) (a2 : Int) (r : Bool) (w : World) (h : spec_l6In.f a0 a1 a2 = some r) :
  Calls Try.prog 89 #[.int .i64 a0, .int .i64 a1, .int .i64 a2] w fun e w' => e = .returned (.bool r) ∧ Drawn0 w w' := by
 have H : (if a0 ≥ a1 then (some (decide (a0 ≤ a2))) else (some false)) = some r := h
 clear h
 by_cases c4 : a0 ≥ a1
 ·rw [if_pos c4] at H
  have c4b0 : decide (a1 ≤ a0) = true := decide_eq_true c4
  clear c4
  obtain rfl := Option.some.inj H
  go_enter Try.func89, Try.ntmps89
  go_wp2
  go_ret
  exact ⟨Q6, Q9⟩
 ·rw [if_neg c4] at H
  have c4b0 : decide (a1 ≤ a0) = false := decide_eq_false c4
  clear c4
  obtain rfl := Option.some.inj H
  go_enter Try.func89, Try.ntmps89
  go_wp2
  go_ret
  exact ⟨Q6, Q9⟩
def spec_TimeOk.f (a0_0 : Int) (a0_1 : Int) : Option (Bool) := (spec_l6In.f a0_0 0 7).bind fun t319 => (if t319 = true then ((spec_l6In.f a0_1 0 7).bind fun t320 => (some t320)) else (some false))
set_option maxHeartbeats 8000000 in
set_option maxRecDepth 100000 in
theorem spec_TimeOk.calls (a0_0 : Int) (a0_1 : Int) (r : Bool) (w : World) (h : spec_TimeOk.f a0_0 a0_1 = some r) :
  Calls Try.prog 60 #[.agg #[.int .i64 a0_0, .int .i64 a0_1]] w fun e w' => e = .returned (.bool r) ∧ Below w.heap.size w w' := by
 have hu36 := Try.underlying36
 have HB := Aside0.mk (Below.refl w.heap.size w)
 have H : ((spec_l6In.f a0_0 0 7).bind fun t319 => (if t319 = true then ((spec_l6In.f a0_1 0 7).bind fun t320 => (some t320)) else (some false))) = some r := h
 clear h
 replace H := Option.bind_eq_some_iff.mp H
 obtain ⟨t319, A20, H⟩ := H
 replace H : (if t319 = true then ((spec_l6In.f a0_1 0 7).bind fun t320 => (some t320)) else (some false)) = some r := H
 have A2 := Aside0.mk A20
 clear A20
 by_cases c3 : t319 = true
 ·subst c3
  have H1 : ((spec_l6In.f a0_1 0 7).bind fun t320 => (some t320)) = some r := by rw [if_pos rfl] at H; exact H
  clear H
  have H := H1
  clear H1
  replace H := Option.bind_eq_some_iff.mp H
  obtain ⟨t320, A40, H⟩ := H
  replace H : (some t320) = some r := H
  have A4 := Aside0.mk A40
  clear A40
  obtain rfl := Option.some.inj H
  go_enter Try.func60, Try.ntmps60
  go_wp2_with (first | ((with_reducible refine gate_dst (N := 1) rfl ?_); refine box_event ?hg (N := 1) ?hd (cs := #[.int .i64 a0_0, .int .i64 a0_1]) (t := 36) ?hr ?_; (case hd => rfl); (case hg => rfl); (case hr => first | (go_simp; done) | (go_simp; rfl)); intro gb318 hg w5 hbox hb; have n0_ := Aside0.mk (below_step Q37 hb); have n1_ := Aside0.mk (hbox); have n2_ := Aside0.mk ((Q86 : w.heap.size ≤ gb318)); have n3_ := n2_; clear HB; have HB := n0_; have BK318 := n1_; have GW318 := n2_; have GE318 := n3_; clear n0_ n1_ n2_ n3_; clear hb hbox hg; obtain ⟨hcz6_0, hcz6_1, hfz6_0, hfz6_1⟩ := bx2_ BK318) | ((with_reducible refine gate_callee (f := 89) rfl ?_); refine goesL_ (some 5) rfl rfl Try.func89 Q2 rfl #[.int .i64 a0_0, .int .i64 0, .int .i64 7] rfl Q39 ?_; (with_reducible refine (spec_l6In.calls a0_0 0 7 true _ A2.out).mono ?_); rintro e w' ⟨rfl, ⟨nd, rfl⟩⟩; refine ⟨_, rfl, ?_⟩) | (go_at_call 89; (with_reducible refine (spec_l6In.calls a0_1 0 7 t320 _ A4.out).mono ?_); rintro e w' ⟨rfl, ⟨nd, rfl⟩⟩))
  go_ret
  exact ⟨Q10, by repeat (first | (with_reducible first | exact HB.out | apply below_alloc | apply pw_below_drewN | apply below_drew1 | refine below_set ?_ GE318.out) | exact HB.out)⟩
 ·replace c3 := Bool.eq_false_iff.mpr c3
  subst c3
  have H1 : (some false) = some r := by rw [if_neg (show ¬ (false = true) by decide)] at H; exact H
  clear H
  have H := H1
  clear H1
  obtain rfl := Option.some.inj H
  go_enter Try.func60, Try.ntmps60
  go_wp2_with (first | ((with_reducible refine gate_dst (N := 1) rfl ?_); refine box_event ?hg (N := 1) ?hd (cs := #[.int .i64 a0_0, .int .i64 a0_1]) (t := 36) ?hr ?_; (case hd => rfl); (case hg => rfl); (case hr => first | (go_simp; done) | (go_simp; rfl)); intro gb318 hg w7 hbox hb; have n0_ := Aside0.mk (below_step Q37 hb); have n1_ := Aside0.mk (hbox); have n2_ := Aside0.mk ((Q86 : w.heap.size ≤ gb318)); have n3_ := n2_; clear HB; have HB := n0_; have BK318 := n1_; have GW318 := n2_; have GE318 := n3_; clear n0_ n1_ n2_ n3_; clear hb hbox hg; obtain ⟨hcz8_0, hcz8_1, hfz8_0, hfz8_1⟩ := bx2_ BK318) | ((with_reducible refine gate_callee (f := 89) rfl ?_); refine goesL_ (some 5) rfl rfl Try.func89 Q2 rfl #[.int .i64 a0_0, .int .i64 0, .int .i64 7] rfl Q39 ?_; (with_reducible refine (spec_l6In.calls a0_0 0 7 false _ A2.out).mono ?_); rintro e w' ⟨rfl, ⟨nd, rfl⟩⟩; refine ⟨_, rfl, ?_⟩))
  go_ret
  exact ⟨Q10, by repeat (first | (with_reducible first | exact HB.out | apply below_alloc | apply pw_below_drewN | apply below_drew1 | refine below_set ?_ GE318.out) | exact HB.out)⟩
def spec_l2Row.f (a0_0 : Int) (a0_1 : Int) (a0_2 : Int) (a0_3 : Int) (a0_4 : Int) : Option (Bool) := (spec_l6In.f a0_0 0 3).bind fun t322 => (if t322 = true then ((spec_l6In.f a0_1 0 99).bind fun t323 => (if t323 = true then ((spec_TimeOk.f a0_2 a0_3).bind fun t324 => (if t324 = true then ((spec_l6In.f a0_4 (-99999) 99999).bind fun t325 => (some t325)) else (some false))) else (some false))) else (some false))
set_option maxHeartbeats 8000000 in
set_option maxRecDepth 100000 in
theorem spec_l2Row.calls (a0_0 : Int) (a0_1 : Int) (a0_2 : Int) (a0_3 : Int) (a0_4 : Int) (r : Bool) (w : World) (h : spec_l2Row.f a0_0 a0_1 a0_2 a0_3 a0_4 = some r) :
  Calls Try.prog 59 #[.agg #[.int .i64 a0_0, .int .i64 a0_1, .int .i64 a0_2, .int .i64 a0_3, .int .i64 a0_4]] w fun e w' => e = .returned (.bool r) ∧ Below w.heap.size w w' := by
 have hu38 := Try.underlying38
 have hu36 := Try.underlying36
 have HB := Aside0.mk (Below.refl w.heap.size w)
 have H : ((spec_l6In.f a0_0 0 3).bind fun t322 => (if t322 = true then ((spec_l6In.f a0_1 0 99).bind fun t323 => (if t323 = true then ((spec_TimeOk.f a0_2 a0_3).bind fun t324 => (if t324 = true then ((spec_l6In.f a0_4 (-99999) 99999).bind fun t325 => (some t325)) else (some false))) else (some false))) else (some false))) = some r := h
 clear h
 replace H := Option.bind_eq_some_iff.mp H
 obtain ⟨t322, A20, H⟩ := H
 replace H : (if t322 = true then ((spec_l6In.f a0_1 0 99).bind fun t323 => (if t323 = true then ((spec_TimeOk.f a0_2 a0_3).bind fun t324 => (if t324 = true then ((spec_l6In.f a0_4 (-99999) 99999).bind fun t325 => (some t325)) else (some false))) else (some false))) else (some false)) = some r := H
 have A2 := Aside0.mk A20
 clear A20
 by_cases c3 : t322 = true
 ·subst c3
  have H1 : ((spec_l6In.f a0_1 0 99).bind fun t323 => (if t323 = true then ((spec_TimeOk.f a0_2 a0_3).bind fun t324 => (if t324 = true then ((spec_l6In.f a0_4 (-99999) 99999).bind fun t325 => (some t325)) else (some false))) else (some false))) = some r := by rw [if_pos rfl] at H; exact H
  clear H
  have H := H1
  clear H1
  replace H := Option.bind_eq_some_iff.mp H
  obtain ⟨t323, A40, H⟩ := H
  replace H : (if t323 = true then ((spec_TimeOk.f a0_2 a0_3).bind fun t324 => (if t324 = true then ((spec_l6In.f a0_4 (-99999) 99999).bind fun t325 => (some t325)) else (some false))) else (some false)) = some r := H
  have A4 := Aside0.mk A40
  clear A40
  by_cases c5 : t323 = true
  ·subst c5
   have H1 : ((spec_TimeOk.f a0_2 a0_3).bind fun t324 => (if t324 = true then ((spec_l6In.f a0_4 (-99999) 99999).bind fun t325 => (some t325)) else (some false))) = some r := by rw [if_pos rfl] at H; exact H
   clear H
   have H := H1
   clear H1
   replace H := Option.bind_eq_some_iff.mp H
   obtain ⟨t324, A60, H⟩ := H
   replace H : (if t324 = true then ((spec_l6In.f a0_4 (-99999) 99999).bind fun t325 => (some t325)) else (some false)) = some r := H
   have A6 := Aside0.mk A60
   clear A60
   by_cases c7 : t324 = true
   ·subst c7
    have H1 : ((spec_l6In.f a0_4 (-99999) 99999).bind fun t325 => (some t325)) = some r := by rw [if_pos rfl] at H; exact H
    clear H
    have H := H1
    clear H1
    replace H := Option.bind_eq_some_iff.mp H
    obtain ⟨t325, A80, H⟩ := H
    replace H : (some t325) = some r := H
    have A8 := Aside0.mk A80
    clear A80
    obtain rfl := Option.some.inj H
    go_enter Try.func59, Try.ntmps59
    go_wp2_with (first | ((with_reducible refine gate_dst (N := 1) rfl ?_); refine box_event ?hg (N := 1) ?hd (cs := #[.int .i64 a0_0, .int .i64 a0_1, .int .i64 a0_2, .int .i64 a0_3, .int .i64 a0_4]) (t := 38) ?hr ?_; (case hd => rfl); (case hg => rfl); (case hr => first | (go_simp; done) | (go_simp; rfl)); intro gb321 hg w9 hbox hb; have n0_ := Aside0.mk (below_step Q37 hb); have n1_ := Aside0.mk (hbox); have n2_ := Aside0.mk ((Q86 : w.heap.size ≤ gb321)); have n3_ := n2_; clear HB; have HB := n0_; have BK321 := n1_; have GW321 := n2_; have GE321 := n3_; clear n0_ n1_ n2_ n3_; clear hb hbox hg; obtain ⟨hcz10_0, hcz10_1, hcz10_2, hcz10_3, hcz10_4, hfz10_0, hfz10_1, hfz10_2, hfz10_3, hfz10_4⟩ := bx5_ BK321) | ((with_reducible refine gate_callee (f := 89) rfl ?_); refine goesL_ (some 5) rfl rfl Try.func89 Q2 rfl #[.int .i64 a0_0, .int .i64 0, .int .i64 3] rfl Q39 ?_; (with_reducible refine (spec_l6In.calls a0_0 0 3 true _ A2.out).mono ?_); rintro e w' ⟨rfl, ⟨nd, rfl⟩⟩; refine ⟨_, rfl, ?_⟩) | (go_at_call 89; (with_reducible refine (spec_l6In.calls a0_1 0 99 true _ A4.out).mono ?_); rintro e w' ⟨rfl, ⟨nd, rfl⟩⟩) | (go_at_call 60; (with_reducible refine (spec_TimeOk.calls a0_2 a0_3 true _ A6.out).mono ?_); rintro e w11 ⟨rfl, hb⟩; have n0_ := Aside0.mk (blk_below (g := gb321) (o := .cells #[.int .i64 a0_0, .int .i64 a0_1, .int .i64 a0_2, .int .i64 a0_3, .int .i64 a0_4] 38 (0, 0)) (by (with_reducible repeat (first | refine blk_drewN ?_ _ | refine blk_drew ?_ | refine blk_alloc ?_ _)); exact BK321.out) hb); have n1_ := Aside0.mk (below_step Q51 hb); clear BK321; clear HB; have BK321 := n0_; have HB := n1_; clear n0_ n1_; (try clear hb); (try clear hb2); (try clear hk); (try clear hi); obtain ⟨hcz12_0, hcz12_1, hcz12_2, hcz12_3, hcz12_4, hfz12_0, hfz12_1, hfz12_2, hfz12_3, hfz12_4⟩ := bx5_ BK321) | (go_at_call 89; (with_reducible refine (spec_l6In.calls a0_4 (-99999) 99999 t325 _ A8.out).mono ?_); rintro e w' ⟨rfl, ⟨nd, rfl⟩⟩))
    go_ret
    exact ⟨Q10, Q51⟩
   ·replace c7 := Bool.eq_false_iff.mpr c7
    subst c7
    have H1 : (some false) = some r := by rw [if_neg (show ¬ (false = true) by decide)] at H; exact H
    clear H
    have H := H1
    clear H1
    obtain rfl := Option.some.inj H
    go_enter Try.func59, Try.ntmps59
    go_wp2_with (first | ((with_reducible refine gate_dst (N := 1) rfl ?_); refine box_event ?hg (N := 1) ?hd (cs := #[.int .i64 a0_0, .int .i64 a0_1, .int .i64 a0_2, .int .i64 a0_3, .int .i64 a0_4]) (t := 38) ?hr ?_; (case hd => rfl); (case hg => rfl); (case hr => first | (go_simp; done) | (go_simp; rfl)); intro gb321 hg w13 hbox hb; have n0_ := Aside0.mk (below_step Q37 hb); have n1_ := Aside0.mk (hbox); have n2_ := Aside0.mk ((Q86 : w.heap.size ≤ gb321)); have n3_ := n2_; clear HB; have HB := n0_; have BK321 := n1_; have GW321 := n2_; have GE321 := n3_; clear n0_ n1_ n2_ n3_; clear hb hbox hg; obtain ⟨hcz14_0, hcz14_1, hcz14_2, hcz14_3, hcz14_4, hfz14_0, hfz14_1, hfz14_2, hfz14_3, hfz14_4⟩ := bx5_ BK321) | ((with_reducible refine gate_callee (f := 89) rfl ?_); refine goesL_ (some 5) rfl rfl Try.func89 Q2 rfl #[.int .i64 a0_0, .int .i64 0, .int .i64 3] rfl Q39 ?_; (with_reducible refine (spec_l6In.calls a0_0 0 3 true _ A2.out).mono ?_); rintro e w' ⟨rfl, ⟨nd, rfl⟩⟩; refine ⟨_, rfl, ?_⟩) | (go_at_call 89; (with_reducible refine (spec_l6In.calls a0_1 0 99 true _ A4.out).mono ?_); rintro e w' ⟨rfl, ⟨nd, rfl⟩⟩) | (go_at_call 60; (with_reducible refine (spec_TimeOk.calls a0_2 a0_3 false _ A6.out).mono ?_); rintro e w15 ⟨rfl, hb⟩; have n0_ := Aside0.mk (blk_below (g := gb321) (o := .cells #[.int .i64 a0_0, .int .i64 a0_1, .int .i64 a0_2, .int .i64 a0_3, .int .i64 a0_4] 38 (0, 0)) (by (with_reducible repeat (first | refine blk_drewN ?_ _ | refine blk_drew ?_ | refine blk_alloc ?_ _)); exact BK321.out) hb); have n1_ := Aside0.mk (below_step Q51 hb); clear BK321; clear HB; have BK321 := n0_; have HB := n1_; clear n0_ n1_; (try clear hb); (try clear hb2); (try clear hk); (try clear hi)))
    go_ret
    exact ⟨Q10, Q51⟩
  ·replace c5 := Bool.eq_false_iff.mpr c5
   subst c5
   have H1 : (some false) = some r := by rw [if_neg (show ¬ (false = true) by decide)] at H; exact H
   clear H
   have H := H1
   clear H1
   obtain rfl := Option.some.inj H
   go_enter Try.func59, Try.ntmps59
   go_wp2_with (first | ((with_reducible refine gate_dst (N := 1) rfl ?_); refine box_event ?hg (N := 1) ?hd (cs := #[.int .i64 a0_0, .int .i64 a0_1, .int .i64 a0_2, .int .i64 a0_3, .int .i64 a0_4]) (t := 38) ?hr ?_; (case hd => rfl); (case hg => rfl); (case hr => first | (go_simp; done) | (go_simp; rfl)); intro gb321 hg w16 hbox hb; have n0_ := Aside0.mk (below_step Q37 hb); have n1_ := Aside0.mk (hbox); have n2_ := Aside0.mk ((Q86 : w.heap.size ≤ gb321)); have n3_ := n2_; clear HB; have HB := n0_; have BK321 := n1_; have GW321 := n2_; have GE321 := n3_; clear n0_ n1_ n2_ n3_; clear hb hbox hg; obtain ⟨hcz17_0, hcz17_1, hcz17_2, hcz17_3, hcz17_4, hfz17_0, hfz17_1, hfz17_2, hfz17_3, hfz17_4⟩ := bx5_ BK321) | ((with_reducible refine gate_callee (f := 89) rfl ?_); refine goesL_ (some 5) rfl rfl Try.func89 Q2 rfl #[.int .i64 a0_0, .int .i64 0, .int .i64 3] rfl Q39 ?_; (with_reducible refine (spec_l6In.calls a0_0 0 3 true _ A2.out).mono ?_); rintro e w' ⟨rfl, ⟨nd, rfl⟩⟩; refine ⟨_, rfl, ?_⟩) | (go_at_call 89; (with_reducible refine (spec_l6In.calls a0_1 0 99 false _ A4.out).mono ?_); rintro e w' ⟨rfl, ⟨nd, rfl⟩⟩))
   go_ret
   exact ⟨Q10, Q51⟩
 ·replace c3 := Bool.eq_false_iff.mpr c3
  subst c3
  have H1 : (some false) = some r := by rw [if_neg (show ¬ (false = true) by decide)] at H; exact H
  clear H
  have H := H1
  clear H1
  obtain rfl := Option.some.inj H
  go_enter Try.func59, Try.ntmps59
  go_wp2_with (first | ((with_reducible refine gate_dst (N := 1) rfl ?_); refine box_event ?hg (N := 1) ?hd (cs := #[.int .i64 a0_0, .int .i64 a0_1, .int .i64 a0_2, .int .i64 a0_3, .int .i64 a0_4]) (t := 38) ?hr ?_; (case hd => rfl); (case hg => rfl); (case hr => first | (go_simp; done) | (go_simp; rfl)); intro gb321 hg w18 hbox hb; have n0_ := Aside0.mk (below_step Q37 hb); have n1_ := Aside0.mk (hbox); have n2_ := Aside0.mk ((Q86 : w.heap.size ≤ gb321)); have n3_ := n2_; clear HB; have HB := n0_; have BK321 := n1_; have GW321 := n2_; have GE321 := n3_; clear n0_ n1_ n2_ n3_; clear hb hbox hg; obtain ⟨hcz19_0, hcz19_1, hcz19_2, hcz19_3, hcz19_4, hfz19_0, hfz19_1, hfz19_2, hfz19_3, hfz19_4⟩ := bx5_ BK321) | ((with_reducible refine gate_callee (f := 89) rfl ?_); refine goesL_ (some 5) rfl rfl Try.func89 Q2 rfl #[.int .i64 a0_0, .int .i64 0, .int .i64 3] rfl Q39 ?_; (with_reducible refine (spec_l6In.calls a0_0 0 3 false _ A2.out).mono ?_); rintro e w' ⟨rfl, ⟨nd, rfl⟩⟩; refine ⟨_, rfl, ?_⟩))
  go_ret
  exact ⟨Q10, Q51⟩
def spec_RowsOk.l0 : Nat → List (S38) → Int → Option (Bool)
 | 0, _, _ => none
 | k + 1, x0, x3 => if x3 < (x0.length : Int) then (if 0 ≤ x3 then ((spec_l2Row.f ((rd_T38 x0 x3).f0) ((rd_T38 x0 x3).f1) ((rd_T38 x0 x3).f2.f0) ((rd_T38 x0 x3).f2.f1) ((rd_T38 x0 x3).f3)).bind fun t327 => (if t327 = true then (spec_RowsOk.l0 k x0 (wrap64 (x3 + 1))) else (some false))) else (none)) else (some true)
def spec_RowsOk.f (k : Nat) (l0 : List (S38)) : Option (Bool) := if (l0.length : Int) > 400 then (some false) else (spec_RowsOk.l0 k l0 0)
theorem spec_RowsOk.mono_l : ∀ k, (∀ y0 y1, LeO (spec_RowsOk.l0 k y0 y1) (spec_RowsOk.l0 (k + 1) y0 y1))
 | 0 => fun _ _ r h => by simp [spec_RowsOk.l0] at h
 | k + 1 => by
  have ih0 := spec_RowsOk.mono_l k
  ·intro y0 y1
   unfold spec_RowsOk.l0
   repeat' first
   | (with_reducible exact ih0 _ _)
   | (with_reducible exact LeO.refl _)
   | (with_reducible exact LeO.none _)
   | (with_reducible refine LeO.ite ?_ ?_)
   | (with_reducible refine LeO.bind ?_ (fun _ => ?_))
   | exact ih0 _ _
   | exact LeO.none _
   | refine LeO.ite ?_ ?_
   | refine LeO.bind ?_ (fun _ => ?_)
theorem spec_RowsOk.mono : ∀ a0 k, LeO (spec_RowsOk.f k a0) (spec_RowsOk.f (k + 1) a0) := by
 intro a0 k
 have ih0 := spec_RowsOk.mono_l k
 unfold spec_RowsOk.f
 repeat' first
   | (with_reducible exact ih0 _ _)
   | (with_reducible exact LeO.refl _)
   | (with_reducible exact LeO.none _)
   | (with_reducible refine LeO.ite ?_ ?_)
   | (with_reducible refine LeO.bind ?_ (fun _ => ?_))
   | exact ih0 _ _
   | exact LeO.none _
   | refine LeO.ite ?_ ?_
   | refine LeO.bind ?_ (fun _ => ?_)
set_option maxHeartbeats 8000000 in
set_option maxRecDepth 100000 in
theorem spec_RowsOk.calls (k : Nat) (A0 : Option Addr) (c0 : Nat) (l0 : List (S38)) (r : Bool) (w : World) (hr0 : Kd.C k38 w A0 l0.length l0) (hc0 : l0.length ≤ c0) (h : spec_RowsOk.f k l0 = some r) :
  Calls Try.prog 20 #[.slice A0 l0.length c0] w fun e w' => e = .returned (.bool r) ∧ Below w.heap.size w w' := by
 have hu38 := Try.underlying38
 have HR0 := Aside0.mk hr0
 have HC0 := Aside0.mk hc0
 clear hr0 hc0
 have HB := Aside0.mk (Below.refl w.heap.size w)
 have H : (if (l0.length : Int) > 400 then (some false) else (spec_RowsOk.l0 k l0 0)) = some r := h
 clear h
 by_cases c2 : (l0.length : Int) > 400
 ·rw [if_pos c2] at H
  have c2b0 : decide (400 < (l0.length : Int)) = true := decide_eq_true c2
  have c2b1 : decide (400 < l0.length) = true := decide_eq_true (by omega)
  clear c2
  obtain rfl := Option.some.inj H
  go_enter Try.func20, Try.ntmps20
  go_wp2
  go_ret
  exact ⟨Q10, Q37⟩
 ·rw [if_neg c2] at H
  have c2b0 : decide (400 < (l0.length : Int)) = false := decide_eq_false c2
  have c2b1 : decide (400 < l0.length) = false := decide_eq_false (by omega)
  clear c2
  have H' := Aside0.mk H
  clear H
  go_enter Try.func20, Try.ntmps20
  go_wp2
  go_loopg [3] k (fun kq v3 w' => ∃ (x3_1 : Int), v3 = .int .i64 x3_1 ∧ Aside0 (spec_RowsOk.l0 kq l0 x3_1 = some r) ∧ Aside0 (kq ≤ k) ∧ Aside0 (Below w.heap.size w w'))
  case atStart => exact ⟨(0), Q6, H', ⟨Nat.le_refl _⟩, ⟨Q37⟩⟩
  case round =>
   clear H'
   try clear c2
   try clear c2b0
   try clear c2b1
   try clear p2
   obtain ⟨x3_1, rfl, HA, HK1, HB⟩ := hrel
   cases gk with
   | zero => exact absurd HA.out (by simp [spec_RowsOk.l0])
   | succ k1 =>
    have H := HA.out
    clear HA
    simp only [spec_RowsOk.l0] at H
    by_cases c3 : x3_1 < (l0.length : Int)
    ·rw [if_pos c3] at H
     have c3b0 : decide (x3_1 < (l0.length : Int)) = true := decide_eq_true c3
     clear c3
     by_cases c4 : 0 ≤ x3_1
     ·rw [if_pos c4] at H
      have c4b0 : decide (0 ≤ x3_1) = true := decide_eq_true c4
      clear c4
      replace H := Option.bind_eq_some_iff.mp H
      obtain ⟨t327, A50, H⟩ := H
      replace H : (if t327 = true then (spec_RowsOk.l0 k1 l0 (wrap64 (x3_1 + 1))) else (some false)) = some r := H
      have A5 := Aside0.mk A50
      clear A50
      by_cases c6 : t327 = true
      ·subst c6
       have H1 : (spec_RowsOk.l0 k1 l0 (wrap64 (x3_1 + 1))) = some r := by rw [if_pos rfl] at H; exact H
       clear H
       have H := H1
       clear H1
       have H' := Aside0.mk H
       clear H
       have p326 : 0 ≤ (x3_1 : Int) := of_decide_eq_true Q7
       have q326 : x3_1 < (l0.length : Int) := of_decide_eq_true Q7
       obtain ⟨ad326, e326, hx326_0, hx326_1, hx326_2, hx326_3, hx326_4⟩ := at_T38 HR0.out x3_1 p326 q326
       cases e326
       replace hx326_0 := (HB.out.cell (World.block_lt_of_cell? w _ hx326_0)).trans hx326_0
       replace hx326_1 := (HB.out.cell (World.block_lt_of_cell? w _ hx326_1)).trans hx326_1
       replace hx326_2 := (HB.out.cell (World.block_lt_of_cell? w _ hx326_2)).trans hx326_2
       replace hx326_3 := (HB.out.cell (World.block_lt_of_cell? w _ hx326_3)).trans hx326_3
       replace hx326_4 := (HB.out.cell (World.block_lt_of_cell? w _ hx326_4)).trans hx326_4
       replace p326 := eq_true p326
       replace q326 := eq_true q326
       go_wp2_with (first | ((with_reducible refine gate_callee (f := 59) rfl ?_); refine goesL_ (some 17) rfl rfl Try.func59 Q2 rfl #[.agg #[.int .i64 ((rd_T38 l0 x3_1).f0), .int .i64 ((rd_T38 l0 x3_1).f1), .int .i64 ((rd_T38 l0 x3_1).f2.f0), .int .i64 ((rd_T38 l0 x3_1).f2.f1), .int .i64 ((rd_T38 l0 x3_1).f3)]] rfl Q39 ?_; (with_reducible refine (spec_l2Row.calls ((rd_T38 l0 x3_1).f0) ((rd_T38 l0 x3_1).f1) ((rd_T38 l0 x3_1).f2.f0) ((rd_T38 l0 x3_1).f2.f1) ((rd_T38 l0 x3_1).f3) true _ A5.out).mono ?_); rintro e w7 ⟨rfl, hb⟩; refine ⟨_, rfl, ?_⟩; have n0_ := Aside0.mk (below_step Q37 hb); clear HB; have HB := n0_; clear n0_; (try clear hb); (try clear hb2); (try clear hk); (try clear hi)))
       go_roundg k1
       case measure => have := HK1.out; omega
       case rel => exact ⟨(wrap64 (x3_1 + 1)), Q6, H', ⟨Q3⟩, ⟨Q37⟩⟩
      ·replace c6 := Bool.eq_false_iff.mpr c6
       subst c6
       have H1 : (some false) = some r := by rw [if_neg (show ¬ (false = true) by decide)] at H; exact H
       clear H
       have H := H1
       clear H1
       obtain rfl := Option.some.inj H
       have p326 : 0 ≤ (x3_1 : Int) := of_decide_eq_true Q7
       have q326 : x3_1 < (l0.length : Int) := of_decide_eq_true Q7
       obtain ⟨ad326, e326, hx326_0, hx326_1, hx326_2, hx326_3, hx326_4⟩ := at_T38 HR0.out x3_1 p326 q326
       cases e326
       replace hx326_0 := (HB.out.cell (World.block_lt_of_cell? w _ hx326_0)).trans hx326_0
       replace hx326_1 := (HB.out.cell (World.block_lt_of_cell? w _ hx326_1)).trans hx326_1
       replace hx326_2 := (HB.out.cell (World.block_lt_of_cell? w _ hx326_2)).trans hx326_2
       replace hx326_3 := (HB.out.cell (World.block_lt_of_cell? w _ hx326_3)).trans hx326_3
       replace hx326_4 := (HB.out.cell (World.block_lt_of_cell? w _ hx326_4)).trans hx326_4
       replace p326 := eq_true p326
       replace q326 := eq_true q326
       go_wp2_with (first | ((with_reducible refine gate_callee (f := 59) rfl ?_); refine goesL_ (some 17) rfl rfl Try.func59 Q2 rfl #[.agg #[.int .i64 ((rd_T38 l0 x3_1).f0), .int .i64 ((rd_T38 l0 x3_1).f1), .int .i64 ((rd_T38 l0 x3_1).f2.f0), .int .i64 ((rd_T38 l0 x3_1).f2.f1), .int .i64 ((rd_T38 l0 x3_1).f3)]] rfl Q39 ?_; (with_reducible refine (spec_l2Row.calls ((rd_T38 l0 x3_1).f0) ((rd_T38 l0 x3_1).f1) ((rd_T38 l0 x3_1).f2.f0) ((rd_T38 l0 x3_1).f2.f1) ((rd_T38 l0 x3_1).f3) false _ A5.out).mono ?_); rintro e w8 ⟨rfl, hb⟩; refine ⟨_, rfl, ?_⟩; have n0_ := Aside0.mk (below_step Q37 hb); clear HB; have HB := n0_; clear n0_; (try clear hb); (try clear hb2); (try clear hk); (try clear hi)))
       go_ret
       exact ⟨Q10, Q37⟩
     ·rw [if_neg c4] at H
      exact absurd H Q0
    ·rw [if_neg c3] at H
     have c3b0 : decide (x3_1 < (l0.length : Int)) = false := decide_eq_false c3
     clear c3
     obtain rfl := Option.some.inj H
     go_wp2
     go_ret
     exact ⟨Q10, Q37⟩
def spec_l2Comp.l0 : Nat → List Int → List Int → Int → Option (Int)
 | 0, _, _, _ => none
 | k + 1, x5, x6, x7 => if x7 < (x5.length : Int) then (if 0 ≤ x7 then (if x7 < (x6.length : Int) then (if (rd x5 x7) < (rd x6 x7) then (some (-1)) else (if (rd x5 x7) > (rd x6 x7) then (some 1) else (spec_l2Comp.l0 k x5 x6 (wrap64 (x7 + 1))))) else (none)) else (none)) else (some 0)
def spec_l2Comp.f (k : Nat) (a0_0 : Int) (a0_1 : Int) (a0_2 : Int) (a0_3 : Int) (a0_4 : Int) (a1_0 : Int) (a1_1 : Int) (a1_2 : Int) (a1_3 : Int) (a1_4 : Int) : Option (Int) := spec_l2Comp.l0 k (([a0_0, a0_1, a0_2, a0_3] : List Int)) (([a1_0, a1_1, a1_2, a1_3] : List Int)) 0
theorem spec_l2Comp.mono_l : ∀ k, (∀ y0 y1 y2, LeO (spec_l2Comp.l0 k y0 y1 y2) (spec_l2Comp.l0 (k + 1) y0 y1 y2))
 | 0 => fun _ _ _ r h => by simp [spec_l2Comp.l0] at h
 | k + 1 => by
  have ih0 := spec_l2Comp.mono_l k
  ·intro y0 y1 y2
   unfold spec_l2Comp.l0
   repeat' first
   | (with_reducible exact ih0 _ _ _)
   | (with_reducible exact LeO.refl _)
   | (with_reducible exact LeO.none _)
   | (with_reducible refine LeO.ite ?_ ?_)
   | (with_reducible refine LeO.bind ?_ (fun _ => ?_))
   | exact ih0 _ _ _
   | exact LeO.none _
   | refine LeO.ite ?_ ?_
   | refine LeO.bind ?_ (fun _ => ?_)
theorem spec_l2Comp.mono : ∀ a0 a1 a2 a3 a4 a5 a6 a7 a8 a9 k, LeO (spec_l2Comp.f k a0 a1 a2 a3 a4 a5 a6 a7 a8 a9) (spec_l2Comp.f (k + 1) a0 a1 a2 a3 a4 a5 a6 a7 a8 a9) := by
 intro a0 a1 a2 a3 a4 a5 a6 a7 a8 a9 k
 have ih0 := spec_l2Comp.mono_l k
 unfold spec_l2Comp.f
 repeat' first
   | (with_reducible exact ih0 _ _ _)
   | (with_reducible exact LeO.refl _)
   | (with_reducible exact LeO.none _)
   | (with_reducible refine LeO.ite ?_ ?_)
   | (with_reducible refine LeO.bind ?_ (fun _ => ?_))
   | exact ih0 _ _ _
   | exact LeO.none _
   | refine LeO.ite ?_ ?_
   | refine LeO.bind ?_ (fun _ => ?_)
set_option maxHeartbeats 8000000 in
set_option maxRecDepth 100000 in
theorem spec_l2Comp.calls (k : Nat) (a0_0 : Int) (a0_1 : Int) (a0_2 : Int) (a0_3 : Int) (a0_4 : Int) (a1_0 : Int) (a1_1 : Int) (a1_2 : Int) (a1_3 : Int) (a1_4 : Int) (r : Int) (w : World) (h : spec_l2Comp.f k a0_0 a0_1 a0_2 a0_3 a0_4 a1_0 a1_1 a1_2 a1_3 a1_4 = some r) :
  Calls Try.prog 71 #[.agg #[.int .i64 a0_0, .int .i64 a0_1, .int .i64 a0_2, .int .i64 a0_3, .int .i64 a0_4], .agg #[.int .i64 a1_0, .int .i64 a1_1, .int .i64 a1_2, .int .i64 a1_3, .int .i64 a1_4]] w fun e w' => e = .returned (.int .i64 r) ∧ Below w.heap.size w w' := by
 have hu38 := Try.underlying38
 have HB := Aside0.mk (Below.refl w.heap.size w)
 have H : (spec_l2Comp.l0 k (([a0_0, a0_1, a0_2, a0_3] : List Int)) (([a1_0, a1_1, a1_2, a1_3] : List Int)) 0) = some r := h
 clear h
 obtain ⟨y330, hy_⟩ : ∃ y_ : List Int, y_ = (([a0_0, a0_1, a0_2, a0_3] : List Int)) := ⟨_, rfl⟩
 replace H : (spec_l2Comp.l0 k y330 (([a1_0, a1_1, a1_2, a1_3] : List Int)) 0) = some r := Q78
 have Ny330 := Aside0.mk hy_
 clear hy_
 obtain ⟨y333, hy_⟩ : ∃ y_ : List Int, y_ = (([a1_0, a1_1, a1_2, a1_3] : List Int)) := ⟨_, rfl⟩
 replace H : (spec_l2Comp.l0 k y330 y333 0) = some r := Q78
 have Ny333 := Aside0.mk hy_
 clear hy_
 have H' := Aside0.mk H
 clear H
 go_enter Try.func71, Try.ntmps71
 go_wp2_with (first | ((with_reducible refine gate_dst (N := 2) rfl ?_); refine box_event ?hg (N := 2) ?hd (cs := #[.int .i64 a0_0, .int .i64 a0_1, .int .i64 a0_2, .int .i64 a0_3, .int .i64 a0_4]) (t := 38) ?hr ?_; (case hd => rfl); (case hg => rfl); (case hr => first | (go_simp; done) | (go_simp; rfl)); intro gb328 hg w3 hbox hb; have n0_ := Aside0.mk (below_step Q37 hb); have n1_ := Aside0.mk (hbox); have n2_ := Aside0.mk ((Q86 : w.heap.size ≤ gb328)); have n3_ := n2_; clear HB; have HB := n0_; have BK328 := n1_; have GW328 := n2_; have GE328 := n3_; clear n0_ n1_ n2_ n3_; clear hb hbox hg) | ((with_reducible refine gate_dst (N := 3) rfl ?_); refine box_event ?hg (N := 3) ?hd (cs := #[.int .i64 a1_0, .int .i64 a1_1, .int .i64 a1_2, .int .i64 a1_3, .int .i64 a1_4]) (t := 38) ?hr ?_; (case hd => rfl); (case hg => rfl); (case hr => first | (go_simp; done) | (go_simp; rfl)); intro gb329 hg w4 hbox hb; have n0_ := Aside0.mk (blk_below (g := gb328) (o := .cells #[.int .i64 a0_0, .int .i64 a0_1, .int .i64 a0_2, .int .i64 a0_3, .int .i64 a0_4] 38 (0, 0)) Q33 hb); have n1_ := Aside0.mk (below_step Q52 hb); have n2_ := Aside0.mk (hbox); have n3_ := Aside0.mk ((by rw [hg]; exact (below_size Q52) : w.heap.size ≤ gb329)); have n4_ := n3_; have n5_ := Aside0.mk ((Q94 : gb328 ≠ gb329)); have n6_ := Aside0.mk ((Q95 : gb329 ≠ gb328)); clear BK328; clear HB; have BK328 := n0_; have HB := n1_; have BK329 := n2_; have GW329 := n3_; have GE329 := n4_; have NB328_329 := n5_; have NB329_328 := n6_; clear n0_ n1_ n2_ n3_ n4_ n5_ n6_; clear hb hbox hg; have hnb5 := NB328_329.out; have hnc5 := NB329_328.out; obtain ⟨hcz6_0, hcz6_1, hcz6_2, hcz6_3, hcz6_4, hfz6_0, hfz6_1, hfz6_2, hfz6_3, hfz6_4⟩ := bx5_ BK328) | ((with_reducible refine gate_dst (N := 18) rfl ?_); refine Kd.R_lit (Kd.int .i64) _ 3 ?hg (N := 18) ?hd (xs := ([a0_0, a0_1, a0_2, a0_3] : List Int)) (inner := [.int .i64 a0_0, .int .i64 a0_1, .int .i64 a0_2, .int .i64 a0_3]) (ok := fun _ => True) (okp := fun _ => True) ?hr ?hp (fun _ hk => hk) trivial (Below.refl _ _) (Nat.le_refl _) Q0 ?_; (case hd => rfl); (case hg => rfl); (case hr => first | (go_simp; done) | (go_simp; rfl)); (case hp => exact (Reps.one (show Kd.M (Kd.int .i64) _ _ _ a0_0 [.int .i64 a0_0] from rfl) (Reps.one (show Kd.M (Kd.int .i64) _ _ _ a0_1 [.int .i64 a0_1] from rfl) (Reps.one (show Kd.M (Kd.int .i64) _ _ _ a0_2 [.int .i64 a0_2] from rfl) (Reps.one (show Kd.M (Kd.int .i64) _ _ _ a0_3 [.int .i64 a0_3] from rfl) (Reps.none _ _)))))); intro v331 w7 ho8 hb hg_ hnew_; clear hg_ hnew_; (first | rw [← Ny330.out] at ho8 | (simp only [Int.reduceToNat] at ho8; rw [← Ny330.out] at ho8)); have n0_ := Aside0.mk (Kd.R_lower ho8 (below_size Q70)); have n1_ := Aside0.mk (blk_below (g := gb328) (o := .cells #[.int .i64 a0_0, .int .i64 a0_1, .int .i64 a0_2, .int .i64 a0_3, .int .i64 a0_4] 38 (0, 0)) Q33 hb); have n2_ := Aside0.mk (blk_below (g := gb329) (o := .cells #[.int .i64 a1_0, .int .i64 a1_1, .int .i64 a1_2, .int .i64 a1_3, .int .i64 a1_4] 38 (0, 0)) Q34 hb); have n3_ := Aside0.mk (below_step Q70 hb); clear BK328; clear BK329; clear HB; have HO332 := n0_; have BK328 := n1_; have BK329 := n2_; have HB := n3_; clear n0_ n1_ n2_ n3_; clear hb ho8; obtain ⟨hcz9_0, hcz9_1, hcz9_2, hcz9_3, hcz9_4, hfz9_0, hfz9_1, hfz9_2, hfz9_3, hfz9_4⟩ := bx5_ BK329) | ((with_reducible refine gate_dst (N := 29) rfl ?_); refine Kd.R_lit (Kd.int .i64) _ 3 ?hg (N := 29) ?hd (xs := ([a1_0, a1_1, a1_2, a1_3] : List Int)) (inner := [.int .i64 a1_0, .int .i64 a1_1, .int .i64 a1_2, .int .i64 a1_3]) (ok := fun _ => True) (okp := fun _ => True) ?hr ?hp (fun _ hk => hk) trivial (Below.refl _ _) (Nat.le_refl _) Q0 ?_; (case hd => rfl); (case hg => rfl); (case hr => first | (go_simp; done) | (go_simp; rfl)); (case hp => exact (Reps.one (show Kd.M (Kd.int .i64) _ _ _ a1_0 [.int .i64 a1_0] from rfl) (Reps.one (show Kd.M (Kd.int .i64) _ _ _ a1_1 [.int .i64 a1_1] from rfl) (Reps.one (show Kd.M (Kd.int .i64) _ _ _ a1_2 [.int .i64 a1_2] from rfl) (Reps.one (show Kd.M (Kd.int .i64) _ _ _ a1_3 [.int .i64 a1_3] from rfl) (Reps.none _ _)))))); intro v334 w10 ho11 hb hg_ hnew_; clear hg_ hnew_; (first | rw [← Ny333.out] at ho11 | (simp only [Int.reduceToNat] at ho11; rw [← Ny333.out] at ho11)); have n0_ := Aside0.mk (Kd.R_elder' Q18 (Kd.R_base ho11) hb); have n1_ := Aside0.mk (Kd.R_lower (Kd.R_new' ho11 (Kd.R_lt Q18)) (below_size Q70)); have n2_ := Aside0.mk (blk_below (g := gb328) (o := .cells #[.int .i64 a0_0, .int .i64 a0_1, .int .i64 a0_2, .int .i64 a0_3, .int .i64 a0_4] 38 (0, 0)) Q33 hb); have n3_ := Aside0.mk (blk_below (g := gb329) (o := .cells #[.int .i64 a1_0, .int .i64 a1_1, .int .i64 a1_2, .int .i64 a1_3, .int .i64 a1_4] 38 (0, 0)) Q34 hb); have n4_ := Aside0.mk (below_step Q70 hb); clear HO332; clear BK328; clear BK329; clear HB; have HO332 := n0_; have HO335 := n1_; have BK328 := n2_; have BK329 := n3_; have HB := n4_; clear n0_ n1_ n2_ n3_ n4_; clear hb ho11))
 repeat (go_quiet (first | ((with_reducible refine gate_dst (N := 2) rfl ?_); refine box_event ?hg (N := 2) ?hd (cs := #[.int .i64 a0_0, .int .i64 a0_1, .int .i64 a0_2, .int .i64 a0_3, .int .i64 a0_4]) (t := 38) ?hr ?_; (case hd => rfl); (case hg => rfl); (case hr => first | (go_simp; done) | (go_simp; rfl)); intro gb328 hg w3 hbox hb; have n0_ := Aside0.mk (below_step Q37 hb); have n1_ := Aside0.mk (hbox); have n2_ := Aside0.mk ((Q86 : w.heap.size ≤ gb328)); have n3_ := n2_; clear HB; have HB := n0_; have BK328 := n1_; have GW328 := n2_; have GE328 := n3_; clear n0_ n1_ n2_ n3_; clear hb hbox hg) | ((with_reducible refine gate_dst (N := 3) rfl ?_); refine box_event ?hg (N := 3) ?hd (cs := #[.int .i64 a1_0, .int .i64 a1_1, .int .i64 a1_2, .int .i64 a1_3, .int .i64 a1_4]) (t := 38) ?hr ?_; (case hd => rfl); (case hg => rfl); (case hr => first | (go_simp; done) | (go_simp; rfl)); intro gb329 hg w4 hbox hb; have n0_ := Aside0.mk (blk_below (g := gb328) (o := .cells #[.int .i64 a0_0, .int .i64 a0_1, .int .i64 a0_2, .int .i64 a0_3, .int .i64 a0_4] 38 (0, 0)) Q33 hb); have n1_ := Aside0.mk (below_step Q52 hb); have n2_ := Aside0.mk (hbox); have n3_ := Aside0.mk ((by rw [hg]; exact (below_size Q52) : w.heap.size ≤ gb329)); have n4_ := n3_; have n5_ := Aside0.mk ((Q94 : gb328 ≠ gb329)); have n6_ := Aside0.mk ((Q95 : gb329 ≠ gb328)); clear BK328; clear HB; have BK328 := n0_; have HB := n1_; have BK329 := n2_; have GW329 := n3_; have GE329 := n4_; have NB328_329 := n5_; have NB329_328 := n6_; clear n0_ n1_ n2_ n3_ n4_ n5_ n6_; clear hb hbox hg; have hnb5 := NB328_329.out; have hnc5 := NB329_328.out; obtain ⟨hcz6_0, hcz6_1, hcz6_2, hcz6_3, hcz6_4, hfz6_0, hfz6_1, hfz6_2, hfz6_3, hfz6_4⟩ := bx5_ BK328) | ((with_reducible refine gate_dst (N := 18) rfl ?_); refine Kd.R_lit (Kd.int .i64) _ 3 ?hg (N := 18) ?hd (xs := ([a0_0, a0_1, a0_2, a0_3] : List Int)) (inner := [.int .i64 a0_0, .int .i64 a0_1, .int .i64 a0_2, .int .i64 a0_3]) (ok := fun _ => True) (okp := fun _ => True) ?hr ?hp (fun _ hk => hk) trivial (Below.refl _ _) (Nat.le_refl _) Q0 ?_; (case hd => rfl); (case hg => rfl); (case hr => first | (go_simp; done) | (go_simp; rfl)); (case hp => exact (Reps.one (show Kd.M (Kd.int .i64) _ _ _ a0_0 [.int .i64 a0_0] from rfl) (Reps.one (show Kd.M (Kd.int .i64) _ _ _ a0_1 [.int .i64 a0_1] from rfl) (Reps.one (show Kd.M (Kd.int .i64) _ _ _ a0_2 [.int .i64 a0_2] from rfl) (Reps.one (show Kd.M (Kd.int .i64) _ _ _ a0_3 [.int .i64 a0_3] from rfl) (Reps.none _ _)))))); intro v331 w7 ho8 hb hg_ hnew_; clear hg_ hnew_; (first | rw [← Ny330.out] at ho8 | (simp only [Int.reduceToNat] at ho8; rw [← Ny330.out] at ho8)); have n0_ := Aside0.mk (Kd.R_lower ho8 (below_size Q70)); have n1_ := Aside0.mk (blk_below (g := gb328) (o := .cells #[.int .i64 a0_0, .int .i64 a0_1, .int .i64 a0_2, .int .i64 a0_3, .int .i64 a0_4] 38 (0, 0)) Q33 hb); have n2_ := Aside0.mk (blk_below (g := gb329) (o := .cells #[.int .i64 a1_0, .int .i64 a1_1, .int .i64 a1_2, .int .i64 a1_3, .int .i64 a1_4] 38 (0, 0)) Q34 hb); have n3_ := Aside0.mk (below_step Q70 hb); clear BK328; clear BK329; clear HB; have HO332 := n0_; have BK328 := n1_; have BK329 := n2_; have HB := n3_; clear n0_ n1_ n2_ n3_; clear hb ho8; obtain ⟨hcz9_0, hcz9_1, hcz9_2, hcz9_3, hcz9_4, hfz9_0, hfz9_1, hfz9_2, hfz9_3, hfz9_4⟩ := bx5_ BK329) | ((with_reducible refine gate_dst (N := 29) rfl ?_); refine Kd.R_lit (Kd.int .i64) _ 3 ?hg (N := 29) ?hd (xs := ([a1_0, a1_1, a1_2, a1_3] : List Int)) (inner := [.int .i64 a1_0, .int .i64 a1_1, .int .i64 a1_2, .int .i64 a1_3]) (ok := fun _ => True) (okp := fun _ => True) ?hr ?hp (fun _ hk => hk) trivial (Below.refl _ _) (Nat.le_refl _) Q0 ?_; (case hd => rfl); (case hg => rfl); (case hr => first | (go_simp; done) | (go_simp; rfl)); (case hp => exact (Reps.one (show Kd.M (Kd.int .i64) _ _ _ a1_0 [.int .i64 a1_0] from rfl) (Reps.one (show Kd.M (Kd.int .i64) _ _ _ a1_1 [.int .i64 a1_1] from rfl) (Reps.one (show Kd.M (Kd.int .i64) _ _ _ a1_2 [.int .i64 a1_2] from rfl) (Reps.one (show Kd.M (Kd.int .i64) _ _ _ a1_3 [.int .i64 a1_3] from rfl) (Reps.none _ _)))))); intro v334 w10 ho11 hb hg_ hnew_; clear hg_ hnew_; (first | rw [← Ny333.out] at ho11 | (simp only [Int.reduceToNat] at ho11; rw [← Ny333.out] at ho11)); have n0_ := Aside0.mk (Kd.R_elder' Q18 (Kd.R_base ho11) hb); have n1_ := Aside0.mk (Kd.R_lower (Kd.R_new' ho11 (Kd.R_lt Q18)) (below_size Q70)); have n2_ := Aside0.mk (blk_below (g := gb328) (o := .cells #[.int .i64 a0_0, .int .i64 a0_1, .int .i64 a0_2, .int .i64 a0_3, .int .i64 a0_4] 38 (0, 0)) Q33 hb); have n3_ := Aside0.mk (blk_below (g := gb329) (o := .cells #[.int .i64 a1_0, .int .i64 a1_1, .int .i64 a1_2, .int .i64 a1_3, .int .i64 a1_4] 38 (0, 0)) Q34 hb); have n4_ := Aside0.mk (below_step Q70 hb); clear HO332; clear BK328; clear BK329; clear HB; have HO332 := n0_; have HO335 := n1_; have BK328 := n2_; have BK329 := n3_; have HB := n4_; clear n0_ n1_ n2_ n3_ n4_; clear hb ho11)); try go_wp2_with (first | ((with_reducible refine gate_dst (N := 2) rfl ?_); refine box_event ?hg (N := 2) ?hd (cs := #[.int .i64 a0_0, .int .i64 a0_1, .int .i64 a0_2, .int .i64 a0_3, .int .i64 a0_4]) (t := 38) ?hr ?_; (case hd => rfl); (case hg => rfl); (case hr => first | (go_simp; done) | (go_simp; rfl)); intro gb328 hg w3 hbox hb; have n0_ := Aside0.mk (below_step Q37 hb); have n1_ := Aside0.mk (hbox); have n2_ := Aside0.mk ((Q86 : w.heap.size ≤ gb328)); have n3_ := n2_; clear HB; have HB := n0_; have BK328 := n1_; have GW328 := n2_; have GE328 := n3_; clear n0_ n1_ n2_ n3_; clear hb hbox hg) | ((with_reducible refine gate_dst (N := 3) rfl ?_); refine box_event ?hg (N := 3) ?hd (cs := #[.int .i64 a1_0, .int .i64 a1_1, .int .i64 a1_2, .int .i64 a1_3, .int .i64 a1_4]) (t := 38) ?hr ?_; (case hd => rfl); (case hg => rfl); (case hr => first | (go_simp; done) | (go_simp; rfl)); intro gb329 hg w4 hbox hb; have n0_ := Aside0.mk (blk_below (g := gb328) (o := .cells #[.int .i64 a0_0, .int .i64 a0_1, .int .i64 a0_2, .int .i64 a0_3, .int .i64 a0_4] 38 (0, 0)) Q33 hb); have n1_ := Aside0.mk (below_step Q52 hb); have n2_ := Aside0.mk (hbox); have n3_ := Aside0.mk ((by rw [hg]; exact (below_size Q52) : w.heap.size ≤ gb329)); have n4_ := n3_; have n5_ := Aside0.mk ((Q94 : gb328 ≠ gb329)); have n6_ := Aside0.mk ((Q95 : gb329 ≠ gb328)); clear BK328; clear HB; have BK328 := n0_; have HB := n1_; have BK329 := n2_; have GW329 := n3_; have GE329 := n4_; have NB328_329 := n5_; have NB329_328 := n6_; clear n0_ n1_ n2_ n3_ n4_ n5_ n6_; clear hb hbox hg; have hnb5 := NB328_329.out; have hnc5 := NB329_328.out; obtain ⟨hcz6_0, hcz6_1, hcz6_2, hcz6_3, hcz6_4, hfz6_0, hfz6_1, hfz6_2, hfz6_3, hfz6_4⟩ := bx5_ BK328) | ((with_reducible refine gate_dst (N := 18) rfl ?_); refine Kd.R_lit (Kd.int .i64) _ 3 ?hg (N := 18) ?hd (xs := ([a0_0, a0_1, a0_2, a0_3] : List Int)) (inner := [.int .i64 a0_0, .int .i64 a0_1, .int .i64 a0_2, .int .i64 a0_3]) (ok := fun _ => True) (okp := fun _ => True) ?hr ?hp (fun _ hk => hk) trivial (Below.refl _ _) (Nat.le_refl _) Q0 ?_; (case hd => rfl); (case hg => rfl); (case hr => first | (go_simp; done) | (go_simp; rfl)); (case hp => exact (Reps.one (show Kd.M (Kd.int .i64) _ _ _ a0_0 [.int .i64 a0_0] from rfl) (Reps.one (show Kd.M (Kd.int .i64) _ _ _ a0_1 [.int .i64 a0_1] from rfl) (Reps.one (show Kd.M (Kd.int .i64) _ _ _ a0_2 [.int .i64 a0_2] from rfl) (Reps.one (show Kd.M (Kd.int .i64) _ _ _ a0_3 [.int .i64 a0_3] from rfl) (Reps.none _ _)))))); intro v331 w7 ho8 hb hg_ hnew_; clear hg_ hnew_; (first | rw [← Ny330.out] at ho8 | (simp only [Int.reduceToNat] at ho8; rw [← Ny330.out] at ho8)); have n0_ := Aside0.mk (Kd.R_lower ho8 (below_size Q70)); have n1_ := Aside0.mk (blk_below (g := gb328) (o := .cells #[.int .i64 a0_0, .int .i64 a0_1, .int .i64 a0_2, .int .i64 a0_3, .int .i64 a0_4] 38 (0, 0)) Q33 hb); have n2_ := Aside0.mk (blk_below (g := gb329) (o := .cells #[.int .i64 a1_0, .int .i64 a1_1, .int .i64 a1_2, .int .i64 a1_3, .int .i64 a1_4] 38 (0, 0)) Q34 hb); have n3_ := Aside0.mk (below_step Q70 hb); clear BK328; clear BK329; clear HB; have HO332 := n0_; have BK328 := n1_; have BK329 := n2_; have HB := n3_; clear n0_ n1_ n2_ n3_; clear hb ho8; obtain ⟨hcz9_0, hcz9_1, hcz9_2, hcz9_3, hcz9_4, hfz9_0, hfz9_1, hfz9_2, hfz9_3, hfz9_4⟩ := bx5_ BK329) | ((with_reducible refine gate_dst (N := 29) rfl ?_); refine Kd.R_lit (Kd.int .i64) _ 3 ?hg (N := 29) ?hd (xs := ([a1_0, a1_1, a1_2, a1_3] : List Int)) (inner := [.int .i64 a1_0, .int .i64 a1_1, .int .i64 a1_2, .int .i64 a1_3]) (ok := fun _ => True) (okp := fun _ => True) ?hr ?hp (fun _ hk => hk) trivial (Below.refl _ _) (Nat.le_refl _) Q0 ?_; (case hd => rfl); (case hg => rfl); (case hr => first | (go_simp; done) | (go_simp; rfl)); (case hp => exact (Reps.one (show Kd.M (Kd.int .i64) _ _ _ a1_0 [.int .i64 a1_0] from rfl) (Reps.one (show Kd.M (Kd.int .i64) _ _ _ a1_1 [.int .i64 a1_1] from rfl) (Reps.one (show Kd.M (Kd.int .i64) _ _ _ a1_2 [.int .i64 a1_2] from rfl) (Reps.one (show Kd.M (Kd.int .i64) _ _ _ a1_3 [.int .i64 a1_3] from rfl) (Reps.none _ _)))))); intro v334 w10 ho11 hb hg_ hnew_; clear hg_ hnew_; (first | rw [← Ny333.out] at ho11 | (simp only [Int.reduceToNat] at ho11; rw [← Ny333.out] at ho11)); have n0_ := Aside0.mk (Kd.R_elder' Q18 (Kd.R_base ho11) hb); have n1_ := Aside0.mk (Kd.R_lower (Kd.R_new' ho11 (Kd.R_lt Q18)) (below_size Q70)); have n2_ := Aside0.mk (blk_below (g := gb328) (o := .cells #[.int .i64 a0_0, .int .i64 a0_1, .int .i64 a0_2, .int .i64 a0_3, .int .i64 a0_4] 38 (0, 0)) Q33 hb); have n3_ := Aside0.mk (blk_below (g := gb329) (o := .cells #[.int .i64 a1_0, .int .i64 a1_1, .int .i64 a1_2, .int .i64 a1_3, .int .i64 a1_4] 38 (0, 0)) Q34 hb); have n4_ := Aside0.mk (below_step Q70 hb); clear HO332; clear BK328; clear BK329; clear HB; have HO332 := n0_; have HO335 := n1_; have BK328 := n2_; have BK329 := n3_; have HB := n4_; clear n0_ n1_ n2_ n3_ n4_; clear hb ho11)))
 go_loopg [7] k (fun kq v7 w' => ∃ (x7_1 : Int), v7 = .int .i64 x7_1 ∧ Aside0 (spec_l2Comp.l0 kq y330 y333 x7_1 = some r) ∧ Aside0 (kq ≤ k) ∧ Aside0 (Kd.R (Kd.int .i64) 3 w' w.heap.size (fun k_ => some k_ ≠ (v334 : Value).ownBlock) v331 y330) ∧ Aside0 (Kd.R (Kd.int .i64) 3 w' w.heap.size (fun k_ => some k_ ≠ (v331 : Value).ownBlock) v334 y333) ∧ Aside0 (w'.heap[gb328]? = some (.cells #[.int .i64 a0_0, .int .i64 a0_1, .int .i64 a0_2, .int .i64 a0_3, .int .i64 a0_4] 38 (0, 0))) ∧ Aside0 (w'.heap[gb329]? = some (.cells #[.int .i64 a1_0, .int .i64 a1_1, .int .i64 a1_2, .int .i64 a1_3, .int .i64 a1_4] 38 (0, 0))) ∧ Aside0 (Below w.heap.size w w'))
 case atStart => exact ⟨(0), Q6, H', ⟨Nat.le_refl _⟩, ⟨by (with_reducible repeat (first | apply Kd.R_alloc | apply Kd.R_drewN | apply Kd.R_drew)); exact Kd.R_mono HO332.out (fun _ hk => hk.2)⟩, ⟨by (with_reducible repeat (first | apply Kd.R_alloc | apply Kd.R_drewN | apply Kd.R_drew)); exact Kd.R_mono HO335.out (fun _ hk => hk.2)⟩, ⟨Q33⟩, ⟨Q34⟩, ⟨Q70⟩⟩
 case round =>
  clear H'
  try clear p2
  try clear c5
  try clear c7
  try clear hcz6_0
  try clear hcz6_1
  try clear hcz6_2
  try clear hcz6_3
  try clear hcz6_4
  try clear hcz9_0
  try clear hcz9_1
  try clear hcz9_2
  try clear hcz9_3
  try clear hcz9_4
  try clear hfz6_0
  try clear hfz6_1
  try clear hfz6_2
  try clear hfz6_3
  try clear hfz6_4
  try clear hfz9_0
  try clear hfz9_1
  try clear hfz9_2
  try clear hfz9_3
  try clear hfz9_4
  obtain ⟨x7_1, rfl, HA, HK1, HO_5, HO_6, BK328, BK329, HB⟩ := hrel
  cases gk with
  | zero => exact absurd HA.out (by simp [spec_l2Comp.l0])
  | succ k1 =>
   have H := HA.out
   clear HA
   simp only [spec_l2Comp.l0] at H
   by_cases c12 : x7_1 < (y330.length : Int)
   ·rw [if_pos c12] at H
    have c12b0 : decide (x7_1 < (y330.length : Int)) = true := decide_eq_true c12
    clear c12
    by_cases c13 : 0 ≤ x7_1
    ·rw [if_pos c13] at H
     have c13b0 : decide (0 ≤ x7_1) = true := decide_eq_true c13
     clear c13
     by_cases c14 : x7_1 < (y333.length : Int)
     ·rw [if_pos c14] at H
      have c14b0 : decide (x7_1 < (y333.length : Int)) = true := decide_eq_true c14
      clear c14
      by_cases c15 : (rd y330 x7_1) < (rd y333 x7_1)
      ·rw [if_pos c15] at H
       have c15b0 : decide ((rd y330 x7_1) < (rd y333 x7_1)) = true := decide_eq_true c15
       clear c15
       obtain rfl := Option.some.inj H
       obtain ⟨Ao16, co16, eo16⟩ := Kd.R_slice HO_5.out
       subst eo16
       have p336 : 0 ≤ (x7_1 : Int) := of_decide_eq_true Q7
       have q336 : x7_1 < (y330.length : Int) := of_decide_eq_true Q7
       obtain ⟨ad336, e336, hx336_0⟩ := Kd.at_int (Kd.R_reads' HO_5.out).2.2 x7_1 p336 q336
       cases e336
       replace p336 := eq_true p336
       replace q336 := eq_true q336
       obtain ⟨Ao17, co17, eo17⟩ := Kd.R_slice HO_6.out
       subst eo17
       have p337 : 0 ≤ (x7_1 : Int) := of_decide_eq_true Q7
       have q337 : x7_1 < (y333.length : Int) := of_decide_eq_true Q7
       obtain ⟨ad337, e337, hx337_0⟩ := Kd.at_int (Kd.R_reads' HO_6.out).2.2 x7_1 p337 q337
       cases e337
       replace p337 := eq_true p337
       replace q337 := eq_true q337
       go_wp2
       repeat (go_quiet (fail); try go_wp2)
       go_ret
       exact ⟨Q10, Q70⟩
      ·rw [if_neg c15] at H
       have c15b0 : decide ((rd y330 x7_1) < (rd y333 x7_1)) = false := decide_eq_false c15
       clear c15
       by_cases c18 : (rd y330 x7_1) > (rd y333 x7_1)
       ·rw [if_pos c18] at H
        have c18b0 : decide ((rd y333 x7_1) < (rd y330 x7_1)) = true := decide_eq_true c18
        clear c18
        obtain rfl := Option.some.inj H
        obtain ⟨Ao19, co19, eo19⟩ := Kd.R_slice HO_5.out
        subst eo19
        have p336 : 0 ≤ (x7_1 : Int) := of_decide_eq_true Q7
        have q336 : x7_1 < (y330.length : Int) := of_decide_eq_true Q7
        obtain ⟨ad336, e336, hx336_0⟩ := Kd.at_int (Kd.R_reads' HO_5.out).2.2 x7_1 p336 q336
        cases e336
        replace p336 := eq_true p336
        replace q336 := eq_true q336
        obtain ⟨Ao20, co20, eo20⟩ := Kd.R_slice HO_6.out
        subst eo20
        have p337 : 0 ≤ (x7_1 : Int) := of_decide_eq_true Q7
        have q337 : x7_1 < (y333.length : Int) := of_decide_eq_true Q7
        obtain ⟨ad337, e337, hx337_0⟩ := Kd.at_int (Kd.R_reads' HO_6.out).2.2 x7_1 p337 q337
        cases e337
        replace p337 := eq_true p337
        replace q337 := eq_true q337
        have p338 : 0 ≤ (x7_1 : Int) := of_decide_eq_true Q7
        have q338 : x7_1 < (y330.length : Int) := of_decide_eq_true Q7
        obtain ⟨ad338, e338, hx338_0⟩ := Kd.at_int (Kd.R_reads' HO_5.out).2.2 x7_1 p338 q338
        obtain rfl : ad336 = ad338 := (by injection e338)
        replace p338 := eq_true p338
        replace q338 := eq_true q338
        have p339 : 0 ≤ (x7_1 : Int) := of_decide_eq_true Q7
        have q339 : x7_1 < (y333.length : Int) := of_decide_eq_true Q7
        obtain ⟨ad339, e339, hx339_0⟩ := Kd.at_int (Kd.R_reads' HO_6.out).2.2 x7_1 p339 q339
        obtain rfl : ad337 = ad339 := (by injection e339)
        replace p339 := eq_true p339
        replace q339 := eq_true q339
        go_wp2
        repeat (go_quiet (fail); try go_wp2)
        go_ret
        exact ⟨Q10, Q70⟩
       ·rw [if_neg c18] at H
        have c18b0 : decide ((rd y333 x7_1) < (rd y330 x7_1)) = false := decide_eq_false c18
        clear c18
        have H' := Aside0.mk H
        clear H
        obtain ⟨Ao21, co21, eo21⟩ := Kd.R_slice HO_5.out
        subst eo21
        have p336 : 0 ≤ (x7_1 : Int) := of_decide_eq_true Q7
        have q336 : x7_1 < (y330.length : Int) := of_decide_eq_true Q7
        obtain ⟨ad336, e336, hx336_0⟩ := Kd.at_int (Kd.R_reads' HO_5.out).2.2 x7_1 p336 q336
        cases e336
        replace p336 := eq_true p336
        replace q336 := eq_true q336
        obtain ⟨Ao22, co22, eo22⟩ := Kd.R_slice HO_6.out
        subst eo22
        have p337 : 0 ≤ (x7_1 : Int) := of_decide_eq_true Q7
        have q337 : x7_1 < (y333.length : Int) := of_decide_eq_true Q7
        obtain ⟨ad337, e337, hx337_0⟩ := Kd.at_int (Kd.R_reads' HO_6.out).2.2 x7_1 p337 q337
        cases e337
        replace p337 := eq_true p337
        replace q337 := eq_true q337
        have p338 : 0 ≤ (x7_1 : Int) := of_decide_eq_true Q7
        have q338 : x7_1 < (y330.length : Int) := of_decide_eq_true Q7
        obtain ⟨ad338, e338, hx338_0⟩ := Kd.at_int (Kd.R_reads' HO_5.out).2.2 x7_1 p338 q338
        obtain rfl : ad336 = ad338 := (by injection e338)
        replace p338 := eq_true p338
        replace q338 := eq_true q338
        have p339 : 0 ≤ (x7_1 : Int) := of_decide_eq_true Q7
        have q339 : x7_1 < (y333.length : Int) := of_decide_eq_true Q7
        obtain ⟨ad339, e339, hx339_0⟩ := Kd.at_int (Kd.R_reads' HO_6.out).2.2 x7_1 p339 q339
        obtain rfl : ad337 = ad339 := (by injection e339)
        replace p339 := eq_true p339
        replace q339 := eq_true q339
        go_wp2
        repeat (go_quiet (fail); try go_wp2)
        go_roundg k1
        case measure => have := HK1.out; omega
        case rel => exact ⟨(wrap64 (x7_1 + 1)), Q6, H', ⟨Q3⟩, ⟨Q12⟩, ⟨by (with_reducible repeat (first | apply Kd.R_alloc | apply Kd.R_drewN | apply Kd.R_drew)); exact HO_6.out⟩, ⟨Q33⟩, ⟨Q34⟩, ⟨Q70⟩⟩
     ·rw [if_neg c14] at H
      exact absurd H Q0
    ·rw [if_neg c13] at H
     exact absurd H Q0
   ·rw [if_neg c12] at H
    have c12b0 : decide (x7_1 < (y330.length : Int)) = false := decide_eq_false c12
    clear c12
    obtain rfl := Option.some.inj H
    obtain ⟨Ao23, co23, eo23⟩ := Kd.R_slice HO_5.out
    subst eo23
    go_wp2
    repeat (go_quiet (fail); try go_wp2)
    go_ret
    exact ⟨Q10, Q70⟩
def spec_BatchOk.l0 : Nat → List (S38) → Int → Option (Bool)
 | 0, _, _ => none
 | k + 1, x0, x3 => if x3 < (x0.length : Int) then (if 0 ≤ x3 then (if ((rd_T38 x0 x3).f3) = 0 then (some false) else (if x3 > 0 then (if 0 ≤ (wrap64 (x3 - 1)) then (if (wrap64 (x3 - 1)) < (x0.length : Int) then ((spec_l2Comp.f k ((rd_T38 x0 (wrap64 (x3 - 1))).f0) ((rd_T38 x0 (wrap64 (x3 - 1))).f1) ((rd_T38 x0 (wrap64 (x3 - 1))).f2.f0) ((rd_T38 x0 (wrap64 (x3 - 1))).f2.f1) ((rd_T38 x0 (wrap64 (x3 - 1))).f3) ((rd_T38 x0 x3).f0) ((rd_T38 x0 x3).f1) ((rd_T38 x0 x3).f2.f0) ((rd_T38 x0 x3).f2.f1) ((rd_T38 x0 x3).f3)).bind fun t344 => (if t344 ≥ 0 then (some false) else (spec_BatchOk.l0 k x0 (wrap64 (x3 + 1))))) else (none)) else (none)) else (spec_BatchOk.l0 k x0 (wrap64 (x3 + 1))))) else (none)) else (some true)
def spec_BatchOk.f (k : Nat) (l0 : List (S38)) : Option (Bool) := (spec_RowsOk.f k l0).bind fun t340 => (if t340 = true then (spec_BatchOk.l0 k l0 0) else (some false))
theorem spec_BatchOk.mono_l : ∀ k, (∀ y0 y1, LeO (spec_BatchOk.l0 k y0 y1) (spec_BatchOk.l0 (k + 1) y0 y1))
 | 0 => fun _ _ r h => by simp [spec_BatchOk.l0] at h
 | k + 1 => by
  have ih0 := spec_BatchOk.mono_l k
  ·intro y0 y1
   unfold spec_BatchOk.l0
   repeat' first
   | (with_reducible exact ih0 _ _)
   | (with_reducible exact spec_RowsOk.mono _ _)
   | (with_reducible exact spec_l2Comp.mono _ _ _ _ _ _ _ _ _ _ _)
   | (with_reducible exact LeO.refl _)
   | (with_reducible exact LeO.none _)
   | (with_reducible refine LeO.ite ?_ ?_)
   | (with_reducible refine LeO.bind ?_ (fun _ => ?_))
   | exact ih0 _ _
   | exact spec_RowsOk.mono _ _
   | exact spec_l2Comp.mono _ _ _ _ _ _ _ _ _ _ _
   | exact LeO.none _
   | refine LeO.ite ?_ ?_
   | refine LeO.bind ?_ (fun _ => ?_)
theorem spec_BatchOk.mono : ∀ a0 k, LeO (spec_BatchOk.f k a0) (spec_BatchOk.f (k + 1) a0) := by
 intro a0 k
 have ih0 := spec_BatchOk.mono_l k
 unfold spec_BatchOk.f
 repeat' first
   | (with_reducible exact ih0 _ _)
   | (with_reducible exact spec_RowsOk.mono _ _)
   | (with_reducible exact spec_l2Comp.mono _ _ _ _ _ _ _ _ _ _ _)
   | (with_reducible exact LeO.refl _)
   | (with_reducible exact LeO.none _)
   | (with_reducible refine LeO.ite ?_ ?_)
   | (with_reducible refine LeO.bind ?_ (fun _ => ?_))
   | exact ih0 _ _
   | exact spec_RowsOk.mono _ _
   | exact spec_l2Comp.mono _ _ _ _ _ _ _ _ _ _ _
   | exact LeO.none _
   | refine LeO.ite ?_ ?_
   | refine LeO.bind ?_ (fun _ => ?_)
def spec_BatchOk.T6 : Bool × List (List Nat × List Nat) := (true, [([], []), ([], []), ([0, 1], [0, 1]), ([2], [2]), ([3], [3]), ([4], [4]), ([5], [5]), ([6], [6]), ([7, 6], [6, 7]), ([8, 6, 6], [6, 8]), ([9], [9]), ([9], [9]), ([11, 9], [9, 11]), ([10, 12, 9], [9, 10, 12]), ([13, 9], [9, 13]), ([9], [9]), ([9], [9]), ([15, 16, 9], [9, 15, 16]), ([17, 9], [9, 17]), ([14, 18, 9, 9], [9, 14, 18]), ([19, 9], [9, 19]), ([9, 20, 6], [6, 9, 20]), ([6, 21], [6, 21])])
def spec_BatchOk.B6 : List Nat := [0, 0, 3, 7, 15, 31, 63, 127, 255, 511, 1023, 1023, 3071, 8191, 16383, 1023, 1023, 99327, 230399, 524287, 1048575, 2097151, 4194303]
theorem spec_BatchOk.tab6 : rtab .any (opsOf Try.f31 6) = spec_BatchOk.T6 := by kernel_rfl
theorem spec_BatchOk.bits6 : waitsOk spec_BatchOk.T6.2 spec_BatchOk.B6 = true := by kernel_rfl
set_option maxHeartbeats 8000000 in
set_option maxRecDepth 100000 in
theorem spec_BatchOk.calls (k : Nat) (A0 : Option Addr) (c0 : Nat) (l0 : List (S38)) (r : Bool) (w : World) (hr0 : Kd.C k38 w A0 l0.length l0) (hc0 : l0.length ≤ c0) (h : spec_BatchOk.f k l0 = some r) :
  Calls Try.prog 31 #[.slice A0 l0.length c0] w fun e w' => e = .returned (.bool r) ∧ Below w.heap.size w w' := by
 have hu38 := Try.underlying38
 have HR0 := Aside0.mk hr0
 have HC0 := Aside0.mk hc0
 clear hr0 hc0
 have HB := Aside0.mk (Below.refl w.heap.size w)
 have H : ((spec_RowsOk.f k l0).bind fun t340 => (if t340 = true then (spec_BatchOk.l0 k l0 0) else (some false))) = some r := h
 clear h
 replace H := Option.bind_eq_some_iff.mp H
 obtain ⟨t340, A20, H⟩ := H
 replace H : (if t340 = true then (spec_BatchOk.l0 k l0 0) else (some false)) = some r := H
 have A2 := Aside0.mk A20
 clear A20
 by_cases c3 : t340 = true
 ·subst c3
  have H1 : (spec_BatchOk.l0 k l0 0) = some r := by rw [if_pos rfl] at H; exact H
  clear H
  have H := H1
  clear H1
  have H' := Aside0.mk H
  clear H
  go_enter Try.func31, Try.ntmps31
  go_wp2_with (first | ((with_reducible refine gate_callee (f := 20) rfl ?_); refine goesL_ (some 5) rfl rfl Try.func20 Q2 rfl #[.slice A0 l0.length c0] rfl Q39 ?_; (with_reducible refine (spec_RowsOk.calls k _ _ l0 true _ ?side1 ?side2 A2.out).mono ?_); (case side1 => exact Q44); (case side2 => exact HC0.out); rintro e w4 ⟨rfl, hb⟩; refine ⟨_, rfl, ?_⟩; have n0_ := Aside0.mk (below_step Q37 hb); clear HB; have HB := n0_; clear n0_; (try clear hb); (try clear hb2); (try clear hk); (try clear hi)))
  go_loopg [3] k (fun kq v3 w' => ∃ (x3_1 : Int), v3 = .int .i64 x3_1 ∧ Aside0 (spec_BatchOk.l0 kq l0 x3_1 = some r) ∧ Aside0 (kq ≤ k) ∧ Aside0 (Below w.heap.size w w'))
  case atStart => exact ⟨(0), Q6, H', ⟨Nat.le_refl _⟩, ⟨Q37⟩⟩
  case round =>
   clear H'
   try clear c2
   try clear p2
   try clear c3
   obtain ⟨x3_1, rfl, HA, HK1, HB⟩ := hrel
   cases gk with
   | zero => exact absurd HA.out (by simp [spec_BatchOk.l0])
   | succ k1 =>
    have H := HA.out
    clear HA
    simp only [spec_BatchOk.l0] at H
    by_cases c5 : x3_1 < (l0.length : Int)
    ·rw [if_pos c5] at H
     have c5b0 : decide (x3_1 < (l0.length : Int)) = true := decide_eq_true c5
     clear c5
     by_cases c6 : 0 ≤ x3_1
     ·rw [if_pos c6] at H
      have c6b0 : decide (0 ≤ x3_1) = true := decide_eq_true c6
      clear c6
      by_cases c7 : ((rd_T38 l0 x3_1).f3) = 0
      ·rw [if_pos c7] at H
       have c7b0 : (((rd_T38 l0 x3_1).f3) == 0) = true := beq_iff_eq.mpr c7
       have c7b1 : (((rd_T38 l0 x3_1).f3) != 0) = false := bne_eq_false_iff_eq.mpr c7
       clear c7
       obtain rfl := Option.some.inj H
       try go_wp2
       have n0_ := Aside0.mk (below_drew1 HB.out)
       clear HB
       have HB := n0_
       clear n0_
       have p341 : 0 ≤ (x3_1 : Int) := of_decide_eq_true Q7
       have q341 : x3_1 < (l0.length : Int) := of_decide_eq_true Q7
       obtain ⟨ad341, e341, hx341_0, hx341_1, hx341_2, hx341_3, hx341_4⟩ := at_T38 HR0.out x3_1 p341 q341
       have hw341_4 := hx341_4
       have hw341_3 := hx341_3
       have hw341_2 := hx341_2
       have hw341_1 := hx341_1
       have hw341_0 := hx341_0
       cases e341
       replace hx341_0 := (HB.out.cell (World.block_lt_of_cell? w _ hx341_0)).trans hx341_0
       replace hx341_1 := (HB.out.cell (World.block_lt_of_cell? w _ hx341_1)).trans hx341_1
       replace hx341_2 := (HB.out.cell (World.block_lt_of_cell? w _ hx341_2)).trans hx341_2
       replace hx341_3 := (HB.out.cell (World.block_lt_of_cell? w _ hx341_3)).trans hx341_3
       replace hx341_4 := (HB.out.cell (World.block_lt_of_cell? w _ hx341_4)).trans hx341_4
       replace p341 := eq_true p341
       replace q341 := eq_true q341
       refine start_ (n := 23) (S := fun w' => w'.cell? (ad341.add ((x3_1).toNat * 5)) = some (.int .i64 ((rd_T38 l0 x3_1).f0)) ∧ w'.cell? ⟨(ad341.add ((x3_1).toNat * 5)).block, (ad341.add ((x3_1).toNat * 5)).off + 1, none⟩ = some (.int .i64 ((rd_T38 l0 x3_1).f1)) ∧ w'.cell? ⟨(ad341.add ((x3_1).toNat * 5)).block, (ad341.add ((x3_1).toNat * 5)).off + 2, none⟩ = some (.int .i64 ((rd_T38 l0 x3_1).f2.f0)) ∧ w'.cell? ⟨(ad341.add ((x3_1).toNat * 5)).block, (ad341.add ((x3_1).toNat * 5)).off + 3, none⟩ = some (.int .i64 ((rd_T38 l0 x3_1).f2.f1)) ∧ w'.cell? ⟨(ad341.add ((x3_1).toNat * 5)).block, (ad341.add ((x3_1).toNat * 5)).off + 4, none⟩ = some (.int .i64 ((rd_T38 l0 x3_1).f3))) (ds := []) b23_0 Q2 rfl rfl ⟨((HB.out.cell (World.block_lt_of_cell? w _ hw341_0)).trans hw341_0), ((HB.out.cell (World.block_lt_of_cell? w _ hw341_1)).trans hw341_1), ((HB.out.cell (World.block_lt_of_cell? w _ hw341_2)).trans hw341_2), ((HB.out.cell (World.block_lt_of_cell? w _ hw341_3)).trans hw341_3), ((HB.out.cell (World.block_lt_of_cell? w _ hw341_4)).trans hw341_4)⟩ (fun hHeld => ?_); refine with_tabW spec_BatchOk.tab6 spec_BatchOk.bits6 (fun HT_ HW_ => ?_)
       generalize wr.drew = w8 at HB hx341_0 hx341_1 hx341_2 hx341_3 hx341_4 hHeld ⊢
       refine pU_ 0 13 b23_1 ?_
       refine pU_ 1 14 b23_2 ?_
       refine pU_ 2 15 b23_3 ?_
       refine pU_ 3 16 b23_4 ?_
       refine tU_ 4 17 b23_5 hHeld ?_
       refine pU_ 5 18 b23_6 ?_
       refine pU_ 6 19 b23_7 ?_
       refine pV_ 7 20 b23_8 ?_
       refine pV_ 8 21 b23_9 ?_
       refine pV_ 9 22 b23_10 ?_
       refine pV_ 10 23 b23_11 ?_
       refine pV_ 11 24 b23_12 ?_
       refine pV_ 12 25 b23_13 ?_
       refine pV_ 13 26 b23_14 ?_
       refine pV_ 14 27 b23_15 ?_
       refine pV_ 15 28 b23_16 ?_
       refine pV_ 16 29 b23_17 ?_
       refine pV_ 17 30 b23_18 ?_
       refine pV_ 18 31 b23_19 ?_
       refine pV_ 19 32 b23_20 ?_
       refine pV_ 20 33 b23_21 ?_
       refine pV_ 21 34 b23_22 ?_
       refine pU_ 22 35 b23_23 ?_
       refine done_ (done_of HT_.out Q2) ?_
       try go_wp2
       go_ret
       exact ⟨Q10, Q37⟩
      ·rw [if_neg c7] at H
       have c7b0 : (((rd_T38 l0 x3_1).f3) == 0) = false := beq_eq_false_iff_ne.mpr c7
       have c7b1 : (((rd_T38 l0 x3_1).f3) != 0) = true := bne_iff_ne.mpr c7
       by_cases c9 : x3_1 > 0
       ·rw [if_pos c9] at H
        have c9b0 : decide (0 < x3_1) = true := decide_eq_true c9
        clear c9
        obtain ⟨ji10, hji10⟩ : ∃ j_ : Int, (wrap64 (x3_1 - 1)) = j_ := ⟨_, rfl⟩
        replace H : (if 0 ≤ (ji10) then (if (ji10) < (l0.length : Int) then ((spec_l2Comp.f k1 ((rd_T38 l0 (ji10)).f0) ((rd_T38 l0 (ji10)).f1) ((rd_T38 l0 (ji10)).f2.f0) ((rd_T38 l0 (ji10)).f2.f1) ((rd_T38 l0 (ji10)).f3) ((rd_T38 l0 x3_1).f0) ((rd_T38 l0 x3_1).f1) ((rd_T38 l0 x3_1).f2.f0) ((rd_T38 l0 x3_1).f2.f1) ((rd_T38 l0 x3_1).f3)).bind fun t344 => (if t344 ≥ 0 then (some false) else (spec_BatchOk.l0 k1 l0 (wrap64 (x3_1 + 1))))) else (none)) else (none)) = some r := by first | (rw [hji10] at H; exact H) | (simp only [hji10] at H ⊢; exact H)
        have hji10w : (IntKind.i64.wrap (x3_1 - 1)) = ji10 := (i64_w _).trans hji10
        by_cases c11 : 0 ≤ (ji10)
        ·rw [if_pos c11] at H
         have c11b0 : decide (0 ≤ (ji10)) = true := decide_eq_true c11
         clear c11
         by_cases c12 : (ji10) < (l0.length : Int)
         ·rw [if_pos c12] at H
          have c12b0 : decide ((ji10) < (l0.length : Int)) = true := decide_eq_true c12
          clear c12
          replace H := Option.bind_eq_some_iff.mp H
          obtain ⟨t344, A130, H⟩ := H
          replace H : (if t344 ≥ 0 then (some false) else (spec_BatchOk.l0 k1 l0 (wrap64 (x3_1 + 1)))) = some r := H
          have A13 := Aside0.mk A130
          clear A130
          by_cases c14 : t344 ≥ 0
          ·rw [if_pos c14] at H
           have c14b0 : decide (0 ≤ t344) = true := decide_eq_true c14
           clear c14
           obtain rfl := Option.some.inj H
           try go_wp2
           have n0_ := Aside0.mk (below_drew1 HB.out)
           clear HB
           have HB := n0_
           clear n0_
           have p341 : 0 ≤ (x3_1 : Int) := of_decide_eq_true Q7
           have q341 : x3_1 < (l0.length : Int) := of_decide_eq_true Q7
           obtain ⟨ad341, e341, hx341_0, hx341_1, hx341_2, hx341_3, hx341_4⟩ := at_T38 HR0.out x3_1 p341 q341
           have hw341_4 := hx341_4
           have hw341_3 := hx341_3
           have hw341_2 := hx341_2
           have hw341_1 := hx341_1
           have hw341_0 := hx341_0
           cases e341
           replace hx341_0 := (HB.out.cell (World.block_lt_of_cell? w _ hx341_0)).trans hx341_0
           replace hx341_1 := (HB.out.cell (World.block_lt_of_cell? w _ hx341_1)).trans hx341_1
           replace hx341_2 := (HB.out.cell (World.block_lt_of_cell? w _ hx341_2)).trans hx341_2
           replace hx341_3 := (HB.out.cell (World.block_lt_of_cell? w _ hx341_3)).trans hx341_3
           replace hx341_4 := (HB.out.cell (World.block_lt_of_cell? w _ hx341_4)).trans hx341_4
           replace p341 := eq_true p341
           replace q341 := eq_true q341
           have p342 : 0 ≤ ((ji10) : Int) := of_decide_eq_true Q7
           have q342 : (ji10) < (l0.length : Int) := of_decide_eq_true Q7
           obtain ⟨ad342, e342, hx342_0, hx342_1, hx342_2, hx342_3, hx342_4⟩ := at_T38 HR0.out (ji10) p342 q342
           have hw342_4 := hx342_4
           have hw342_3 := hx342_3
           have hw342_2 := hx342_2
           have hw342_1 := hx342_1
           have hw342_0 := hx342_0
           obtain rfl : ad341 = ad342 := (by injection e342)
           replace hx342_0 := (HB.out.cell (World.block_lt_of_cell? w _ hx342_0)).trans hx342_0
           replace hx342_1 := (HB.out.cell (World.block_lt_of_cell? w _ hx342_1)).trans hx342_1
           replace hx342_2 := (HB.out.cell (World.block_lt_of_cell? w _ hx342_2)).trans hx342_2
           replace hx342_3 := (HB.out.cell (World.block_lt_of_cell? w _ hx342_3)).trans hx342_3
           replace hx342_4 := (HB.out.cell (World.block_lt_of_cell? w _ hx342_4)).trans hx342_4
           replace p342 := eq_true p342
           replace q342 := eq_true q342
           have p343 : 0 ≤ (x3_1 : Int) := of_decide_eq_true Q7
           have q343 : x3_1 < (l0.length : Int) := of_decide_eq_true Q7
           obtain ⟨ad343, e343, hx343_0, hx343_1, hx343_2, hx343_3, hx343_4⟩ := at_T38 HR0.out x3_1 p343 q343
           have hw343_4 := hx343_4
           have hw343_3 := hx343_3
           have hw343_2 := hx343_2
           have hw343_1 := hx343_1
           have hw343_0 := hx343_0
           obtain rfl : ad341 = ad343 := (by injection e343)
           replace hx343_0 := (HB.out.cell (World.block_lt_of_cell? w _ hx343_0)).trans hx343_0
           replace hx343_1 := (HB.out.cell (World.block_lt_of_cell? w _ hx343_1)).trans hx343_1
           replace hx343_2 := (HB.out.cell (World.block_lt_of_cell? w _ hx343_2)).trans hx343_2
           replace hx343_3 := (HB.out.cell (World.block_lt_of_cell? w _ hx343_3)).trans hx343_3
           replace hx343_4 := (HB.out.cell (World.block_lt_of_cell? w _ hx343_4)).trans hx343_4
           replace p343 := eq_true p343
           replace q343 := eq_true q343
           refine start_ (n := 23) (S := fun w' => w'.cell? (ad341.add ((x3_1).toNat * 5)) = some (.int .i64 ((rd_T38 l0 x3_1).f0)) ∧ w'.cell? ⟨(ad341.add ((x3_1).toNat * 5)).block, (ad341.add ((x3_1).toNat * 5)).off + 1, none⟩ = some (.int .i64 ((rd_T38 l0 x3_1).f1)) ∧ w'.cell? ⟨(ad341.add ((x3_1).toNat * 5)).block, (ad341.add ((x3_1).toNat * 5)).off + 2, none⟩ = some (.int .i64 ((rd_T38 l0 x3_1).f2.f0)) ∧ w'.cell? ⟨(ad341.add ((x3_1).toNat * 5)).block, (ad341.add ((x3_1).toNat * 5)).off + 3, none⟩ = some (.int .i64 ((rd_T38 l0 x3_1).f2.f1)) ∧ w'.cell? ⟨(ad341.add ((x3_1).toNat * 5)).block, (ad341.add ((x3_1).toNat * 5)).off + 4, none⟩ = some (.int .i64 ((rd_T38 l0 x3_1).f3)) ∧ w'.cell? (ad341.add (((ji10)).toNat * 5)) = some (.int .i64 ((rd_T38 l0 (ji10)).f0)) ∧ w'.cell? ⟨(ad341.add (((ji10)).toNat * 5)).block, (ad341.add (((ji10)).toNat * 5)).off + 1, none⟩ = some (.int .i64 ((rd_T38 l0 (ji10)).f1)) ∧ w'.cell? ⟨(ad341.add (((ji10)).toNat * 5)).block, (ad341.add (((ji10)).toNat * 5)).off + 2, none⟩ = some (.int .i64 ((rd_T38 l0 (ji10)).f2.f0)) ∧ w'.cell? ⟨(ad341.add (((ji10)).toNat * 5)).block, (ad341.add (((ji10)).toNat * 5)).off + 3, none⟩ = some (.int .i64 ((rd_T38 l0 (ji10)).f2.f1)) ∧ w'.cell? ⟨(ad341.add (((ji10)).toNat * 5)).block, (ad341.add (((ji10)).toNat * 5)).off + 4, none⟩ = some (.int .i64 ((rd_T38 l0 (ji10)).f3)) ∧ w'.cell? (ad341.add ((x3_1).toNat * 5)) = some (.int .i64 ((rd_T38 l0 x3_1).f0)) ∧ w'.cell? ⟨(ad341.add ((x3_1).toNat * 5)).block, (ad341.add ((x3_1).toNat * 5)).off + 1, none⟩ = some (.int .i64 ((rd_T38 l0 x3_1).f1)) ∧ w'.cell? ⟨(ad341.add ((x3_1).toNat * 5)).block, (ad341.add ((x3_1).toNat * 5)).off + 2, none⟩ = some (.int .i64 ((rd_T38 l0 x3_1).f2.f0)) ∧ w'.cell? ⟨(ad341.add ((x3_1).toNat * 5)).block, (ad341.add ((x3_1).toNat * 5)).off + 3, none⟩ = some (.int .i64 ((rd_T38 l0 x3_1).f2.f1)) ∧ w'.cell? ⟨(ad341.add ((x3_1).toNat * 5)).block, (ad341.add ((x3_1).toNat * 5)).off + 4, none⟩ = some (.int .i64 ((rd_T38 l0 x3_1).f3))) (ds := []) b23_0 Q2 rfl rfl ⟨((HB.out.cell (World.block_lt_of_cell? w _ hw341_0)).trans hw341_0), ((HB.out.cell (World.block_lt_of_cell? w _ hw341_1)).trans hw341_1), ((HB.out.cell (World.block_lt_of_cell? w _ hw341_2)).trans hw341_2), ((HB.out.cell (World.block_lt_of_cell? w _ hw341_3)).trans hw341_3), ((HB.out.cell (World.block_lt_of_cell? w _ hw341_4)).trans hw341_4), ((HB.out.cell (World.block_lt_of_cell? w _ hw342_0)).trans hw342_0), ((HB.out.cell (World.block_lt_of_cell? w _ hw342_1)).trans hw342_1), ((HB.out.cell (World.block_lt_of_cell? w _ hw342_2)).trans hw342_2), ((HB.out.cell (World.block_lt_of_cell? w _ hw342_3)).trans hw342_3), ((HB.out.cell (World.block_lt_of_cell? w _ hw342_4)).trans hw342_4), ((HB.out.cell (World.block_lt_of_cell? w _ hw343_0)).trans hw343_0), ((HB.out.cell (World.block_lt_of_cell? w _ hw343_1)).trans hw343_1), ((HB.out.cell (World.block_lt_of_cell? w _ hw343_2)).trans hw343_2), ((HB.out.cell (World.block_lt_of_cell? w _ hw343_3)).trans hw343_3), ((HB.out.cell (World.block_lt_of_cell? w _ hw343_4)).trans hw343_4)⟩ (fun hHeld => ?_); refine with_tabW spec_BatchOk.tab6 spec_BatchOk.bits6 (fun HT_ HW_ => ?_)
           generalize wr.drew = w15 at HB hx341_0 hx341_1 hx341_2 hx341_3 hx341_4 hx342_0 hx342_1 hx342_2 hx342_3 hx342_4 hx343_0 hx343_1 hx343_2 hx343_3 hx343_4 hHeld ⊢
           refine pU_ 0 13 b23_1 ?_
           refine pU_ 1 14 b23_2 ?_
           refine pU_ 2 15 b23_3 ?_
           refine pU_ 3 16 b23_4 ?_
           refine tU_ 4 17 b23_5 hHeld ?_
           refine pU_ 5 18 b23_6 ?_
           refine pU_ 6 19 b23_7 ?_
           refine pU_ 7 20 b23_8 ?_
           refine pU_ 8 21 b23_9 ?_
           refine pU_ 9 22 b23_10 ?_
           refine pU_ 10 23 b23_11 ?_
           refine pU_ 11 24 b23_12 ?_
           refine pU_ 12 25 b23_13 ?_
           refine pU_ 13 26 b23_14 ?_
           refine pU_ 15 28 c57 ?_
           refine pU_ 16 29 c58 ?_
           refine pU_ 17 30 c59 ?_
           refine tU_ 14 27 b23_18 hHeld ?_
           refine tU_ 18 31 b23_19 hHeld ?_
           refine one_ (i := 19) (N := some 32) b23_20 rfl rfl (one_of HT_.out Q2) Q1 (fun K hK => ?_)
           refine goes_ Try.func71 Q2 rfl #[.agg #[.int .i64 ((rd_T38 l0 (ji10)).f0), .int .i64 ((rd_T38 l0 (ji10)).f1), .int .i64 ((rd_T38 l0 (ji10)).f2.f0), .int .i64 ((rd_T38 l0 (ji10)).f2.f1), .int .i64 ((rd_T38 l0 (ji10)).f3)], .agg #[.int .i64 ((rd_T38 l0 x3_1).f0), .int .i64 ((rd_T38 l0 x3_1).f1), .int .i64 ((rd_T38 l0 x3_1).f2.f0), .int .i64 ((rd_T38 l0 x3_1).f2.f1), .int .i64 ((rd_T38 l0 x3_1).f3)]] (by rfl) rfl rfl (by (try simp only [List.map_toArray, List.map_cons, List.map_nil]); first | done | (simp only [hji10]; rfl) | rfl | (simp only [List.length_drop, List.length_take]; rfl)) ?_
           with_reducible refine (spec_l2Comp.calls k1 ((rd_T38 l0 (ji10)).f0) ((rd_T38 l0 (ji10)).f1) ((rd_T38 l0 (ji10)).f2.f0) ((rd_T38 l0 (ji10)).f2.f1) ((rd_T38 l0 (ji10)).f3) ((rd_T38 l0 x3_1).f0) ((rd_T38 l0 x3_1).f1) ((rd_T38 l0 x3_1).f2.f0) ((rd_T38 l0 x3_1).f2.f1) ((rd_T38 l0 x3_1).f3) t344 _ A13.out).mono ?_
           rintro e w16 ⟨rfl, hb⟩
           refine ⟨_, rfl, ?_⟩
           have n0_ := Aside0.mk (below_step Q37 hb)
           clear HB
           have HB := n0_
           clear n0_
           (try clear hb)
           (try clear hb2)
           (try clear hk)
           (try clear hi)
           refine hK.out _ _ ⟨((HB.out.cell (World.block_lt_of_cell? w _ hw341_0)).trans hw341_0), ((HB.out.cell (World.block_lt_of_cell? w _ hw341_1)).trans hw341_1), ((HB.out.cell (World.block_lt_of_cell? w _ hw341_2)).trans hw341_2), ((HB.out.cell (World.block_lt_of_cell? w _ hw341_3)).trans hw341_3), ((HB.out.cell (World.block_lt_of_cell? w _ hw341_4)).trans hw341_4), ((HB.out.cell (World.block_lt_of_cell? w _ hw342_0)).trans hw342_0), ((HB.out.cell (World.block_lt_of_cell? w _ hw342_1)).trans hw342_1), ((HB.out.cell (World.block_lt_of_cell? w _ hw342_2)).trans hw342_2), ((HB.out.cell (World.block_lt_of_cell? w _ hw342_3)).trans hw342_3), ((HB.out.cell (World.block_lt_of_cell? w _ hw342_4)).trans hw342_4), ((HB.out.cell (World.block_lt_of_cell? w _ hw343_0)).trans hw343_0), ((HB.out.cell (World.block_lt_of_cell? w _ hw343_1)).trans hw343_1), ((HB.out.cell (World.block_lt_of_cell? w _ hw343_2)).trans hw343_2), ((HB.out.cell (World.block_lt_of_cell? w _ hw343_3)).trans hw343_3), ((HB.out.cell (World.block_lt_of_cell? w _ hw343_4)).trans hw343_4)⟩ (fun hHeld => ?_)
           clear hK K
           refine norm_ (a' := ?_) ?_ ?_
           rotate_left
           ·show Act.put _ (some 32) _ = _
            simp only [Act.put, List.setIfInBounds_toArray, List.set_cons_zero, List.set_cons_succ, i64_w, i32_w]
            rfl
           refine pU_ 20 33 b23_21 ?_
           refine pU_ 21 34 b23_22 ?_
           refine pU_ 22 35 b23_23 ?_
           refine done_ (done_of HT_.out Q2) ?_
           try go_wp2
           go_ret
           exact ⟨by first | rfl | (simp [errW_none, errW_some] <;> rfl) | (simp only [← hji10]; first | rfl | (simp [errW_none, errW_some] <;> rfl)) | (simp [*, errW_none, errW_some] <;> rfl), Q37⟩
          ·rw [if_neg c14] at H
           have c14b0 : decide (0 ≤ t344) = false := decide_eq_false c14
           clear c14
           have H' := Aside0.mk H
           clear H
           try go_wp2
           have n0_ := Aside0.mk (below_drew1 HB.out)
           clear HB
           have HB := n0_
           clear n0_
           have p341 : 0 ≤ (x3_1 : Int) := of_decide_eq_true Q7
           have q341 : x3_1 < (l0.length : Int) := of_decide_eq_true Q7
           obtain ⟨ad341, e341, hx341_0, hx341_1, hx341_2, hx341_3, hx341_4⟩ := at_T38 HR0.out x3_1 p341 q341
           have hw341_4 := hx341_4
           have hw341_3 := hx341_3
           have hw341_2 := hx341_2
           have hw341_1 := hx341_1
           have hw341_0 := hx341_0
           cases e341
           replace hx341_0 := (HB.out.cell (World.block_lt_of_cell? w _ hx341_0)).trans hx341_0
           replace hx341_1 := (HB.out.cell (World.block_lt_of_cell? w _ hx341_1)).trans hx341_1
           replace hx341_2 := (HB.out.cell (World.block_lt_of_cell? w _ hx341_2)).trans hx341_2
           replace hx341_3 := (HB.out.cell (World.block_lt_of_cell? w _ hx341_3)).trans hx341_3
           replace hx341_4 := (HB.out.cell (World.block_lt_of_cell? w _ hx341_4)).trans hx341_4
           replace p341 := eq_true p341
           replace q341 := eq_true q341
           have p342 : 0 ≤ ((ji10) : Int) := of_decide_eq_true Q7
           have q342 : (ji10) < (l0.length : Int) := of_decide_eq_true Q7
           obtain ⟨ad342, e342, hx342_0, hx342_1, hx342_2, hx342_3, hx342_4⟩ := at_T38 HR0.out (ji10) p342 q342
           have hw342_4 := hx342_4
           have hw342_3 := hx342_3
           have hw342_2 := hx342_2
           have hw342_1 := hx342_1
           have hw342_0 := hx342_0
           obtain rfl : ad341 = ad342 := (by injection e342)
           replace hx342_0 := (HB.out.cell (World.block_lt_of_cell? w _ hx342_0)).trans hx342_0
           replace hx342_1 := (HB.out.cell (World.block_lt_of_cell? w _ hx342_1)).trans hx342_1
           replace hx342_2 := (HB.out.cell (World.block_lt_of_cell? w _ hx342_2)).trans hx342_2
           replace hx342_3 := (HB.out.cell (World.block_lt_of_cell? w _ hx342_3)).trans hx342_3
           replace hx342_4 := (HB.out.cell (World.block_lt_of_cell? w _ hx342_4)).trans hx342_4
           replace p342 := eq_true p342
           replace q342 := eq_true q342
           have p343 : 0 ≤ (x3_1 : Int) := of_decide_eq_true Q7
           have q343 : x3_1 < (l0.length : Int) := of_decide_eq_true Q7
           obtain ⟨ad343, e343, hx343_0, hx343_1, hx343_2, hx343_3, hx343_4⟩ := at_T38 HR0.out x3_1 p343 q343
           have hw343_4 := hx343_4
           have hw343_3 := hx343_3
           have hw343_2 := hx343_2
           have hw343_1 := hx343_1
           have hw343_0 := hx343_0
           obtain rfl : ad341 = ad343 := (by injection e343)
           replace hx343_0 := (HB.out.cell (World.block_lt_of_cell? w _ hx343_0)).trans hx343_0
           replace hx343_1 := (HB.out.cell (World.block_lt_of_cell? w _ hx343_1)).trans hx343_1
           replace hx343_2 := (HB.out.cell (World.block_lt_of_cell? w _ hx343_2)).trans hx343_2
           replace hx343_3 := (HB.out.cell (World.block_lt_of_cell? w _ hx343_3)).trans hx343_3
           replace hx343_4 := (HB.out.cell (World.block_lt_of_cell? w _ hx343_4)).trans hx343_4
           replace p343 := eq_true p343
           replace q343 := eq_true q343
           refine start_ (n := 23) (S := fun w' => w'.cell? (ad341.add ((x3_1).toNat * 5)) = some (.int .i64 ((rd_T38 l0 x3_1).f0)) ∧ w'.cell? ⟨(ad341.add ((x3_1).toNat * 5)).block, (ad341.add ((x3_1).toNat * 5)).off + 1, none⟩ = some (.int .i64 ((rd_T38 l0 x3_1).f1)) ∧ w'.cell? ⟨(ad341.add ((x3_1).toNat * 5)).block, (ad341.add ((x3_1).toNat * 5)).off + 2, none⟩ = some (.int .i64 ((rd_T38 l0 x3_1).f2.f0)) ∧ w'.cell? ⟨(ad341.add ((x3_1).toNat * 5)).block, (ad341.add ((x3_1).toNat * 5)).off + 3, none⟩ = some (.int .i64 ((rd_T38 l0 x3_1).f2.f1)) ∧ w'.cell? ⟨(ad341.add ((x3_1).toNat * 5)).block, (ad341.add ((x3_1).toNat * 5)).off + 4, none⟩ = some (.int .i64 ((rd_T38 l0 x3_1).f3)) ∧ w'.cell? (ad341.add (((ji10)).toNat * 5)) = some (.int .i64 ((rd_T38 l0 (ji10)).f0)) ∧ w'.cell? ⟨(ad341.add (((ji10)).toNat * 5)).block, (ad341.add (((ji10)).toNat * 5)).off + 1, none⟩ = some (.int .i64 ((rd_T38 l0 (ji10)).f1)) ∧ w'.cell? ⟨(ad341.add (((ji10)).toNat * 5)).block, (ad341.add (((ji10)).toNat * 5)).off + 2, none⟩ = some (.int .i64 ((rd_T38 l0 (ji10)).f2.f0)) ∧ w'.cell? ⟨(ad341.add (((ji10)).toNat * 5)).block, (ad341.add (((ji10)).toNat * 5)).off + 3, none⟩ = some (.int .i64 ((rd_T38 l0 (ji10)).f2.f1)) ∧ w'.cell? ⟨(ad341.add (((ji10)).toNat * 5)).block, (ad341.add (((ji10)).toNat * 5)).off + 4, none⟩ = some (.int .i64 ((rd_T38 l0 (ji10)).f3)) ∧ w'.cell? (ad341.add ((x3_1).toNat * 5)) = some (.int .i64 ((rd_T38 l0 x3_1).f0)) ∧ w'.cell? ⟨(ad341.add ((x3_1).toNat * 5)).block, (ad341.add ((x3_1).toNat * 5)).off + 1, none⟩ = some (.int .i64 ((rd_T38 l0 x3_1).f1)) ∧ w'.cell? ⟨(ad341.add ((x3_1).toNat * 5)).block, (ad341.add ((x3_1).toNat * 5)).off + 2, none⟩ = some (.int .i64 ((rd_T38 l0 x3_1).f2.f0)) ∧ w'.cell? ⟨(ad341.add ((x3_1).toNat * 5)).block, (ad341.add ((x3_1).toNat * 5)).off + 3, none⟩ = some (.int .i64 ((rd_T38 l0 x3_1).f2.f1)) ∧ w'.cell? ⟨(ad341.add ((x3_1).toNat * 5)).block, (ad341.add ((x3_1).toNat * 5)).off + 4, none⟩ = some (.int .i64 ((rd_T38 l0 x3_1).f3))) (ds := []) b23_0 Q2 rfl rfl ⟨((HB.out.cell (World.block_lt_of_cell? w _ hw341_0)).trans hw341_0), ((HB.out.cell (World.block_lt_of_cell? w _ hw341_1)).trans hw341_1), ((HB.out.cell (World.block_lt_of_cell? w _ hw341_2)).trans hw341_2), ((HB.out.cell (World.block_lt_of_cell? w _ hw341_3)).trans hw341_3), ((HB.out.cell (World.block_lt_of_cell? w _ hw341_4)).trans hw341_4), ((HB.out.cell (World.block_lt_of_cell? w _ hw342_0)).trans hw342_0), ((HB.out.cell (World.block_lt_of_cell? w _ hw342_1)).trans hw342_1), ((HB.out.cell (World.block_lt_of_cell? w _ hw342_2)).trans hw342_2), ((HB.out.cell (World.block_lt_of_cell? w _ hw342_3)).trans hw342_3), ((HB.out.cell (World.block_lt_of_cell? w _ hw342_4)).trans hw342_4), ((HB.out.cell (World.block_lt_of_cell? w _ hw343_0)).trans hw343_0), ((HB.out.cell (World.block_lt_of_cell? w _ hw343_1)).trans hw343_1), ((HB.out.cell (World.block_lt_of_cell? w _ hw343_2)).trans hw343_2), ((HB.out.cell (World.block_lt_of_cell? w _ hw343_3)).trans hw343_3), ((HB.out.cell (World.block_lt_of_cell? w _ hw343_4)).trans hw343_4)⟩ (fun hHeld => ?_); refine with_tabW spec_BatchOk.tab6 spec_BatchOk.bits6 (fun HT_ HW_ => ?_)
           generalize wr.drew = w17 at HB hx341_0 hx341_1 hx341_2 hx341_3 hx341_4 hx342_0 hx342_1 hx342_2 hx342_3 hx342_4 hx343_0 hx343_1 hx343_2 hx343_3 hx343_4 hHeld ⊢
           refine pU_ 0 13 b23_1 ?_
           refine pU_ 1 14 b23_2 ?_
           refine pU_ 2 15 b23_3 ?_
           refine pU_ 3 16 b23_4 ?_
           refine tU_ 4 17 b23_5 hHeld ?_
           refine pU_ 5 18 b23_6 ?_
           refine pU_ 6 19 b23_7 ?_
           refine pU_ 7 20 b23_8 ?_
           refine pU_ 8 21 b23_9 ?_
           refine pU_ 9 22 b23_10 ?_
           refine pU_ 10 23 b23_11 ?_
           refine pU_ 11 24 b23_12 ?_
           refine pU_ 12 25 b23_13 ?_
           refine pU_ 13 26 b23_14 ?_
           refine pU_ 15 28 c57 ?_
           refine pU_ 16 29 c58 ?_
           refine pU_ 17 30 c59 ?_
           refine tU_ 14 27 b23_18 hHeld ?_
           refine tU_ 18 31 b23_19 hHeld ?_
           refine one_ (i := 19) (N := some 32) b23_20 rfl rfl (one_of HT_.out Q2) Q1 (fun K hK => ?_)
           refine goes_ Try.func71 Q2 rfl #[.agg #[.int .i64 ((rd_T38 l0 (ji10)).f0), .int .i64 ((rd_T38 l0 (ji10)).f1), .int .i64 ((rd_T38 l0 (ji10)).f2.f0), .int .i64 ((rd_T38 l0 (ji10)).f2.f1), .int .i64 ((rd_T38 l0 (ji10)).f3)], .agg #[.int .i64 ((rd_T38 l0 x3_1).f0), .int .i64 ((rd_T38 l0 x3_1).f1), .int .i64 ((rd_T38 l0 x3_1).f2.f0), .int .i64 ((rd_T38 l0 x3_1).f2.f1), .int .i64 ((rd_T38 l0 x3_1).f3)]] (by rfl) rfl rfl (by (try simp only [List.map_toArray, List.map_cons, List.map_nil]); first | done | (simp only [hji10]; rfl) | rfl | (simp only [List.length_drop, List.length_take]; rfl)) ?_
           with_reducible refine (spec_l2Comp.calls k1 ((rd_T38 l0 (ji10)).f0) ((rd_T38 l0 (ji10)).f1) ((rd_T38 l0 (ji10)).f2.f0) ((rd_T38 l0 (ji10)).f2.f1) ((rd_T38 l0 (ji10)).f3) ((rd_T38 l0 x3_1).f0) ((rd_T38 l0 x3_1).f1) ((rd_T38 l0 x3_1).f2.f0) ((rd_T38 l0 x3_1).f2.f1) ((rd_T38 l0 x3_1).f3) t344 _ A13.out).mono ?_
           rintro e w18 ⟨rfl, hb⟩
           refine ⟨_, rfl, ?_⟩
           have n0_ := Aside0.mk (below_step Q37 hb)
           clear HB
           have HB := n0_
           clear n0_
           (try clear hb)
           (try clear hb2)
           (try clear hk)
           (try clear hi)
           refine hK.out _ _ ⟨((HB.out.cell (World.block_lt_of_cell? w _ hw341_0)).trans hw341_0), ((HB.out.cell (World.block_lt_of_cell? w _ hw341_1)).trans hw341_1), ((HB.out.cell (World.block_lt_of_cell? w _ hw341_2)).trans hw341_2), ((HB.out.cell (World.block_lt_of_cell? w _ hw341_3)).trans hw341_3), ((HB.out.cell (World.block_lt_of_cell? w _ hw341_4)).trans hw341_4), ((HB.out.cell (World.block_lt_of_cell? w _ hw342_0)).trans hw342_0), ((HB.out.cell (World.block_lt_of_cell? w _ hw342_1)).trans hw342_1), ((HB.out.cell (World.block_lt_of_cell? w _ hw342_2)).trans hw342_2), ((HB.out.cell (World.block_lt_of_cell? w _ hw342_3)).trans hw342_3), ((HB.out.cell (World.block_lt_of_cell? w _ hw342_4)).trans hw342_4), ((HB.out.cell (World.block_lt_of_cell? w _ hw343_0)).trans hw343_0), ((HB.out.cell (World.block_lt_of_cell? w _ hw343_1)).trans hw343_1), ((HB.out.cell (World.block_lt_of_cell? w _ hw343_2)).trans hw343_2), ((HB.out.cell (World.block_lt_of_cell? w _ hw343_3)).trans hw343_3), ((HB.out.cell (World.block_lt_of_cell? w _ hw343_4)).trans hw343_4)⟩ (fun hHeld => ?_)
           clear hK K
           refine norm_ (a' := ?_) ?_ ?_
           rotate_left
           ·show Act.put _ (some 32) _ = _
            simp only [Act.put, List.setIfInBounds_toArray, List.set_cons_zero, List.set_cons_succ, i64_w, i32_w]
            rfl
           refine pU_ 20 33 b23_21 ?_
           refine pU_ 21 34 b23_22 ?_
           refine pU_ 22 35 b23_23 ?_
           refine done_ (done_of HT_.out Q2) ?_
           try go_wp2
           go_roundg k1
           case measure => have := HK1.out; omega
           case rel => exact ⟨(wrap64 (x3_1 + 1)), Q6, H', ⟨Q3⟩, ⟨Q37⟩⟩
         ·rw [if_neg c12] at H
          exact absurd H Q0
        ·rw [if_neg c11] at H
         exact absurd H Q0
       ·rw [if_neg c9] at H
        have c9b0 : decide (0 < x3_1) = false := decide_eq_false c9
        clear c9
        have H' := Aside0.mk H
        clear H
        try go_wp2
        have n0_ := Aside0.mk (below_drew1 HB.out)
        clear HB
        have HB := n0_
        clear n0_
        have p341 : 0 ≤ (x3_1 : Int) := of_decide_eq_true Q7
        have q341 : x3_1 < (l0.length : Int) := of_decide_eq_true Q7
        obtain ⟨ad341, e341, hx341_0, hx341_1, hx341_2, hx341_3, hx341_4⟩ := at_T38 HR0.out x3_1 p341 q341
        have hw341_4 := hx341_4
        have hw341_3 := hx341_3
        have hw341_2 := hx341_2
        have hw341_1 := hx341_1
        have hw341_0 := hx341_0
        cases e341
        replace hx341_0 := (HB.out.cell (World.block_lt_of_cell? w _ hx341_0)).trans hx341_0
        replace hx341_1 := (HB.out.cell (World.block_lt_of_cell? w _ hx341_1)).trans hx341_1
        replace hx341_2 := (HB.out.cell (World.block_lt_of_cell? w _ hx341_2)).trans hx341_2
        replace hx341_3 := (HB.out.cell (World.block_lt_of_cell? w _ hx341_3)).trans hx341_3
        replace hx341_4 := (HB.out.cell (World.block_lt_of_cell? w _ hx341_4)).trans hx341_4
        replace p341 := eq_true p341
        replace q341 := eq_true q341
        refine start_ (n := 23) (S := fun w' => w'.cell? (ad341.add ((x3_1).toNat * 5)) = some (.int .i64 ((rd_T38 l0 x3_1).f0)) ∧ w'.cell? ⟨(ad341.add ((x3_1).toNat * 5)).block, (ad341.add ((x3_1).toNat * 5)).off + 1, none⟩ = some (.int .i64 ((rd_T38 l0 x3_1).f1)) ∧ w'.cell? ⟨(ad341.add ((x3_1).toNat * 5)).block, (ad341.add ((x3_1).toNat * 5)).off + 2, none⟩ = some (.int .i64 ((rd_T38 l0 x3_1).f2.f0)) ∧ w'.cell? ⟨(ad341.add ((x3_1).toNat * 5)).block, (ad341.add ((x3_1).toNat * 5)).off + 3, none⟩ = some (.int .i64 ((rd_T38 l0 x3_1).f2.f1)) ∧ w'.cell? ⟨(ad341.add ((x3_1).toNat * 5)).block, (ad341.add ((x3_1).toNat * 5)).off + 4, none⟩ = some (.int .i64 ((rd_T38 l0 x3_1).f3))) (ds := []) b23_0 Q2 rfl rfl ⟨((HB.out.cell (World.block_lt_of_cell? w _ hw341_0)).trans hw341_0), ((HB.out.cell (World.block_lt_of_cell? w _ hw341_1)).trans hw341_1), ((HB.out.cell (World.block_lt_of_cell? w _ hw341_2)).trans hw341_2), ((HB.out.cell (World.block_lt_of_cell? w _ hw341_3)).trans hw341_3), ((HB.out.cell (World.block_lt_of_cell? w _ hw341_4)).trans hw341_4)⟩ (fun hHeld => ?_); refine with_tabW spec_BatchOk.tab6 spec_BatchOk.bits6 (fun HT_ HW_ => ?_)
        generalize wr.drew = w19 at HB hx341_0 hx341_1 hx341_2 hx341_3 hx341_4 hHeld ⊢
        refine pU_ 0 13 b23_1 ?_
        refine pU_ 1 14 b23_2 ?_
        refine pU_ 2 15 b23_3 ?_
        refine pU_ 3 16 b23_4 ?_
        refine tU_ 4 17 b23_5 hHeld ?_
        refine pU_ 5 18 b23_6 ?_
        refine pU_ 6 19 b23_7 ?_
        refine pU_ 7 20 b23_8 ?_
        refine pU_ 8 21 b23_9 ?_
        refine pU_ 9 22 b23_10 ?_
        refine pV_ 10 23 b23_11 ?_
        refine pV_ 11 24 b23_12 ?_
        refine pV_ 12 25 b23_13 ?_
        refine pV_ 13 26 b23_14 ?_
        refine pV_ 14 27 b23_15 ?_
        refine pV_ 15 28 b23_16 ?_
        refine pV_ 16 29 b23_17 ?_
        refine pV_ 17 30 b23_18 ?_
        refine pV_ 18 31 b23_19 ?_
        refine pV_ 19 32 b23_20 ?_
        refine pV_ 20 33 b23_21 ?_
        refine pU_ 21 34 b23_22 ?_
        refine pU_ 22 35 b23_23 ?_
        refine done_ (done_of HT_.out Q2) ?_
        try go_wp2
        go_roundg k1
        case measure => have := HK1.out; omega
        case rel => exact ⟨(wrap64 (x3_1 + 1)), Q6, H', ⟨Q3⟩, ⟨Q37⟩⟩
     ·rw [if_neg c6] at H
      exact absurd H Q0
    ·rw [if_neg c5] at H
     have c5b0 : decide (x3_1 < (l0.length : Int)) = false := decide_eq_false c5
     clear c5
     obtain rfl := Option.some.inj H
     go_wp2
     go_ret
     exact ⟨Q10, Q37⟩
 ·replace c3 := Bool.eq_false_iff.mpr c3
  subst c3
  have H1 : (some false) = some r := by rw [if_neg (show ¬ (false = true) by decide)] at H; exact H
  clear H
  have H := H1
  clear H1
  obtain rfl := Option.some.inj H
  go_enter Try.func31, Try.ntmps31
  go_wp2_with (first | ((with_reducible refine gate_callee (f := 20) rfl ?_); refine goesL_ (some 5) rfl rfl Try.func20 Q2 rfl #[.slice A0 l0.length c0] rfl Q39 ?_; (with_reducible refine (spec_RowsOk.calls k _ _ l0 false _ ?side1 ?side2 A2.out).mono ?_); (case side1 => exact Q44); (case side2 => exact HC0.out); rintro e w20 ⟨rfl, hb⟩; refine ⟨_, rfl, ?_⟩; have n0_ := Aside0.mk (below_step Q37 hb); clear HB; have HB := n0_; clear n0_; (try clear hb); (try clear hb2); (try clear hk); (try clear hi)))
  go_ret
  exact ⟨Q10, Q37⟩
def spec_l2Fit.f (k : Nat) (l0 : List (S38)) : Option ((List (S38))) := (spec_BatchOk.f k l0).bind fun t345 => (if t345 = true then (some l0) else (some (([] : List (S38)))))
theorem spec_l2Fit.mono : ∀ a0 k, LeO (spec_l2Fit.f k a0) (spec_l2Fit.f (k + 1) a0) := by
 intro a0 k
 unfold spec_l2Fit.f
 repeat' first
   | (with_reducible exact spec_BatchOk.mono _ _)
   | (with_reducible exact LeO.refl _)
   | (with_reducible exact LeO.none _)
   | (with_reducible refine LeO.ite ?_ ?_)
   | (with_reducible refine LeO.bind ?_ (fun _ => ?_))
   | exact spec_BatchOk.mono _ _
   | exact LeO.none _
   | refine LeO.ite ?_ ?_
   | refine LeO.bind ?_ (fun _ => ?_)
set_option maxHeartbeats 8000000 in
set_option maxRecDepth 100000 in
theorem spec_l2Fit.calls (k : Nat) (P0_ : Nat → Prop) (u9000_ : Value) (l0 : List (S38)) (r : List (S38)) (w0 w : World) (hB : Below w0.heap.size w0 w) (ho0 : Kd.R k38 38 w w0.heap.size P0_ u9000_ l0) (h : spec_l2Fit.f k l0 = some r) :
  Calls Try.prog 57 #[u9000_] w fun e w' => ∃ v0_ : Value, e = .returned (v0_) ∧ Kd.R k38 38 w' w0.heap.size (fun k_ => (P0_ k_ ∨ w.heap.size ≤ k_)) v0_ r ∧ Below w0.heap.size w0 w' ∧ Kept w w' (fun k_ => P0_ k_) := by
 have HO0 := Aside0.mk (show Kd.R k38 38 w w0.heap.size (fun k_ => (P0_ k_ ∨ w.heap.size ≤ k_)) u9000_ l0 from Kd.R_mono ho0 (fun k_ hk => (.inl hk)))
 have HK := Aside0.mk (Kept.refl w (fun k_ => P0_ k_))
 have HW0 := Aside0.mk hB.size
 have HB := Aside0.mk hB
 clear hB
 have H : ((spec_BatchOk.f k l0).bind fun t345 => (if t345 = true then (some l0) else (some (([] : List (S38)))))) = some r := h
 clear h
 replace H := Option.bind_eq_some_iff.mp H
 obtain ⟨t345, A20, H⟩ := H
 replace H : (if t345 = true then (some l0) else (some (([] : List (S38))))) = some r := H
 have A2 := Aside0.mk A20
 clear A20
 by_cases c3 : t345 = true
 ·subst c3
  have H1 : (some l0) = some r := by rw [if_pos rfl] at H; exact H
  clear H
  have H := H1
  clear H1
  obtain rfl := Option.some.inj H
  obtain ⟨Ao4, co4, eo4⟩ := Kd.R_slice HO0.out
  subst eo4
  go_enter Try.func57, Try.ntmps57
  go_wp2_with (first | ((with_reducible refine gate_callee (f := 31) rfl ?_); refine goesL_ (some 4) rfl rfl Try.func31 Q2 rfl #[.slice Ao4 l0.length co4] rfl Q39 ?_; (with_reducible refine (spec_BatchOk.calls k _ _ l0 true _ ?side1 ?side2 A2.out).mono ?_); (case side1 => exact (by repeat (first | exact (Kd.R_reads' HO0.out).2.2 | (with_reducible refine Kd.C_alloc ?_ _) | (with_reducible refine Kd.C_drewN ?_ _) | (with_reducible refine Kd.C_drew ?_)))); (case side2 => exact (Kd.R_reads' HO0.out).2.1); rintro e w5 ⟨rfl, hb⟩; refine ⟨_, rfl, ?_⟩; have n0_ := Aside0.mk (Kd.R_below Q11 hb); have n1_ := Aside0.mk (Kept.below (S := (fun k_ => P0_ k_)) Q36 hb); have n2_ := Aside0.mk (below_step Q37 hb); clear HO0; clear HK; clear HB; have HO0 := n0_; have HK := n1_; have HB := n2_; clear n0_ n1_ n2_; (try clear hb); (try clear hb2); (try clear hk); (try clear hi)))
  go_ret
  exact ⟨_, Q10, Q11, Q37, Q36⟩
 ·replace c3 := Bool.eq_false_iff.mpr c3
  subst c3
  have H1 : (some (([] : List (S38)))) = some r := by rw [if_neg (show ¬ (false = true) by decide)] at H; exact H
  clear H
  have H := H1
  clear H1
  obtain ⟨y346, hy_⟩ : ∃ y_ : List (S38), y_ = (([] : List (S38))) := ⟨_, rfl⟩
  replace H : (some y346) = some r := Q78
  have Ny346 := Aside0.mk hy_
  clear hy_
  obtain rfl := Option.some.inj H
  obtain ⟨Ao6, co6, eo6⟩ := Kd.R_slice HO0.out
  subst eo6
  go_enter Try.func57, Try.ntmps57
  go_wp2_with (first | ((with_reducible refine gate_callee (f := 31) rfl ?_); refine goesL_ (some 4) rfl rfl Try.func31 Q2 rfl #[.slice Ao6 l0.length co6] rfl Q39 ?_; (with_reducible refine (spec_BatchOk.calls k _ _ l0 false _ ?side1 ?side2 A2.out).mono ?_); (case side1 => exact (by repeat (first | exact (Kd.R_reads' HO0.out).2.2 | (with_reducible refine Kd.C_alloc ?_ _) | (with_reducible refine Kd.C_drewN ?_ _) | (with_reducible refine Kd.C_drew ?_)))); (case side2 => exact (Kd.R_reads' HO0.out).2.1); rintro e w7 ⟨rfl, hb⟩; refine ⟨_, rfl, ?_⟩; have n0_ := Aside0.mk (Kd.R_below Q11 hb); have n1_ := Aside0.mk (Kept.below (S := (fun k_ => P0_ k_)) Q36 hb); have n2_ := Aside0.mk (below_step Q37 hb); clear HO0; clear HK; clear HB; have HO0 := n0_; have HK := n1_; have HB := n2_; clear n0_ n1_ n2_; (try clear hb); (try clear hb2); (try clear hk); (try clear hi)) | ((with_reducible refine gate_dst (N := 6) rfl ?_); refine Kd.R_lit k38 _ 38 ?hg (N := 6) ?hd (xs := ([] : List (S38))) (inner := []) (ok := fun _ => True) (okp := fun _ => True) ?hr ?hp (fun _ hk => hk) trivial (Below.refl _ _) (Nat.le_refl _) Q0 ?_; (case hd => rfl); (case hg => rfl); (case hr => first | (go_simp; done) | (go_simp; rfl)); (case hp => exact (Reps.none _ _)); intro v347 w8 ho9 hb hg_ hnew_; clear hg_ hnew_; (first | rw [← Ny346.out] at ho9 | (simp only [Int.reduceToNat] at ho9; rw [← Ny346.out] at ho9)); have n0_ := Aside0.mk (Kd.R_elder' Q11 (Kd.R_base ho9) hb); have n1_ := Aside0.mk (Kd.R_lower (Kd.R_new' (Kd.R_newM (M := fun k_ => (P0_ k_ ∨ w.heap.size ≤ k_)) ho9 (by first | exact HK.out.1 | exact (show Kept w _ (fun k_ => P0_ k_) from by repeat (first | (with_reducible first | exact HK.out | apply Kept.alloc | apply Kept.drewN | apply Kept.drew) | exact HK.out)).1) (fun k_ h_ => .inr h_)) (Kd.R_lt Q11)) (below_size Q37)); have n2_ := Aside0.mk (Kept.below (S := (fun k_ => P0_ k_)) Q36 hb); have n3_ := Aside0.mk (below_step Q37 hb); clear HO0; clear HK; clear HB; have HO0 := n0_; have HO348 := n1_; have HK := n2_; have HB := n3_; clear n0_ n1_ n2_ n3_; clear hb ho9))
  go_ret
  exact ⟨_, Q10, by (with_reducible repeat (first | apply Kd.R_alloc | apply Kd.R_drewN | apply Kd.R_drew)); exact Kd.R_mono HO348.out (fun _ hk => hk.1.1), Q37, Q36⟩
mutual
def spec_l2Put.l0 : Nat → List (S38) → List (S38) → Bool → Int → Int → Int → Int → Int → Int → Option ((List (S38)))
 | 0, _, _, _, _, _, _, _, _, _ => none
 | k + 1, x0, x5, x6, x7, x350000, x350001, x350002, x350003, x350004 => if x7 < (x0.length : Int) then (if 0 ≤ x7 then ((spec_l2Comp.f k ((rd_T38 x0 x7).f0) ((rd_T38 x0 x7).f1) ((rd_T38 x0 x7).f2.f0) ((rd_T38 x0 x7).f2.f1) ((rd_T38 x0 x7).f3) x350000 x350001 x350002 x350003 x350004).bind fun t357 => (if x6 = true then (spec_l2Put.j1 k x0 x5 x6 x7 t357 false x350000 x350001 x350002 x350003 x350004) else (spec_l2Put.j1 k x0 x5 x6 x7 t357 (decide (t357 > 0)) x350000 x350001 x350002 x350003 x350004))) else (none)) else (if x6 = true then (some x5) else (if x5.length < 3518437208883 then (some (x5 ++ [(⟨x350000, x350001, (⟨x350002, x350003⟩ : S36), x350004⟩ : S38)])) else (none)))
def spec_l2Put.j1 : Nat → List (S38) → List (S38) → Bool → Int → Int → Bool → Int → Int → Int → Int → Int → Option ((List (S38)))
 | 0, _, _, _, _, _, _, _, _, _, _, _ => none
 | k + 1, x0, x5, x6, x7, x8, x27, x350000, x350001, x350002, x350003, x350004 => if x27 = true then (if x5.length < 3518437208883 then ((some (x5 ++ [(⟨x350000, x350001, (⟨x350002, x350003⟩ : S36), x350004⟩ : S38)] : List (S38))).bind fun y358 => (if 0 ≤ x7 then (if x7 < (x0.length : Int) then (if y358.length < 3518437208883 then (spec_l2Put.l0 k x0 (y358 ++ [(⟨(rd_T38 x0 x7).f0, (rd_T38 x0 x7).f1, (⟨(rd_T38 x0 x7).f2.f0, (rd_T38 x0 x7).f2.f1⟩ : S36), (rd_T38 x0 x7).f3⟩ : S38)]) true (wrap64 (x7 + 1)) x350000 x350001 x350002 x350003 x350004) else (none)) else (none)) else (none))) else (none)) else (if x6 = true then (if 0 ≤ x7 then (if x7 < (x0.length : Int) then (if x5.length < 3518437208883 then (spec_l2Put.l0 k x0 (x5 ++ [(⟨(rd_T38 x0 x7).f0, (rd_T38 x0 x7).f1, (⟨(rd_T38 x0 x7).f2.f0, (rd_T38 x0 x7).f2.f1⟩ : S36), (rd_T38 x0 x7).f3⟩ : S38)]) x6 (wrap64 (x7 + 1)) x350000 x350001 x350002 x350003 x350004) else (none)) else (none)) else (none)) else (if x8 = 0 then (if 0 ≤ x7 then (if x7 < (x0.length : Int) then (if x5.length < 3518437208883 then (spec_l2Put.l0 k x0 (x5 ++ [(⟨x350000, x350001, (⟨x350002, x350003⟩ : S36), wrap64 (x350004 + ((rd_T38 x0 x7).f3))⟩ : S38)]) true (wrap64 (x7 + 1)) x350000 x350001 x350002 x350003 (wrap64 (x350004 + ((rd_T38 x0 x7).f3)))) else (none)) else (none)) else (none)) else (if 0 ≤ x7 then (if x7 < (x0.length : Int) then (if x5.length < 3518437208883 then (spec_l2Put.l0 k x0 (x5 ++ [(⟨(rd_T38 x0 x7).f0, (rd_T38 x0 x7).f1, (⟨(rd_T38 x0 x7).f2.f0, (rd_T38 x0 x7).f2.f1⟩ : S36), (rd_T38 x0 x7).f3⟩ : S38)]) x6 (wrap64 (x7 + 1)) x350000 x350001 x350002 x350003 x350004) else (none)) else (none)) else (none))))
end
def spec_l2Put.f (k : Nat) (l0 : List (S38)) (a1_0 : Int) (a1_1 : Int) (a1_2 : Int) (a1_3 : Int) (a1_4 : Int) : Option ((List (S38))) := spec_l2Put.l0 k l0 (([] : List (S38))) false 0 a1_0 a1_1 a1_2 a1_3 a1_4
theorem spec_l2Put.mono_l : ∀ k, (∀ y0 y1 y2 y3 y4 y5 y6 y7 y8, LeO (spec_l2Put.l0 k y0 y1 y2 y3 y4 y5 y6 y7 y8) (spec_l2Put.l0 (k + 1) y0 y1 y2 y3 y4 y5 y6 y7 y8)) ∧ (∀ y0 y1 y2 y3 y4 y5 y6 y7 y8 y9 y10, LeO (spec_l2Put.j1 k y0 y1 y2 y3 y4 y5 y6 y7 y8 y9 y10) (spec_l2Put.j1 (k + 1) y0 y1 y2 y3 y4 y5 y6 y7 y8 y9 y10))
 | 0 => ⟨fun _ _ _ _ _ _ _ _ _ r h => by simp [spec_l2Put.l0] at h, fun _ _ _ _ _ _ _ _ _ _ _ r h => by simp [spec_l2Put.j1] at h⟩
 | k + 1 => by
  obtain ⟨ih0, ih1⟩ := spec_l2Put.mono_l k
  refine ⟨?_, ?_⟩
  ·intro y0 y1 y2 y3 y4 y5 y6 y7 y8
   unfold spec_l2Put.l0
   repeat' first
   | (with_reducible exact ih0 _ _ _ _ _ _ _ _ _)
   | (with_reducible exact ih1 _ _ _ _ _ _ _ _ _ _ _)
   | (with_reducible exact spec_l2Comp.mono _ _ _ _ _ _ _ _ _ _ _)
   | (with_reducible exact LeO.refl _)
   | (with_reducible exact LeO.none _)
   | (with_reducible refine LeO.ite ?_ ?_)
   | (with_reducible refine LeO.bind ?_ (fun _ => ?_))
   | exact ih0 _ _ _ _ _ _ _ _ _
   | exact ih1 _ _ _ _ _ _ _ _ _ _ _
   | exact spec_l2Comp.mono _ _ _ _ _ _ _ _ _ _ _
   | exact LeO.none _
   | refine LeO.ite ?_ ?_
   | refine LeO.bind ?_ (fun _ => ?_)
  ·intro y0 y1 y2 y3 y4 y5 y6 y7 y8 y9 y10
   unfold spec_l2Put.j1
   repeat' first
   | (with_reducible exact ih0 _ _ _ _ _ _ _ _ _)
   | (with_reducible exact ih1 _ _ _ _ _ _ _ _ _ _ _)
   | (with_reducible exact spec_l2Comp.mono _ _ _ _ _ _ _ _ _ _ _)
   | (with_reducible exact LeO.refl _)
   | (with_reducible exact LeO.none _)
   | (with_reducible refine LeO.ite ?_ ?_)
   | (with_reducible refine LeO.bind ?_ (fun _ => ?_))
   | exact ih0 _ _ _ _ _ _ _ _ _
   | exact ih1 _ _ _ _ _ _ _ _ _ _ _
   | exact spec_l2Comp.mono _ _ _ _ _ _ _ _ _ _ _
   | exact LeO.none _
   | refine LeO.ite ?_ ?_
   | refine LeO.bind ?_ (fun _ => ?_)
theorem spec_l2Put.mono : ∀ a0 a1 a2 a3 a4 a5 k, LeO (spec_l2Put.f k a0 a1 a2 a3 a4 a5) (spec_l2Put.f (k + 1) a0 a1 a2 a3 a4 a5) := by
 intro a0 a1 a2 a3 a4 a5 k
 obtain ⟨ih0, ih1⟩ := spec_l2Put.mono_l k
 unfold spec_l2Put.f
 repeat' first
   | (with_reducible exact ih0 _ _ _ _ _ _ _ _ _)
   | (with_reducible exact ih1 _ _ _ _ _ _ _ _ _ _ _)
   | (with_reducible exact spec_l2Comp.mono _ _ _ _ _ _ _ _ _ _ _)
   | (with_reducible exact LeO.refl _)
   | (with_reducible exact LeO.none _)
   | (with_reducible refine LeO.ite ?_ ?_)
   | (with_reducible refine LeO.bind ?_ (fun _ => ?_))
   | exact ih0 _ _ _ _ _ _ _ _ _
   | exact ih1 _ _ _ _ _ _ _ _ _ _ _
   | exact spec_l2Comp.mono _ _ _ _ _ _ _ _ _ _ _
   | exact LeO.none _
   | refine LeO.ite ?_ ?_
   | refine LeO.bind ?_ (fun _ => ?_)
def spec_l2Put.T11 : Bool × List (List Nat × List Nat) := (true, [([], []), ([0], [0]), ([], []), ([], []), ([2, 3], [2, 3]), ([4], [4]), ([5], [5]), ([1, 6], [1, 6]), ([0, 1, 2, 3, 4, 5, 6, 7], []), ([8, 7, 0, 1, 2, 3, 4, 5, 6, 7], [7, 8])])
def spec_l2Put.B11 : List Nat := [0, 1, 0, 0, 12, 28, 60, 127, 255, 511]
theorem spec_l2Put.tab11 : rtab .any (opsOf Try.f88 11) = spec_l2Put.T11 := by kernel_rfl
theorem spec_l2Put.bits11 : waitsOk spec_l2Put.T11.2 spec_l2Put.B11 = true := by kernel_rfl
set_option maxHeartbeats 8000000 in
set_option maxRecDepth 100000 in
theorem spec_l2Put.calls (k : Nat) (A0 : Option Addr) (c0 : Nat) (l0 : List (S38)) (a1_0 : Int) (a1_1 : Int) (a1_2 : Int) (a1_3 : Int) (a1_4 : Int) (r : List (S38)) (w : World) (hr0 : Kd.C k38 w A0 l0.length l0) (hc0 : l0.length ≤ c0) (h : spec_l2Put.f k l0 a1_0 a1_1 a1_2 a1_3 a1_4 = some r) :
  Calls Try.prog 88 #[.slice A0 l0.length c0, .agg #[.int .i64 a1_0, .int .i64 a1_1, .int .i64 a1_2, .int .i64 a1_3, .int .i64 a1_4]] w fun e w' => ∃ v0_ : Value, e = .returned (v0_) ∧ Kd.R k38 38 w' w.heap.size (fun _ => True) v0_ r ∧ Below w.heap.size w w' := by
 have hu38 := Try.underlying38
 have HR0 := Aside0.mk hr0
 have HC0 := Aside0.mk hc0
 clear hr0 hc0
 have HB := Aside0.mk (Below.refl w.heap.size w)
 have H : (spec_l2Put.l0 k l0 (([] : List (S38))) false 0 a1_0 a1_1 a1_2 a1_3 a1_4) = some r := h
 clear h
 obtain ⟨y350, hy_⟩ : ∃ y_ : List (S38), y_ = (([] : List (S38))) := ⟨_, rfl⟩
 replace H : (spec_l2Put.l0 k l0 y350 false 0 a1_0 a1_1 a1_2 a1_3 a1_4) = some r := Q78
 have Ny350 := Aside0.mk hy_
 clear hy_
 have H' := Aside0.mk H
 clear H
 go_enter Try.func88, Try.ntmps88
 go_wp2_with (first | ((with_reducible refine gate_dst (N := 3) rfl ?_); refine box_event ?hg (N := 3) ?hd (cs := #[.int .i64 a1_0, .int .i64 a1_1, .int .i64 a1_2, .int .i64 a1_3, .int .i64 a1_4]) (t := 38) ?hr ?_; (case hd => rfl); (case hg => rfl); (case hr => first | (go_simp; done) | (go_simp; rfl)); intro gb349 hg w3 hbox hb; have n0_ := Aside0.mk (below_step Q37 hb); have n1_ := Aside0.mk (hbox); have n2_ := Aside0.mk ((Q86 : w.heap.size ≤ gb349)); have n3_ := n2_; clear HB; have HB := n0_; have BK349 := n1_; have GW349 := n2_; have GE349 := n3_; clear n0_ n1_ n2_ n3_; clear hb hbox hg) | ((with_reducible refine gate_dst (N := 9) rfl ?_); refine Kd.R_lit k38 _ 38 ?hg (N := 9) ?hd (xs := ([] : List (S38))) (inner := []) (ok := fun _ => True) (okp := fun _ => True) ?hr ?hp (fun _ hk => hk) trivial (Below.refl _ _) (Nat.le_refl _) Q0 ?_; (case hd => rfl); (case hg => rfl); (case hr => first | (go_simp; done) | (go_simp; rfl)); (case hp => exact (Reps.none _ _)); intro v351 w4 ho5 hb hg_ hnew_; clear hg_ hnew_; (first | rw [← Ny350.out] at ho5 | (simp only [Int.reduceToNat] at ho5; rw [← Ny350.out] at ho5)); have n0_ := Aside0.mk (Kd.R_lower (Kd.R_newB ho5 (g := gb349) (o := .cells #[.int .i64 a1_0, .int .i64 a1_1, .int .i64 a1_2, .int .i64 a1_3, .int .i64 a1_4] 38 (0, 0)) Q35) (below_size Q53)); have n1_ := Aside0.mk (blk_below (g := gb349) (o := .cells #[.int .i64 a1_0, .int .i64 a1_1, .int .i64 a1_2, .int .i64 a1_3, .int .i64 a1_4] 38 (0, 0)) Q35 hb); have n2_ := Aside0.mk (below_step Q53 hb); clear BK349; clear HB; have HO352 := n0_; have BK349 := n1_; have HB := n2_; clear n0_ n1_ n2_; clear hb ho5))
 go_loopg [5, 6, 7] k (fun kq v5 v6 v7 w' => ∃ (x5_1 : List (S38)) (x6_1 : Bool) (x7_1 : Int) (x350004_1 : Int), v6 = .bool x6_1 ∧ v7 = .int .i64 x7_1 ∧ Aside0 (spec_l2Put.l0 kq l0 x5_1 x6_1 x7_1 a1_0 a1_1 a1_2 a1_3 x350004_1 = some r) ∧ Aside0 (kq ≤ k) ∧ Aside0 (Kd.R k38 38 w' w.heap.size (fun k_ => k_ ≠ gb349) v5 x5_1) ∧ Aside0 (w'.heap[gb349]? = some (.cells #[.int .i64 a1_0, .int .i64 a1_1, .int .i64 a1_2, .int .i64 a1_3, .int .i64 x350004_1] 38 (0, 0))) ∧ Aside0 (Below w.heap.size w w'))
 case atStart => exact ⟨(y350), (false), (0), (a1_4), Q6, Q6, H', ⟨Nat.le_refl _⟩, ⟨by (with_reducible repeat (first | apply Kd.R_alloc | apply Kd.R_drewN | apply Kd.R_drew)); exact Kd.R_mono HO352.out (fun _ hk => hk.2)⟩, ⟨Q35⟩, ⟨Q53⟩⟩
 case round =>
  clear H'
  try clear p2
  obtain ⟨x5_1, x6_1, x7_1, x350004_1, rfl, rfl, HA, HK1, HO_5, BK349, HB⟩ := hrel
  cases gk with
  | zero => exact absurd HA.out (by simp [spec_l2Put.l0])
  | succ k1 =>
   have H := HA.out
   clear HA
   simp only [spec_l2Put.l0] at H
   by_cases c6 : x7_1 < (l0.length : Int)
   ·rw [if_pos c6] at H
    have c6b0 : decide (x7_1 < (l0.length : Int)) = true := decide_eq_true c6
    clear c6
    by_cases c7 : 0 ≤ x7_1
    ·rw [if_pos c7] at H
     have c7b0 : decide (0 ≤ x7_1) = true := decide_eq_true c7
     clear c7
     replace H := Option.bind_eq_some_iff.mp H
     obtain ⟨t357, A80, H⟩ := H
     replace H : (if x6_1 = true then (spec_l2Put.j1 k1 l0 x5_1 x6_1 x7_1 t357 false a1_0 a1_1 a1_2 a1_3 x350004_1) else (spec_l2Put.j1 k1 l0 x5_1 x6_1 x7_1 t357 (decide (t357 > 0)) a1_0 a1_1 a1_2 a1_3 x350004_1)) = some r := H
     have A8 := Aside0.mk A80
     clear A80
     have HC9 := Aside0.mk H
     clear H
     try go_wp2
     have n0_ := Aside0.mk (Kd.R_drew HO_5.out)
     have n1_ := Aside0.mk (blk_drew BK349.out)
     have n2_ := Aside0.mk (below_drew1 HB.out)
     clear HO_5
     clear BK349
     clear HB
     have HO_5 := n0_
     have BK349 := n1_
     have HB := n2_
     clear n0_ n1_ n2_
     have p356 : 0 ≤ (x7_1 : Int) := of_decide_eq_true Q7
     have q356 : x7_1 < (l0.length : Int) := of_decide_eq_true Q7
     obtain ⟨ad356, e356, hx356_0, hx356_1, hx356_2, hx356_3, hx356_4⟩ := at_T38 HR0.out x7_1 p356 q356
     have hw356_4 := hx356_4
     have hw356_3 := hx356_3
     have hw356_2 := hx356_2
     have hw356_1 := hx356_1
     have hw356_0 := hx356_0
     cases e356
     replace hx356_0 := (HB.out.cell (World.block_lt_of_cell? w _ hx356_0)).trans hx356_0
     replace hx356_1 := (HB.out.cell (World.block_lt_of_cell? w _ hx356_1)).trans hx356_1
     replace hx356_2 := (HB.out.cell (World.block_lt_of_cell? w _ hx356_2)).trans hx356_2
     replace hx356_3 := (HB.out.cell (World.block_lt_of_cell? w _ hx356_3)).trans hx356_3
     replace hx356_4 := (HB.out.cell (World.block_lt_of_cell? w _ hx356_4)).trans hx356_4
     replace p356 := eq_true p356
     replace q356 := eq_true q356
     refine start_ (n := 7) (S := fun w' => w'.cell? ⟨gb349, 0, none⟩ = some (.int .i64 a1_0) ∧ w'.cell? ⟨gb349, 1, none⟩ = some (.int .i64 a1_1) ∧ w'.cell? ⟨gb349, 2, none⟩ = some (.int .i64 a1_2) ∧ w'.cell? ⟨gb349, 3, none⟩ = some (.int .i64 a1_3) ∧ w'.cell? ⟨gb349, 4, none⟩ = some (.int .i64 x350004_1) ∧ w'.cell? (ad356.add ((x7_1).toNat * 5)) = some (.int .i64 ((rd_T38 l0 x7_1).f0)) ∧ w'.cell? ⟨(ad356.add ((x7_1).toNat * 5)).block, (ad356.add ((x7_1).toNat * 5)).off + 1, none⟩ = some (.int .i64 ((rd_T38 l0 x7_1).f1)) ∧ w'.cell? ⟨(ad356.add ((x7_1).toNat * 5)).block, (ad356.add ((x7_1).toNat * 5)).off + 2, none⟩ = some (.int .i64 ((rd_T38 l0 x7_1).f2.f0)) ∧ w'.cell? ⟨(ad356.add ((x7_1).toNat * 5)).block, (ad356.add ((x7_1).toNat * 5)).off + 3, none⟩ = some (.int .i64 ((rd_T38 l0 x7_1).f2.f1)) ∧ w'.cell? ⟨(ad356.add ((x7_1).toNat * 5)).block, (ad356.add ((x7_1).toNat * 5)).off + 4, none⟩ = some (.int .i64 ((rd_T38 l0 x7_1).f3))) (ds := []) b7_0 Q2 rfl rfl ⟨(blk_cell BK349.out 0).trans rfl, (blk_cell BK349.out 1).trans rfl, (blk_cell BK349.out 2).trans rfl, (blk_cell BK349.out 3).trans rfl, (blk_cell BK349.out 4).trans rfl, ((HB.out.cell (World.block_lt_of_cell? w _ hw356_0)).trans hw356_0), ((HB.out.cell (World.block_lt_of_cell? w _ hw356_1)).trans hw356_1), ((HB.out.cell (World.block_lt_of_cell? w _ hw356_2)).trans hw356_2), ((HB.out.cell (World.block_lt_of_cell? w _ hw356_3)).trans hw356_3), ((HB.out.cell (World.block_lt_of_cell? w _ hw356_4)).trans hw356_4)⟩ (fun hHeld => ?_)
     generalize wr.drew = w10 at HO_5 BK349 HB hx356_0 hx356_1 hx356_2 hx356_3 hx356_4 hHeld ⊢
     refine pU_ 0 16 b7_1 ?_
     refine pU_ 1 17 b7_2 ?_
     refine pU_ 2 18 b7_3 ?_
     refine tU_ 3 19 b7_4 hHeld ?_
     refine tU_ 4 20 b7_5 hHeld ?_
     refine one_ (i := 5) (N := some 21) b7_6 rfl rfl Q2 Q1 (fun K hK => ?_)
     refine goes_ Try.func71 Q2 rfl #[.agg #[.int .i64 ((rd_T38 l0 x7_1).f0), .int .i64 ((rd_T38 l0 x7_1).f1), .int .i64 ((rd_T38 l0 x7_1).f2.f0), .int .i64 ((rd_T38 l0 x7_1).f2.f1), .int .i64 ((rd_T38 l0 x7_1).f3)], .agg #[.int .i64 a1_0, .int .i64 a1_1, .int .i64 a1_2, .int .i64 a1_3, .int .i64 x350004_1]] (by rfl) rfl rfl Q39 ?_
     with_reducible refine (spec_l2Comp.calls k1 ((rd_T38 l0 x7_1).f0) ((rd_T38 l0 x7_1).f1) ((rd_T38 l0 x7_1).f2.f0) ((rd_T38 l0 x7_1).f2.f1) ((rd_T38 l0 x7_1).f3) a1_0 a1_1 a1_2 a1_3 x350004_1 t357 _ A8.out).mono ?_
     rintro e w11 ⟨rfl, hb⟩
     refine ⟨_, rfl, ?_⟩
     have n0_ := Aside0.mk (Kd.R_below Q12 hb)
     have n1_ := Aside0.mk (blk_below (g := gb349) (o := .cells #[.int .i64 a1_0, .int .i64 a1_1, .int .i64 a1_2, .int .i64 a1_3, .int .i64 x350004_1] 38 (0, 0)) Q35 hb)
     have n2_ := Aside0.mk (below_step Q53 hb)
     clear HO_5
     clear BK349
     clear HB
     have HO_5 := n0_
     have BK349 := n1_
     have HB := n2_
     clear n0_ n1_ n2_
     (try clear hb)
     (try clear hb2)
     (try clear hk)
     (try clear hi)
     refine hK.out _ _ ⟨(blk_cell BK349.out 0).trans rfl, (blk_cell BK349.out 1).trans rfl, (blk_cell BK349.out 2).trans rfl, (blk_cell BK349.out 3).trans rfl, (blk_cell BK349.out 4).trans rfl, ((HB.out.cell (World.block_lt_of_cell? w _ hw356_0)).trans hw356_0), ((HB.out.cell (World.block_lt_of_cell? w _ hw356_1)).trans hw356_1), ((HB.out.cell (World.block_lt_of_cell? w _ hw356_2)).trans hw356_2), ((HB.out.cell (World.block_lt_of_cell? w _ hw356_3)).trans hw356_3), ((HB.out.cell (World.block_lt_of_cell? w _ hw356_4)).trans hw356_4)⟩ (fun hHeld => ?_)
     clear hK K
     refine norm_ (a' := ?_) ?_ ?_
     rotate_left
     ·show Act.put _ (some 21) _ = _
      simp only [Act.put, List.setIfInBounds_toArray, List.set_cons_zero, List.set_cons_succ, i64_w, i32_w]
      rfl
     refine pU_ 6 8 b7_7 ?_
     refine done_ Q2 ?_
     go_upto_region 7 with (fail)
     go_cut [27] (fun v27 wc => ∃ (kq : Nat) (x27_8 : Bool), v27 = .bool x27_8 ∧ Aside0 (spec_l2Put.j1 kq l0 x5_1 x6_1 x7_1 t357 x27_8 a1_0 a1_1 a1_2 a1_3 x350004_1 = some r) ∧ Aside0 (kq ≤ k1) ∧ Aside0 (Kd.R k38 38 wc w.heap.size (fun k_ => k_ ≠ gb349) u5 x5_1) ∧ Aside0 (wc.heap[gb349]? = some (.cells #[.int .i64 a1_0, .int .i64 a1_1, .int .i64 a1_2, .int .i64 a1_3, .int .i64 x350004_1] 38 (0, 0))) ∧ Aside0 (Below w.heap.size w wc))
     case first =>
      have H := HC9.out
      clear HC9
      by_cases c12 : x6_1 = true
      ·subst c12
       have H1 : (spec_l2Put.j1 k1 l0 x5_1 true x7_1 t357 false a1_0 a1_1 a1_2 a1_3 x350004_1) = some r := by rw [if_pos rfl] at H; exact H
       clear H
       have H := H1
       clear H1
       have H' := Aside0.mk H
       clear H
       go_wp2
       go_meet
       case rel => exact ⟨_, (false), Q6, H', ⟨Q8⟩, ⟨Q12⟩, ⟨Q35⟩, ⟨Q53⟩⟩
      ·replace c12 := Bool.eq_false_iff.mpr c12
       subst c12
       have H1 : (spec_l2Put.j1 k1 l0 x5_1 false x7_1 t357 (decide (t357 > 0)) a1_0 a1_1 a1_2 a1_3 x350004_1) = some r := by rw [if_neg (show ¬ (false = true) by decide)] at H; exact H
       clear H
       have H := H1
       clear H1
       have H' := Aside0.mk H
       clear H
       go_wp2
       go_meet
       case rel => exact ⟨_, (decide (t357 > 0)), Q6, H', ⟨Q8⟩, ⟨Q12⟩, ⟨Q35⟩, ⟨Q53⟩⟩
     case rest =>
      clear HC9
      try clear c1
      try clear p2
      try clear p3
      try clear q3
      try clear hx3
      try clear c6
      try clear c6b0
      try clear c7
      try clear c7b0
      try clear c8
      try clear c12
      try clear hx356_0
      try clear hx356_1
      try clear hx356_2
      try clear hx356_3
      try clear hx356_4
      try clear p2
      try clear p356
      try clear q356
      obtain ⟨kq, x27_8, rfl, HA, HJ8, HO_5, BK349, HB⟩ := hcut
      cases kq with
      | zero => exact absurd HA.out (by simp [spec_l2Put.j1])
      | succ kj8 =>
       have H := HA.out
       clear HA
       simp only [spec_l2Put.j1] at H
       by_cases c13 : x27_8 = true
       ·subst c13
        have H1 : (if x5_1.length < 3518437208883 then ((some (x5_1 ++ [(⟨a1_0, a1_1, (⟨a1_2, a1_3⟩ : S36), x350004_1⟩ : S38)] : List (S38))).bind fun y358 => (if 0 ≤ x7_1 then (if x7_1 < (l0.length : Int) then (if y358.length < 3518437208883 then (spec_l2Put.l0 kj8 l0 (y358 ++ [(⟨(rd_T38 l0 x7_1).f0, (rd_T38 l0 x7_1).f1, (⟨(rd_T38 l0 x7_1).f2.f0, (rd_T38 l0 x7_1).f2.f1⟩ : S36), (rd_T38 l0 x7_1).f3⟩ : S38)]) true (wrap64 (x7_1 + 1)) a1_0 a1_1 a1_2 a1_3 x350004_1) else (none)) else (none)) else (none))) else (none)) = some r := by rw [if_pos rfl] at H; exact H
        clear H
        have H := H1
        clear H1
        by_cases c14 : x5_1.length < 3518437208883
        ·rw [if_pos c14] at H
         have LMc14 := Aside0.mk c14
         clear c14
         obtain ⟨y358, hy_⟩ : ∃ y_ : List (S38), y_ = (x5_1 ++ [(⟨a1_0, a1_1, (⟨a1_2, a1_3⟩ : S36), x350004_1⟩ : S38)]) := ⟨_, rfl⟩
         replace H : (if 0 ≤ x7_1 then (if x7_1 < (l0.length : Int) then (if y358.length < 3518437208883 then (spec_l2Put.l0 kj8 l0 (y358 ++ [(⟨(rd_T38 l0 x7_1).f0, (rd_T38 l0 x7_1).f1, (⟨(rd_T38 l0 x7_1).f2.f0, (rd_T38 l0 x7_1).f2.f1⟩ : S36), (rd_T38 l0 x7_1).f3⟩ : S38)]) true (wrap64 (x7_1 + 1)) a1_0 a1_1 a1_2 a1_3 x350004_1) else (none)) else (none)) else (none)) = some r := Q78
         have Ny358 := Aside0.mk hy_
         clear hy_
         by_cases c15 : 0 ≤ x7_1
         ·rw [if_pos c15] at H
          have c15b0 : decide (0 ≤ x7_1) = true := decide_eq_true c15
          clear c15
          by_cases c16 : x7_1 < (l0.length : Int)
          ·rw [if_pos c16] at H
           have c16b0 : decide (x7_1 < (l0.length : Int)) = true := decide_eq_true c16
           clear c16
           by_cases c17 : y358.length < 3518437208883
           ·rw [if_pos c17] at H
            have LMc17 := Aside0.mk c17
            clear c17
            obtain ⟨y362, hy_⟩ : ∃ y_ : List (S38), y_ = (y358 ++ [(⟨(rd_T38 l0 x7_1).f0, (rd_T38 l0 x7_1).f1, (⟨(rd_T38 l0 x7_1).f2.f0, (rd_T38 l0 x7_1).f2.f1⟩ : S36), (rd_T38 l0 x7_1).f3⟩ : S38)]) := ⟨_, rfl⟩
            replace H : (spec_l2Put.l0 kj8 l0 y362 true (wrap64 (x7_1 + 1)) a1_0 a1_1 a1_2 a1_3 x350004_1) = some r := Q78
            have Ny362 := Aside0.mk hy_
            clear hy_
            have H' := Aside0.mk H
            clear H
            have hcz18_0 : wc.cell? ⟨gb349, 0, none⟩ = some (.int .i64 a1_0) := (blk_cell BK349.out 0).trans rfl
            have hcz18_1 : wc.cell? ⟨gb349, 1, none⟩ = some (.int .i64 a1_1) := (blk_cell BK349.out 1).trans rfl
            have hcz18_2 : wc.cell? ⟨gb349, 2, none⟩ = some (.int .i64 a1_2) := (blk_cell BK349.out 2).trans rfl
            have hcz18_3 : wc.cell? ⟨gb349, 3, none⟩ = some (.int .i64 a1_3) := (blk_cell BK349.out 3).trans rfl
            have hcz18_4 : wc.cell? ⟨gb349, 4, none⟩ = some (.int .i64 x350004_1) := (blk_cell BK349.out 4).trans rfl
            have hfz18_0 := blk_frozen BK349.out 0
            have hfz18_1 := blk_frozen BK349.out 1
            have hfz18_2 := blk_frozen BK349.out 2
            have hfz18_3 := blk_frozen BK349.out 3
            have hfz18_4 := blk_frozen BK349.out 4
            go_wp2_with (first | ((with_reducible refine gate_builtin (b := .append) (xs := #[.tmp 28, .tmp 30]) rfl ?_); at_builtin; refine Kd.R_append k38 (w0 := w) w.heap.size rfl (.tmp 28) (.tmp 30) 23 38 (.agg #[(.int .i64 0), (.int .i64 0), (.int .i64 0), (.int .i64 0), (.int .i64 0)]) 40 rfl Try.underlying23 info38 rfl Q1 (by omega) u5 x5_1 (⟨a1_0, a1_1, (⟨a1_2, a1_3⟩ : S36), x350004_1⟩ : S38) [.int .i64 a1_0, .int .i64 a1_1, .int .i64 a1_2, .int .i64 a1_3, .int .i64 x350004_1] (fun k_ => k_ ≠ gb349) (fun _ => False) rfl rfl ?aP (fun _ hk => hk.elim) ?aF ?aO ?aB ?aS ?aL ?_; (case aP => exact k38_mkM _ _ _ (⟨a1_0, a1_1, (⟨a1_2, a1_3⟩ : S36), x350004_1⟩ : S38)); (case aB => exact Q53); (case aF => exact (fun k_ hk => Kd.freshB (g := gb349) (o := .cells #[.int .i64 a1_0, .int .i64 a1_1, .int .i64 a1_2, .int .i64 a1_3, .int .i64 x350004_1] 38 (0, 0)) Q35 k_ hk)); (case aO => exact Q12); (case aS => exact (below_size Q53)); (case aL => have := LMc14.out; omega); intro v359 w19 ho hb hg hat; rw [← Ny358.out] at ho; have n0_ := Aside0.mk (blk_grown (g := gb349) (o := .cells #[.int .i64 a1_0, .int .i64 a1_1, .int .i64 a1_2, .int .i64 a1_3, .int .i64 x350004_1] 38 (0, 0)) Q35 hg (Kd.R_away HO_5.out (fun _ hk => hk))); have n1_ := Aside0.mk (hb); have n2_ := Aside0.mk (ho); clear BK349; clear HB; clear HO_5; have BK349 := n0_; have HB := n1_; have HO360 := n2_; clear n0_ n1_ n2_; clear ho hb hg hat; have p361 : 0 ≤ (x7_1 : Int) := of_decide_eq_true Q7; have q361 : x7_1 < (l0.length : Int) := of_decide_eq_true Q7; obtain ⟨ad361, e361, hx361_0, hx361_1, hx361_2, hx361_3, hx361_4⟩ := at_T38 HR0.out x7_1 p361 q361; obtain rfl : ad356 = ad361 := (by injection e361); replace hx361_0 := (HB.out.cell (World.block_lt_of_cell? w _ hx361_0)).trans hx361_0; replace hx361_1 := (HB.out.cell (World.block_lt_of_cell? w _ hx361_1)).trans hx361_1; replace hx361_2 := (HB.out.cell (World.block_lt_of_cell? w _ hx361_2)).trans hx361_2; replace hx361_3 := (HB.out.cell (World.block_lt_of_cell? w _ hx361_3)).trans hx361_3; replace hx361_4 := (HB.out.cell (World.block_lt_of_cell? w _ hx361_4)).trans hx361_4; replace p361 := eq_true p361; replace q361 := eq_true q361) | ((with_reducible refine gate_builtin (b := .append) (xs := #[.tmp 51, .tmp 56]) rfl ?_); at_builtin; refine Kd.R_append k38 (w0 := w) w.heap.size rfl (.tmp 51) (.tmp 56) 23 38 (.agg #[(.int .i64 0), (.int .i64 0), (.int .i64 0), (.int .i64 0), (.int .i64 0)]) 40 rfl Try.underlying23 info38 rfl Q1 (by omega) v359 y358 (⟨(rd_T38 l0 x7_1).f0, (rd_T38 l0 x7_1).f1, (⟨(rd_T38 l0 x7_1).f2.f0, (rd_T38 l0 x7_1).f2.f1⟩ : S36), (rd_T38 l0 x7_1).f3⟩ : S38) [.int .i64 ((rd_T38 l0 x7_1).f0), .int .i64 ((rd_T38 l0 x7_1).f1), .int .i64 ((rd_T38 l0 x7_1).f2.f0), .int .i64 ((rd_T38 l0 x7_1).f2.f1), .int .i64 ((rd_T38 l0 x7_1).f3)] (fun k_ => k_ ≠ gb349) (fun _ => False) rfl rfl ?aP (fun _ hk => hk.elim) ?aF ?aO ?aB ?aS ?aL ?_; (case aP => exact k38_mkM _ _ _ (⟨(rd_T38 l0 x7_1).f0, (rd_T38 l0 x7_1).f1, (⟨(rd_T38 l0 x7_1).f2.f0, (rd_T38 l0 x7_1).f2.f1⟩ : S36), (rd_T38 l0 x7_1).f3⟩ : S38)); (case aB => exact Q53); (case aF => exact (fun k_ hk => Kd.freshB (g := gb349) (o := .cells #[.int .i64 a1_0, .int .i64 a1_1, .int .i64 a1_2, .int .i64 a1_3, .int .i64 x350004_1] 38 (0, 0)) Q35 k_ hk)); (case aO => exact (by (with_reducible repeat (first | apply Kd.R_alloc | apply Kd.R_drewN | apply Kd.R_drew)); exact HO360.out)); (case aS => exact (below_size Q53)); (case aL => have := LMc17.out; omega); intro v363 w20 ho hb hg hat; rw [← Ny362.out] at ho; have n0_ := Aside0.mk (blk_grown (g := gb349) (o := .cells #[.int .i64 a1_0, .int .i64 a1_1, .int .i64 a1_2, .int .i64 a1_3, .int .i64 x350004_1] 38 (0, 0)) Q35 hg (Kd.R_away HO360.out (fun _ hk => hk))); have n1_ := Aside0.mk (hb); have n2_ := Aside0.mk (ho); clear BK349; clear HB; clear HO360; have BK349 := n0_; have HB := n1_; have HO364 := n2_; clear n0_ n1_ n2_; clear ho hb hg hat))
            go_roundg kj8
            case measure => have := HK1.out; have := HJ8.out; omega
            case rel => exact ⟨(y362), (true), (wrap64 (x7_1 + 1)), (x350004_1), Q6, Q6, H', ⟨Q5⟩, ⟨by (with_reducible repeat (first | apply Kd.R_alloc | apply Kd.R_drewN | apply Kd.R_drew)); exact HO364.out⟩, ⟨Q35⟩, ⟨Q53⟩⟩
           ·rw [if_neg c17] at H
            exact absurd H Q0
          ·rw [if_neg c16] at H
           exact absurd H Q0
         ·rw [if_neg c15] at H
          exact absurd H Q0
        ·rw [if_neg c14] at H
         exact absurd H Q0
       ·replace c13 := Bool.eq_false_iff.mpr c13
        subst c13
        have H1 : (if x6_1 = true then (if 0 ≤ x7_1 then (if x7_1 < (l0.length : Int) then (if x5_1.length < 3518437208883 then (spec_l2Put.l0 kj8 l0 (x5_1 ++ [(⟨(rd_T38 l0 x7_1).f0, (rd_T38 l0 x7_1).f1, (⟨(rd_T38 l0 x7_1).f2.f0, (rd_T38 l0 x7_1).f2.f1⟩ : S36), (rd_T38 l0 x7_1).f3⟩ : S38)]) x6_1 (wrap64 (x7_1 + 1)) a1_0 a1_1 a1_2 a1_3 x350004_1) else (none)) else (none)) else (none)) else (if t357 = 0 then (if 0 ≤ x7_1 then (if x7_1 < (l0.length : Int) then (if x5_1.length < 3518437208883 then (spec_l2Put.l0 kj8 l0 (x5_1 ++ [(⟨a1_0, a1_1, (⟨a1_2, a1_3⟩ : S36), wrap64 (x350004_1 + ((rd_T38 l0 x7_1).f3))⟩ : S38)]) true (wrap64 (x7_1 + 1)) a1_0 a1_1 a1_2 a1_3 (wrap64 (x350004_1 + ((rd_T38 l0 x7_1).f3)))) else (none)) else (none)) else (none)) else (if 0 ≤ x7_1 then (if x7_1 < (l0.length : Int) then (if x5_1.length < 3518437208883 then (spec_l2Put.l0 kj8 l0 (x5_1 ++ [(⟨(rd_T38 l0 x7_1).f0, (rd_T38 l0 x7_1).f1, (⟨(rd_T38 l0 x7_1).f2.f0, (rd_T38 l0 x7_1).f2.f1⟩ : S36), (rd_T38 l0 x7_1).f3⟩ : S38)]) x6_1 (wrap64 (x7_1 + 1)) a1_0 a1_1 a1_2 a1_3 x350004_1) else (none)) else (none)) else (none)))) = some r := by rw [if_neg (show ¬ (false = true) by decide)] at H; exact H
        clear H
        have H := H1
        clear H1
        by_cases c21 : x6_1 = true
        ·subst c21
         have H1 : (if 0 ≤ x7_1 then (if x7_1 < (l0.length : Int) then (if x5_1.length < 3518437208883 then (spec_l2Put.l0 kj8 l0 (x5_1 ++ [(⟨(rd_T38 l0 x7_1).f0, (rd_T38 l0 x7_1).f1, (⟨(rd_T38 l0 x7_1).f2.f0, (rd_T38 l0 x7_1).f2.f1⟩ : S36), (rd_T38 l0 x7_1).f3⟩ : S38)]) true (wrap64 (x7_1 + 1)) a1_0 a1_1 a1_2 a1_3 x350004_1) else (none)) else (none)) else (none)) = some r := by rw [if_pos rfl] at H; exact H
         clear H
         have H := H1
         clear H1
         by_cases c22 : 0 ≤ x7_1
         ·rw [if_pos c22] at H
          have c22b0 : decide (0 ≤ x7_1) = true := decide_eq_true c22
          clear c22
          by_cases c23 : x7_1 < (l0.length : Int)
          ·rw [if_pos c23] at H
           have c23b0 : decide (x7_1 < (l0.length : Int)) = true := decide_eq_true c23
           clear c23
           by_cases c24 : x5_1.length < 3518437208883
           ·rw [if_pos c24] at H
            have LMc24 := Aside0.mk c24
            clear c24
            obtain ⟨y366, hy_⟩ : ∃ y_ : List (S38), y_ = (x5_1 ++ [(⟨(rd_T38 l0 x7_1).f0, (rd_T38 l0 x7_1).f1, (⟨(rd_T38 l0 x7_1).f2.f0, (rd_T38 l0 x7_1).f2.f1⟩ : S36), (rd_T38 l0 x7_1).f3⟩ : S38)]) := ⟨_, rfl⟩
            replace H : (spec_l2Put.l0 kj8 l0 y366 true (wrap64 (x7_1 + 1)) a1_0 a1_1 a1_2 a1_3 x350004_1) = some r := Q78
            have Ny366 := Aside0.mk hy_
            clear hy_
            have H' := Aside0.mk H
            clear H
            have p365 : 0 ≤ (x7_1 : Int) := of_decide_eq_true Q7
            have q365 : x7_1 < (l0.length : Int) := of_decide_eq_true Q7
            obtain ⟨ad365, e365, hx365_0, hx365_1, hx365_2, hx365_3, hx365_4⟩ := at_T38 HR0.out x7_1 p365 q365
            obtain rfl : ad356 = ad365 := (by injection e365)
            replace hx365_0 := (HB.out.cell (World.block_lt_of_cell? w _ hx365_0)).trans hx365_0
            replace hx365_1 := (HB.out.cell (World.block_lt_of_cell? w _ hx365_1)).trans hx365_1
            replace hx365_2 := (HB.out.cell (World.block_lt_of_cell? w _ hx365_2)).trans hx365_2
            replace hx365_3 := (HB.out.cell (World.block_lt_of_cell? w _ hx365_3)).trans hx365_3
            replace hx365_4 := (HB.out.cell (World.block_lt_of_cell? w _ hx365_4)).trans hx365_4
            replace p365 := eq_true p365
            replace q365 := eq_true q365
            go_wp2_with (first | ((with_reducible refine gate_builtin (b := .append) (xs := #[.tmp 51, .tmp 56]) rfl ?_); at_builtin; refine Kd.R_append k38 (w0 := w) w.heap.size rfl (.tmp 51) (.tmp 56) 23 38 (.agg #[(.int .i64 0), (.int .i64 0), (.int .i64 0), (.int .i64 0), (.int .i64 0)]) 40 rfl Try.underlying23 info38 rfl Q1 (by omega) u5 x5_1 (⟨(rd_T38 l0 x7_1).f0, (rd_T38 l0 x7_1).f1, (⟨(rd_T38 l0 x7_1).f2.f0, (rd_T38 l0 x7_1).f2.f1⟩ : S36), (rd_T38 l0 x7_1).f3⟩ : S38) [.int .i64 ((rd_T38 l0 x7_1).f0), .int .i64 ((rd_T38 l0 x7_1).f1), .int .i64 ((rd_T38 l0 x7_1).f2.f0), .int .i64 ((rd_T38 l0 x7_1).f2.f1), .int .i64 ((rd_T38 l0 x7_1).f3)] (fun k_ => k_ ≠ gb349) (fun _ => False) rfl rfl ?aP (fun _ hk => hk.elim) ?aF ?aO ?aB ?aS ?aL ?_; (case aP => exact k38_mkM _ _ _ (⟨(rd_T38 l0 x7_1).f0, (rd_T38 l0 x7_1).f1, (⟨(rd_T38 l0 x7_1).f2.f0, (rd_T38 l0 x7_1).f2.f1⟩ : S36), (rd_T38 l0 x7_1).f3⟩ : S38)); (case aB => exact Q53); (case aF => exact (fun k_ hk => Kd.freshB (g := gb349) (o := .cells #[.int .i64 a1_0, .int .i64 a1_1, .int .i64 a1_2, .int .i64 a1_3, .int .i64 x350004_1] 38 (0, 0)) Q35 k_ hk)); (case aO => exact Q12); (case aS => exact (below_size Q53)); (case aL => have := LMc24.out; omega); intro v367 w25 ho hb hg hat; rw [← Ny366.out] at ho; have n0_ := Aside0.mk (blk_grown (g := gb349) (o := .cells #[.int .i64 a1_0, .int .i64 a1_1, .int .i64 a1_2, .int .i64 a1_3, .int .i64 x350004_1] 38 (0, 0)) Q35 hg (Kd.R_away HO_5.out (fun _ hk => hk))); have n1_ := Aside0.mk (hb); have n2_ := Aside0.mk (ho); clear BK349; clear HB; clear HO_5; have BK349 := n0_; have HB := n1_; have HO368 := n2_; clear n0_ n1_ n2_; clear ho hb hg hat))
            go_roundg kj8
            case measure => have := HK1.out; have := HJ8.out; omega
            case rel => exact ⟨(y366), (true), (wrap64 (x7_1 + 1)), (x350004_1), Q6, Q6, H', ⟨Q5⟩, ⟨by (with_reducible repeat (first | apply Kd.R_alloc | apply Kd.R_drewN | apply Kd.R_drew)); exact HO368.out⟩, ⟨Q35⟩, ⟨Q53⟩⟩
           ·rw [if_neg c24] at H
            exact absurd H Q0
          ·rw [if_neg c23] at H
           exact absurd H Q0
         ·rw [if_neg c22] at H
          exact absurd H Q0
        ·replace c21 := Bool.eq_false_iff.mpr c21
         subst c21
         have H1 : (if t357 = 0 then (if 0 ≤ x7_1 then (if x7_1 < (l0.length : Int) then (if x5_1.length < 3518437208883 then (spec_l2Put.l0 kj8 l0 (x5_1 ++ [(⟨a1_0, a1_1, (⟨a1_2, a1_3⟩ : S36), wrap64 (x350004_1 + ((rd_T38 l0 x7_1).f3))⟩ : S38)]) true (wrap64 (x7_1 + 1)) a1_0 a1_1 a1_2 a1_3 (wrap64 (x350004_1 + ((rd_T38 l0 x7_1).f3)))) else (none)) else (none)) else (none)) else (if 0 ≤ x7_1 then (if x7_1 < (l0.length : Int) then (if x5_1.length < 3518437208883 then (spec_l2Put.l0 kj8 l0 (x5_1 ++ [(⟨(rd_T38 l0 x7_1).f0, (rd_T38 l0 x7_1).f1, (⟨(rd_T38 l0 x7_1).f2.f0, (rd_T38 l0 x7_1).f2.f1⟩ : S36), (rd_T38 l0 x7_1).f3⟩ : S38)]) false (wrap64 (x7_1 + 1)) a1_0 a1_1 a1_2 a1_3 x350004_1) else (none)) else (none)) else (none))) = some r := by rw [if_neg (show ¬ (false = true) by decide)] at H; exact H
         clear H
         have H := H1
         clear H1
         by_cases c26 : t357 = 0
         ·rw [if_pos c26] at H
          have c26b0 : (t357 == 0) = true := beq_iff_eq.mpr c26
          have c26b1 : (t357 != 0) = false := bne_eq_false_iff_eq.mpr c26
          clear c26
          by_cases c27 : 0 ≤ x7_1
          ·rw [if_pos c27] at H
           have c27b0 : decide (0 ≤ x7_1) = true := decide_eq_true c27
           clear c27
           by_cases c28 : x7_1 < (l0.length : Int)
           ·rw [if_pos c28] at H
            have c28b0 : decide (x7_1 < (l0.length : Int)) = true := decide_eq_true c28
            clear c28
            by_cases c29 : x5_1.length < 3518437208883
            ·rw [if_pos c29] at H
             have LMc29 := Aside0.mk c29
             clear c29
             obtain ⟨y370, hy_⟩ : ∃ y_ : List (S38), y_ = (x5_1 ++ [(⟨a1_0, a1_1, (⟨a1_2, a1_3⟩ : S36), wrap64 (x350004_1 + ((rd_T38 l0 x7_1).f3))⟩ : S38)]) := ⟨_, rfl⟩
             replace H : (spec_l2Put.l0 kj8 l0 y370 true (wrap64 (x7_1 + 1)) a1_0 a1_1 a1_2 a1_3 (wrap64 (x350004_1 + ((rd_T38 l0 x7_1).f3)))) = some r := Q78
             have Ny370 := Aside0.mk hy_
             clear hy_
             have H' := Aside0.mk H
             clear H
             try go_wp2
             have n0_ := Aside0.mk (Kd.R_drew HO_5.out)
             have n1_ := Aside0.mk (blk_drew BK349.out)
             have n2_ := Aside0.mk (below_drew1 HB.out)
             clear HO_5
             clear BK349
             clear HB
             have HO_5 := n0_
             have BK349 := n1_
             have HB := n2_
             clear n0_ n1_ n2_
             have p369 : 0 ≤ (x7_1 : Int) := of_decide_eq_true Q7
             have q369 : x7_1 < (l0.length : Int) := of_decide_eq_true Q7
             obtain ⟨ad369, e369, hx369_0, hx369_1, hx369_2, hx369_3, hx369_4⟩ := at_T38 HR0.out x7_1 p369 q369
             have hw369_4 := hx369_4
             have hw369_3 := hx369_3
             have hw369_2 := hx369_2
             have hw369_1 := hx369_1
             have hw369_0 := hx369_0
             obtain rfl : ad356 = ad369 := (by injection e369)
             replace hx369_0 := (HB.out.cell (World.block_lt_of_cell? w _ hx369_0)).trans hx369_0
             replace hx369_1 := (HB.out.cell (World.block_lt_of_cell? w _ hx369_1)).trans hx369_1
             replace hx369_2 := (HB.out.cell (World.block_lt_of_cell? w _ hx369_2)).trans hx369_2
             replace hx369_3 := (HB.out.cell (World.block_lt_of_cell? w _ hx369_3)).trans hx369_3
             replace hx369_4 := (HB.out.cell (World.block_lt_of_cell? w _ hx369_4)).trans hx369_4
             replace p369 := eq_true p369
             replace q369 := eq_true q369
             refine start_ (n := 10) (S := fun w' => w'.cell? ⟨gb349, 0, none⟩ = some (.int .i64 a1_0) ∧ w'.cell? ⟨gb349, 1, none⟩ = some (.int .i64 a1_1) ∧ w'.cell? ⟨gb349, 2, none⟩ = some (.int .i64 a1_2) ∧ w'.cell? ⟨gb349, 3, none⟩ = some (.int .i64 a1_3) ∧ w'.cell? ⟨gb349, 4, none⟩ = some (.int .i64 x350004_1) ∧ w'.cell? (ad356.add ((x7_1).toNat * 5)) = some (.int .i64 ((rd_T38 l0 x7_1).f0)) ∧ w'.cell? ⟨(ad356.add ((x7_1).toNat * 5)).block, (ad356.add ((x7_1).toNat * 5)).off + 1, none⟩ = some (.int .i64 ((rd_T38 l0 x7_1).f1)) ∧ w'.cell? ⟨(ad356.add ((x7_1).toNat * 5)).block, (ad356.add ((x7_1).toNat * 5)).off + 2, none⟩ = some (.int .i64 ((rd_T38 l0 x7_1).f2.f0)) ∧ w'.cell? ⟨(ad356.add ((x7_1).toNat * 5)).block, (ad356.add ((x7_1).toNat * 5)).off + 3, none⟩ = some (.int .i64 ((rd_T38 l0 x7_1).f2.f1)) ∧ w'.cell? ⟨(ad356.add ((x7_1).toNat * 5)).block, (ad356.add ((x7_1).toNat * 5)).off + 4, none⟩ = some (.int .i64 ((rd_T38 l0 x7_1).f3))) (ds := [9]) b10_0 Q2 rfl rfl ⟨(blk_cell BK349.out 0).trans rfl, (blk_cell BK349.out 1).trans rfl, (blk_cell BK349.out 2).trans rfl, (blk_cell BK349.out 3).trans rfl, (blk_cell BK349.out 4).trans rfl, ((HB.out.cell (World.block_lt_of_cell? w _ hw369_0)).trans hw369_0), ((HB.out.cell (World.block_lt_of_cell? w _ hw369_1)).trans hw369_1), ((HB.out.cell (World.block_lt_of_cell? w _ hw369_2)).trans hw369_2), ((HB.out.cell (World.block_lt_of_cell? w _ hw369_3)).trans hw369_3), ((HB.out.cell (World.block_lt_of_cell? w _ hw369_4)).trans hw369_4)⟩ (fun hHeld => ?_); refine with_tabW spec_l2Put.tab11 spec_l2Put.bits11 (fun HT_ HW_ => ?_)
             generalize wc.drew = w30 at HO_5 BK349 HB hx369_0 hx369_1 hx369_2 hx369_3 hx369_4 hHeld ⊢
             refine pU_ 0 38 b10_1 ?_
             refine pU_ 2 40 c65 ?_
             refine pU_ 3 41 c66 ?_
             refine pU_ 4 42 c67 ?_
             refine pU_ 5 43 c68 ?_
             refine tU_ 1 39 b10_6 hHeld ?_
             refine tU_ 6 44 b10_7 hHeld ?_
             refine pU_ 7 45 b10_8 ?_
             refine pU_ 8 46 b10_9 ?_
             refine last_ (i := 9) (N := none) b10_10 rfl rfl (one_of HT_.out Q2) Q1 (fun K hK => ?_)
             have hs31 : w30.cell? ⟨gb349, 4, none⟩ = some (.int .i64 x350004_1) := (blk_cell BK349.out 4).trans rfl
             have hfs31 := blk_frozen BK349.out 4
             refine skip_ (w1 := ?_) (by rfl) rfl ?_ ?_
             rotate_left
             ·go_simp
              rfl
             refine hK.out _ _ ?_
             clear hK K
             refine done_ (done_of HT_.out Q2) ?_
             have hcz32_0 : w30.cell? ⟨gb349, 0, none⟩ = some (.int .i64 a1_0) := (blk_cell BK349.out 0).trans rfl
             have hcz32_1 : w30.cell? ⟨gb349, 1, none⟩ = some (.int .i64 a1_1) := (blk_cell BK349.out 1).trans rfl
             have hcz32_2 : w30.cell? ⟨gb349, 2, none⟩ = some (.int .i64 a1_2) := (blk_cell BK349.out 2).trans rfl
             have hcz32_3 : w30.cell? ⟨gb349, 3, none⟩ = some (.int .i64 a1_3) := (blk_cell BK349.out 3).trans rfl
             have hcz32_4 : w30.cell? ⟨gb349, 4, none⟩ = some (.int .i64 x350004_1) := (blk_cell BK349.out 4).trans rfl
             have hfz32_0 := blk_frozen BK349.out 0
             have hfz32_1 := blk_frozen BK349.out 1
             have hfz32_2 := blk_frozen BK349.out 2
             have hfz32_3 := blk_frozen BK349.out 3
             have hfz32_4 := blk_frozen BK349.out 4
             try go_wp2_with (first | ((with_reducible refine gate_builtin (b := .append) (xs := #[.tmp 47, .tmp 49]) rfl ?_); at_builtin; refine Kd.R_append k38 (w0 := w) w.heap.size rfl (.tmp 47) (.tmp 49) 23 38 (.agg #[(.int .i64 0), (.int .i64 0), (.int .i64 0), (.int .i64 0), (.int .i64 0)]) 40 rfl Try.underlying23 info38 rfl Q1 (by omega) u5 x5_1 (⟨a1_0, a1_1, (⟨a1_2, a1_3⟩ : S36), wrap64 (x350004_1 + ((rd_T38 l0 x7_1).f3))⟩ : S38) [.int .i64 a1_0, .int .i64 a1_1, .int .i64 a1_2, .int .i64 a1_3, .int .i64 (wrap64 (x350004_1 + ((rd_T38 l0 x7_1).f3)))] (fun k_ => k_ ≠ gb349) (fun _ => False) rfl (by first | (go_simp; done) | (go_simp; rfl)) ?aP (fun _ hk => hk.elim) ?aF ?aO ?aB ?aS ?aL ?_; (case aP => exact k38_mkM _ _ _ (⟨a1_0, a1_1, (⟨a1_2, a1_3⟩ : S36), wrap64 (x350004_1 + ((rd_T38 l0 x7_1).f3))⟩ : S38)); (case aB => exact Q53); (case aF => exact (fun k_ hk => Kd.freshB (g := gb349) (o := .cells #[.int .i64 a1_0, .int .i64 a1_1, .int .i64 a1_2, .int .i64 a1_3, .int .i64 (wrap64 (x350004_1 + ((rd_T38 l0 x7_1).f3)))] 38 (0, 0)) (by (with_reducible repeat (first | refine blk_drewN ?_ _ | refine blk_drew ?_ | refine blk_alloc ?_ _)); refine blk_put (cs := #[.int .i64 a1_0, .int .i64 a1_1, .int .i64 a1_2, .int .i64 a1_3, .int .i64 x350004_1]) ?_ 4 _ rfl; (with_reducible repeat (first | refine blk_drewN ?_ _ | refine blk_drew ?_ | refine blk_alloc ?_ _)); exact BK349.out) k_ hk)); (case aO => exact (by (with_reducible repeat (first | apply Kd.R_alloc | apply Kd.R_drewN | apply Kd.R_drew)); exact Kd.R_mono (Kd.R_far (p := ⟨gb349, 4, none⟩) (Kd.R_mono HO_5.out (fun k_ hk => (⟨hk, hk⟩ : _ ∧ k_ ≠ gb349))) (fun _ hk => hk.2) (.int .i64 (wrap64 (x350004_1 + ((rd_T38 l0 x7_1).f3))))) (fun _ hk => hk.1))); (case aS => exact (below_size Q53)); (case aL => have := LMc29.out; omega); intro v371 w33 ho hb hg hat; rw [← Ny370.out] at ho; have n0_ := Aside0.mk (blk_grown (g := gb349) (o := .cells #[.int .i64 a1_0, .int .i64 a1_1, .int .i64 a1_2, .int .i64 a1_3, .int .i64 (wrap64 (x350004_1 + ((rd_T38 l0 x7_1).f3)))] 38 (0, 0)) (by (with_reducible repeat (first | refine blk_drewN ?_ _ | refine blk_drew ?_ | refine blk_alloc ?_ _)); refine blk_put (cs := #[.int .i64 a1_0, .int .i64 a1_1, .int .i64 a1_2, .int .i64 a1_3, .int .i64 x350004_1]) ?_ 4 _ rfl; (with_reducible repeat (first | refine blk_drewN ?_ _ | refine blk_drew ?_ | refine blk_alloc ?_ _)); exact BK349.out) hg (Kd.R_away HO_5.out (fun _ hk => hk))); have n1_ := Aside0.mk (hb); have n2_ := Aside0.mk (ho); clear BK349; clear HB; clear HO_5; have BK349 := n0_; have HB := n1_; have HO372 := n2_; clear n0_ n1_ n2_; clear ho hb hg hat))
             go_roundg kj8
             case measure => have := HK1.out; have := HJ8.out; omega
             case rel => exact ⟨(y370), (true), (wrap64 (x7_1 + 1)), (wrap64 (x350004_1 + ((rd_T38 l0 x7_1).f3))), Q6, Q6, H', ⟨Q5⟩, ⟨by (with_reducible repeat (first | apply Kd.R_alloc | apply Kd.R_drewN | apply Kd.R_drew)); exact HO372.out⟩, ⟨Q35⟩, ⟨Q53⟩⟩
            ·rw [if_neg c29] at H
             exact absurd H Q0
           ·rw [if_neg c28] at H
            exact absurd H Q0
          ·rw [if_neg c27] at H
           exact absurd H Q0
         ·rw [if_neg c26] at H
          have c26b0 : (t357 == 0) = false := beq_eq_false_iff_ne.mpr c26
          have c26b1 : (t357 != 0) = true := bne_iff_ne.mpr c26
          by_cases c34 : 0 ≤ x7_1
          ·rw [if_pos c34] at H
           have c34b0 : decide (0 ≤ x7_1) = true := decide_eq_true c34
           clear c34
           by_cases c35 : x7_1 < (l0.length : Int)
           ·rw [if_pos c35] at H
            have c35b0 : decide (x7_1 < (l0.length : Int)) = true := decide_eq_true c35
            clear c35
            by_cases c36 : x5_1.length < 3518437208883
            ·rw [if_pos c36] at H
             have LMc36 := Aside0.mk c36
             clear c36
             obtain ⟨y374, hy_⟩ : ∃ y_ : List (S38), y_ = (x5_1 ++ [(⟨(rd_T38 l0 x7_1).f0, (rd_T38 l0 x7_1).f1, (⟨(rd_T38 l0 x7_1).f2.f0, (rd_T38 l0 x7_1).f2.f1⟩ : S36), (rd_T38 l0 x7_1).f3⟩ : S38)]) := ⟨_, rfl⟩
             replace H : (spec_l2Put.l0 kj8 l0 y374 false (wrap64 (x7_1 + 1)) a1_0 a1_1 a1_2 a1_3 x350004_1) = some r := Q78
             have Ny374 := Aside0.mk hy_
             clear hy_
             have H' := Aside0.mk H
             clear H
             have p373 : 0 ≤ (x7_1 : Int) := of_decide_eq_true Q7
             have q373 : x7_1 < (l0.length : Int) := of_decide_eq_true Q7
             obtain ⟨ad373, e373, hx373_0, hx373_1, hx373_2, hx373_3, hx373_4⟩ := at_T38 HR0.out x7_1 p373 q373
             obtain rfl : ad356 = ad373 := (by injection e373)
             replace hx373_0 := (HB.out.cell (World.block_lt_of_cell? w _ hx373_0)).trans hx373_0
             replace hx373_1 := (HB.out.cell (World.block_lt_of_cell? w _ hx373_1)).trans hx373_1
             replace hx373_2 := (HB.out.cell (World.block_lt_of_cell? w _ hx373_2)).trans hx373_2
             replace hx373_3 := (HB.out.cell (World.block_lt_of_cell? w _ hx373_3)).trans hx373_3
             replace hx373_4 := (HB.out.cell (World.block_lt_of_cell? w _ hx373_4)).trans hx373_4
             replace p373 := eq_true p373
             replace q373 := eq_true q373
             go_wp2_with (first | ((with_reducible refine gate_builtin (b := .append) (xs := #[.tmp 51, .tmp 56]) rfl ?_); at_builtin; refine Kd.R_append k38 (w0 := w) w.heap.size rfl (.tmp 51) (.tmp 56) 23 38 (.agg #[(.int .i64 0), (.int .i64 0), (.int .i64 0), (.int .i64 0), (.int .i64 0)]) 40 rfl Try.underlying23 info38 rfl Q1 (by omega) u5 x5_1 (⟨(rd_T38 l0 x7_1).f0, (rd_T38 l0 x7_1).f1, (⟨(rd_T38 l0 x7_1).f2.f0, (rd_T38 l0 x7_1).f2.f1⟩ : S36), (rd_T38 l0 x7_1).f3⟩ : S38) [.int .i64 ((rd_T38 l0 x7_1).f0), .int .i64 ((rd_T38 l0 x7_1).f1), .int .i64 ((rd_T38 l0 x7_1).f2.f0), .int .i64 ((rd_T38 l0 x7_1).f2.f1), .int .i64 ((rd_T38 l0 x7_1).f3)] (fun k_ => k_ ≠ gb349) (fun _ => False) rfl rfl ?aP (fun _ hk => hk.elim) ?aF ?aO ?aB ?aS ?aL ?_; (case aP => exact k38_mkM _ _ _ (⟨(rd_T38 l0 x7_1).f0, (rd_T38 l0 x7_1).f1, (⟨(rd_T38 l0 x7_1).f2.f0, (rd_T38 l0 x7_1).f2.f1⟩ : S36), (rd_T38 l0 x7_1).f3⟩ : S38)); (case aB => exact Q53); (case aF => exact (fun k_ hk => Kd.freshB (g := gb349) (o := .cells #[.int .i64 a1_0, .int .i64 a1_1, .int .i64 a1_2, .int .i64 a1_3, .int .i64 x350004_1] 38 (0, 0)) Q35 k_ hk)); (case aO => exact Q12); (case aS => exact (below_size Q53)); (case aL => have := LMc36.out; omega); intro v375 w37 ho hb hg hat; rw [← Ny374.out] at ho; have n0_ := Aside0.mk (blk_grown (g := gb349) (o := .cells #[.int .i64 a1_0, .int .i64 a1_1, .int .i64 a1_2, .int .i64 a1_3, .int .i64 x350004_1] 38 (0, 0)) Q35 hg (Kd.R_away HO_5.out (fun _ hk => hk))); have n1_ := Aside0.mk (hb); have n2_ := Aside0.mk (ho); clear BK349; clear HB; clear HO_5; have BK349 := n0_; have HB := n1_; have HO376 := n2_; clear n0_ n1_ n2_; clear ho hb hg hat))
             go_roundg kj8
             case measure => have := HK1.out; have := HJ8.out; omega
             case rel => exact ⟨(y374), (false), (wrap64 (x7_1 + 1)), (x350004_1), Q6, Q6, H', ⟨Q5⟩, ⟨by (with_reducible repeat (first | apply Kd.R_alloc | apply Kd.R_drewN | apply Kd.R_drew)); exact HO376.out⟩, ⟨Q35⟩, ⟨Q53⟩⟩
            ·rw [if_neg c36] at H
             exact absurd H Q0
           ·rw [if_neg c35] at H
            exact absurd H Q0
          ·rw [if_neg c34] at H
           exact absurd H Q0
    ·rw [if_neg c7] at H
     exact absurd H Q0
   ·rw [if_neg c6] at H
    have c6b0 : decide (x7_1 < (l0.length : Int)) = false := decide_eq_false c6
    clear c6
    by_cases c38 : x6_1 = true
    ·subst c38
     have H1 : (some x5_1) = some r := by rw [if_pos rfl] at H; exact H
     clear H
     have H := H1
     clear H1
     obtain rfl := Option.some.inj H
     go_wp2
     go_ret
     exact ⟨_, Q10, by (with_reducible repeat (first | apply Kd.R_alloc | apply Kd.R_drewN | apply Kd.R_drew)); exact Kd.R_mono HO_5.out (fun _ hk => trivial), Q53⟩
    ·replace c38 := Bool.eq_false_iff.mpr c38
     subst c38
     have H1 : (if x5_1.length < 3518437208883 then (some (x5_1 ++ [(⟨a1_0, a1_1, (⟨a1_2, a1_3⟩ : S36), x350004_1⟩ : S38)])) else (none)) = some r := by rw [if_neg (show ¬ (false = true) by decide)] at H; exact H
     clear H
     have H := H1
     clear H1
     by_cases c39 : x5_1.length < 3518437208883
     ·rw [if_pos c39] at H
      have LMc39 := Aside0.mk c39
      clear c39
      obtain ⟨y353, hy_⟩ : ∃ y_ : List (S38), y_ = (x5_1 ++ [(⟨a1_0, a1_1, (⟨a1_2, a1_3⟩ : S36), x350004_1⟩ : S38)]) := ⟨_, rfl⟩
      replace H : (some y353) = some r := Q78
      have Ny353 := Aside0.mk hy_
      clear hy_
      obtain rfl := Option.some.inj H
      have hcz40_0 : wr.cell? ⟨gb349, 0, none⟩ = some (.int .i64 a1_0) := (blk_cell BK349.out 0).trans rfl
      have hcz40_1 : wr.cell? ⟨gb349, 1, none⟩ = some (.int .i64 a1_1) := (blk_cell BK349.out 1).trans rfl
      have hcz40_2 : wr.cell? ⟨gb349, 2, none⟩ = some (.int .i64 a1_2) := (blk_cell BK349.out 2).trans rfl
      have hcz40_3 : wr.cell? ⟨gb349, 3, none⟩ = some (.int .i64 a1_3) := (blk_cell BK349.out 3).trans rfl
      have hcz40_4 : wr.cell? ⟨gb349, 4, none⟩ = some (.int .i64 x350004_1) := (blk_cell BK349.out 4).trans rfl
      have hfz40_0 := blk_frozen BK349.out 0
      have hfz40_1 := blk_frozen BK349.out 1
      have hfz40_2 := blk_frozen BK349.out 2
      have hfz40_3 := blk_frozen BK349.out 3
      have hfz40_4 := blk_frozen BK349.out 4
      go_wp2_with (first | ((with_reducible refine gate_builtin (b := .append) (xs := #[.tmp 60, .tmp 62]) rfl ?_); at_builtin; refine Kd.R_append k38 (w0 := w) w.heap.size rfl (.tmp 60) (.tmp 62) 23 38 (.agg #[(.int .i64 0), (.int .i64 0), (.int .i64 0), (.int .i64 0), (.int .i64 0)]) 40 rfl Try.underlying23 info38 rfl Q1 (by omega) u5 x5_1 (⟨a1_0, a1_1, (⟨a1_2, a1_3⟩ : S36), x350004_1⟩ : S38) [.int .i64 a1_0, .int .i64 a1_1, .int .i64 a1_2, .int .i64 a1_3, .int .i64 x350004_1] (fun k_ => k_ ≠ gb349) (fun _ => False) rfl rfl ?aP (fun _ hk => hk.elim) ?aF ?aO ?aB ?aS ?aL ?_; (case aP => exact k38_mkM _ _ _ (⟨a1_0, a1_1, (⟨a1_2, a1_3⟩ : S36), x350004_1⟩ : S38)); (case aB => exact Q53); (case aF => exact (fun k_ hk => Kd.freshB (g := gb349) (o := .cells #[.int .i64 a1_0, .int .i64 a1_1, .int .i64 a1_2, .int .i64 a1_3, .int .i64 x350004_1] 38 (0, 0)) Q35 k_ hk)); (case aO => exact Q12); (case aS => exact (below_size Q53)); (case aL => have := LMc39.out; omega); intro v354 w41 ho hb hg hat; rw [← Ny353.out] at ho; have n0_ := Aside0.mk (blk_grown (g := gb349) (o := .cells #[.int .i64 a1_0, .int .i64 a1_1, .int .i64 a1_2, .int .i64 a1_3, .int .i64 x350004_1] 38 (0, 0)) Q35 hg (Kd.R_away HO_5.out (fun _ hk => hk))); have n1_ := Aside0.mk (hb); have n2_ := Aside0.mk (ho); clear BK349; clear HB; clear HO_5; have BK349 := n0_; have HB := n1_; have HO355 := n2_; clear n0_ n1_ n2_; clear ho hb hg hat))
      go_ret
      exact ⟨_, Q10, by (with_reducible repeat (first | apply Kd.R_alloc | apply Kd.R_drewN | apply Kd.R_drew)); exact Kd.R_mono HO355.out (fun _ hk => trivial), Q53⟩
     ·rw [if_neg c39] at H
      exact absurd H Q0
mutual
def spec_l2Sum.l0 : Nat → List (S38) → List (S38) → Int → Option ((List (S38)))
 | 0, _, _, _ => none
 | k + 1, x0, x3, x4 => if x4 < (x0.length : Int) then (if 0 ≤ x4 then ((spec_l2Put.f k x3 ((rd_T38 x0 x4).f0) ((rd_T38 x0 x4).f1) ((rd_T38 x0 x4).f2.f0) ((rd_T38 x0 x4).f2.f1) ((rd_T38 x0 x4).f3)).bind fun t381 => (spec_l2Sum.l0 k x0 t381 (wrap64 (x4 + 1)))) else (none)) else (spec_l2Sum.l1 k x3 (([] : List (S38))) 0)
def spec_l2Sum.l1 : Nat → List (S38) → List (S38) → Int → Option ((List (S38)))
 | 0, _, _, _ => none
 | k + 1, x3, x5, x6 => if x6 < (x3.length : Int) then (if 0 ≤ x6 then (if ((rd_T38 x3 x6).f3) = 0 then (spec_l2Sum.l1 k x3 x5 (wrap64 (x6 + 1))) else (if x5.length < 3518437208883 then (spec_l2Sum.l1 k x3 (x5 ++ [(⟨(rd_T38 x3 x6).f0, (rd_T38 x3 x6).f1, (⟨(rd_T38 x3 x6).f2.f0, (rd_T38 x3 x6).f2.f1⟩ : S36), (rd_T38 x3 x6).f3⟩ : S38)]) (wrap64 (x6 + 1))) else (none))) else (none)) else (some x5)
end
def spec_l2Sum.f (k : Nat) (l0 : List (S38)) : Option ((List (S38))) := spec_l2Sum.l0 k l0 (([] : List (S38))) 0
theorem spec_l2Sum.mono_l : ∀ k, (∀ y0 y1 y2, LeO (spec_l2Sum.l0 k y0 y1 y2) (spec_l2Sum.l0 (k + 1) y0 y1 y2)) ∧ (∀ y0 y1 y2, LeO (spec_l2Sum.l1 k y0 y1 y2) (spec_l2Sum.l1 (k + 1) y0 y1 y2))
 | 0 => ⟨fun _ _ _ r h => by simp [spec_l2Sum.l0] at h, fun _ _ _ r h => by simp [spec_l2Sum.l1] at h⟩
 | k + 1 => by
  obtain ⟨ih0, ih1⟩ := spec_l2Sum.mono_l k
  refine ⟨?_, ?_⟩
  ·intro y0 y1 y2
   unfold spec_l2Sum.l0
   repeat' first
   | (with_reducible exact ih0 _ _ _)
   | (with_reducible exact ih1 _ _ _)
   | (with_reducible exact spec_l2Put.mono _ _ _ _ _ _ _)
   | (with_reducible exact LeO.refl _)
   | (with_reducible exact LeO.none _)
   | (with_reducible refine LeO.ite ?_ ?_)
   | (with_reducible refine LeO.bind ?_ (fun _ => ?_))
   | exact ih0 _ _ _
   | exact ih1 _ _ _
   | exact spec_l2Put.mono _ _ _ _ _ _ _
   | exact LeO.none _
   | refine LeO.ite ?_ ?_
   | refine LeO.bind ?_ (fun _ => ?_)
  ·intro y0 y1 y2
   unfold spec_l2Sum.l1
   repeat' first
   | (with_reducible exact ih0 _ _ _)
   | (with_reducible exact ih1 _ _ _)
   | (with_reducible exact spec_l2Put.mono _ _ _ _ _ _ _)
   | (with_reducible exact LeO.refl _)
   | (with_reducible exact LeO.none _)
   | (with_reducible refine LeO.ite ?_ ?_)
   | (with_reducible refine LeO.bind ?_ (fun _ => ?_))
   | exact ih0 _ _ _
   | exact ih1 _ _ _
   | exact spec_l2Put.mono _ _ _ _ _ _ _
   | exact LeO.none _
   | refine LeO.ite ?_ ?_
   | refine LeO.bind ?_ (fun _ => ?_)
theorem spec_l2Sum.mono : ∀ a0 k, LeO (spec_l2Sum.f k a0) (spec_l2Sum.f (k + 1) a0) := by
 intro a0 k
 obtain ⟨ih0, ih1⟩ := spec_l2Sum.mono_l k
 unfold spec_l2Sum.f
 repeat' first
   | (with_reducible exact ih0 _ _ _)
   | (with_reducible exact ih1 _ _ _)
   | (with_reducible exact spec_l2Put.mono _ _ _ _ _ _ _)
   | (with_reducible exact LeO.refl _)
   | (with_reducible exact LeO.none _)
   | (with_reducible refine LeO.ite ?_ ?_)
   | (with_reducible refine LeO.bind ?_ (fun _ => ?_))
   | exact ih0 _ _ _
   | exact ih1 _ _ _
   | exact spec_l2Put.mono _ _ _ _ _ _ _
   | exact LeO.none _
   | refine LeO.ite ?_ ?_
   | refine LeO.bind ?_ (fun _ => ?_)
set_option maxHeartbeats 8000000 in
set_option maxRecDepth 100000 in
theorem spec_l2Sum.calls (k : Nat) (A0 : Option Addr) (c0 : Nat) (l0 : List (S38)) (r : List (S38)) (w : World) (hr0 : Kd.C k38 w A0 l0.length l0) (hc0 : l0.length ≤ c0) (h : spec_l2Sum.f k l0 = some r) :
  Calls Try.prog 58 #[.slice A0 l0.length c0] w fun e w' => ∃ v0_ : Value, e = .returned (v0_) ∧ Kd.R k38 38 w' w.heap.size (fun _ => True) v0_ r ∧ Below w.heap.size w w' := by
 have hu38 := Try.underlying38
 have HR0 := Aside0.mk hr0
 have HC0 := Aside0.mk hc0
 clear hr0 hc0
 have HB := Aside0.mk (Below.refl w.heap.size w)
 have H : (spec_l2Sum.l0 k l0 (([] : List (S38))) 0) = some r := h
 clear h
 obtain ⟨y377, hy_⟩ : ∃ y_ : List (S38), y_ = (([] : List (S38))) := ⟨_, rfl⟩
 replace H : (spec_l2Sum.l0 k l0 y377 0) = some r := Q78
 have Ny377 := Aside0.mk hy_
 clear hy_
 have H' := Aside0.mk H
 clear H
 go_enter Try.func58, Try.ntmps58
 go_wp2_with (first | ((with_reducible refine gate_dst (N := 7) rfl ?_); refine Kd.R_lit k38 _ 38 ?hg (N := 7) ?hd (xs := ([] : List (S38))) (inner := []) (ok := fun _ => True) (okp := fun _ => True) ?hr ?hp (fun _ hk => hk) trivial (Below.refl _ _) (Nat.le_refl _) Q0 ?_; (case hd => rfl); (case hg => rfl); (case hr => first | (go_simp; done) | (go_simp; rfl)); (case hp => exact (Reps.none _ _)); intro v378 w2 ho3 hb hg_ hnew_; clear hg_ hnew_; (first | rw [← Ny377.out] at ho3 | (simp only [Int.reduceToNat] at ho3; rw [← Ny377.out] at ho3)); have n0_ := Aside0.mk (Kd.R_lower ho3 (below_size Q37)); have n1_ := Aside0.mk (below_step Q37 hb); clear HB; have HO379 := n0_; have HB := n1_; clear n0_ n1_; clear hb ho3))
 go_loopg [3, 4] k (fun kq v3 v4 w' => ∃ (x3_1 : List (S38)) (x4_1 : Int), v4 = .int .i64 x4_1 ∧ Aside0 (spec_l2Sum.l0 kq l0 x3_1 x4_1 = some r) ∧ Aside0 (kq ≤ k) ∧ Aside0 (Kd.R k38 38 w' w.heap.size (fun _ => True) v3 x3_1) ∧ Aside0 (Below w.heap.size w w'))
 case atStart => exact ⟨(y377), (0), Q6, H', ⟨Nat.le_refl _⟩, ⟨by (with_reducible repeat (first | apply Kd.R_alloc | apply Kd.R_drewN | apply Kd.R_drew)); exact HO379.out⟩, ⟨Q37⟩⟩
 case round =>
  clear H'
  try clear p2
  obtain ⟨x3_1, x4_1, rfl, HA, HK1, HO_3, HB⟩ := hrel
  cases gk with
  | zero => exact absurd HA.out (by simp [spec_l2Sum.l0])
  | succ k1 =>
   have H := HA.out
   clear HA
   simp only [spec_l2Sum.l0] at H
   by_cases c4 : x4_1 < (l0.length : Int)
   ·rw [if_pos c4] at H
    have c4b0 : decide (x4_1 < (l0.length : Int)) = true := decide_eq_true c4
    clear c4
    by_cases c5 : 0 ≤ x4_1
    ·rw [if_pos c5] at H
     have c5b0 : decide (0 ≤ x4_1) = true := decide_eq_true c5
     clear c5
     replace H := Option.bind_eq_some_iff.mp H
     obtain ⟨t381, A60, H⟩ := H
     replace H : (spec_l2Sum.l0 k1 l0 t381 (wrap64 (x4_1 + 1))) = some r := H
     have A6 := Aside0.mk A60
     clear A60
     have H' := Aside0.mk H
     clear H
     have p380 : 0 ≤ (x4_1 : Int) := of_decide_eq_true Q7
     have q380 : x4_1 < (l0.length : Int) := of_decide_eq_true Q7
     obtain ⟨ad380, e380, hx380_0, hx380_1, hx380_2, hx380_3, hx380_4⟩ := at_T38 HR0.out x4_1 p380 q380
     cases e380
     replace hx380_0 := (HB.out.cell (World.block_lt_of_cell? w _ hx380_0)).trans hx380_0
     replace hx380_1 := (HB.out.cell (World.block_lt_of_cell? w _ hx380_1)).trans hx380_1
     replace hx380_2 := (HB.out.cell (World.block_lt_of_cell? w _ hx380_2)).trans hx380_2
     replace hx380_3 := (HB.out.cell (World.block_lt_of_cell? w _ hx380_3)).trans hx380_3
     replace hx380_4 := (HB.out.cell (World.block_lt_of_cell? w _ hx380_4)).trans hx380_4
     replace p380 := eq_true p380
     replace q380 := eq_true q380
     obtain ⟨Ao7, co7, eo7⟩ := Kd.R_slice HO_3.out
     subst eo7
     go_wp2_with (first | ((with_reducible refine gate_callee (f := 88) rfl ?_); refine goesL_ (some 19) rfl rfl Try.func88 Q2 rfl #[.slice Ao7 x3_1.length co7, .agg #[.int .i64 ((rd_T38 l0 x4_1).f0), .int .i64 ((rd_T38 l0 x4_1).f1), .int .i64 ((rd_T38 l0 x4_1).f2.f0), .int .i64 ((rd_T38 l0 x4_1).f2.f1), .int .i64 ((rd_T38 l0 x4_1).f3)]] rfl Q39 ?_; (with_reducible refine (spec_l2Put.calls k1 _ _ x3_1 ((rd_T38 l0 x4_1).f0) ((rd_T38 l0 x4_1).f1) ((rd_T38 l0 x4_1).f2.f0) ((rd_T38 l0 x4_1).f2.f1) ((rd_T38 l0 x4_1).f3) t381 _ ?side1 ?side2 A6.out).mono ?_); (case side1 => exact (by repeat (first | exact (Kd.R_reads' HO_3.out).2.2 | (with_reducible refine Kd.C_alloc ?_ _) | (with_reducible refine Kd.C_drewN ?_ _) | (with_reducible refine Kd.C_drew ?_)))); (case side2 => exact (Kd.R_reads' HO_3.out).2.1); rintro e w8 ⟨v382, rfl, ho0, hb⟩; refine ⟨_, rfl, ?_⟩; have n0_ := Aside0.mk (Kd.R_elder' Q13 (Kd.R_base ho0) hb); have n1_ := Aside0.mk (Kd.R_lower (Kd.R_new' ho0 (Kd.R_lt Q13)) (below_size Q37)); have n2_ := Aside0.mk (below_step Q37 hb); clear HO_3; clear HB; have HO_3 := n0_; have HO383 := n1_; have HB := n2_; clear n0_ n1_ n2_; (try clear hb); (try clear hb2); (try clear hk); (try clear hi); (try clear ho0)))
     go_roundg k1
     case measure => have := HK1.out; omega
     case rel => exact ⟨(t381), (wrap64 (x4_1 + 1)), Q6, H', ⟨Q3⟩, ⟨by (with_reducible repeat (first | apply Kd.R_alloc | apply Kd.R_drewN | apply Kd.R_drew)); exact Kd.R_mono HO383.out (fun _ hk => trivial)⟩, ⟨Q37⟩⟩
    ·rw [if_neg c5] at H
     exact absurd H Q0
   ·rw [if_neg c4] at H
    have c4b0 : decide (x4_1 < (l0.length : Int)) = false := decide_eq_false c4
    clear c4
    obtain ⟨y384, hy_⟩ : ∃ y_ : List (S38), y_ = (([] : List (S38))) := ⟨_, rfl⟩
    replace H : (spec_l2Sum.l1 k1 x3_1 y384 0) = some r := Q78
    have Ny384 := Aside0.mk hy_
    clear hy_
    have H' := Aside0.mk H
    clear H
    go_wp2_with (first | ((with_reducible refine gate_dst (N := 20) rfl ?_); refine Kd.R_lit k38 _ 38 ?hg (N := 20) ?hd (xs := ([] : List (S38))) (inner := []) (ok := fun _ => True) (okp := fun _ => True) ?hr ?hp (fun _ hk => hk) trivial (Below.refl _ _) (Nat.le_refl _) Q0 ?_; (case hd => rfl); (case hg => rfl); (case hr => first | (go_simp; done) | (go_simp; rfl)); (case hp => exact (Reps.none _ _)); intro v385 w9 ho10 hb hg_ hnew_; clear hg_ hnew_; (first | rw [← Ny384.out] at ho10 | (simp only [Int.reduceToNat] at ho10; rw [← Ny384.out] at ho10)); have n0_ := Aside0.mk (Kd.R_elder' Q13 (Kd.R_base ho10) hb); have n1_ := Aside0.mk (Kd.R_lower (Kd.R_new' ho10 (Kd.R_lt Q13)) (below_size Q37)); have n2_ := Aside0.mk (below_step Q37 hb); clear HO_3; clear HB; have HO_3 := n0_; have HO386 := n1_; have HB := n2_; clear n0_ n1_ n2_; clear hb ho10))
    go_loopg [5, 6] k1 (fun kq v5 v6 w' => ∃ (x5_2 : List (S38)) (x6_2 : Int), v6 = .int .i64 x6_2 ∧ Aside0 (spec_l2Sum.l1 kq x3_1 x5_2 x6_2 = some r) ∧ Aside0 (kq ≤ k1) ∧ Aside0 (Kd.R k38 38 w' w.heap.size (fun k_ => some k_ ≠ (v5 : Value).ownBlock) u3 x3_1) ∧ Aside0 (Kd.R k38 38 w' w.heap.size (fun k_ => some k_ ≠ (u3 : Value).ownBlock) v5 x5_2) ∧ Aside0 (Below w.heap.size w w'))
    case atStart => exact ⟨(y384), (0), Q6, H', ⟨Nat.le_refl _⟩, ⟨by (with_reducible repeat (first | apply Kd.R_alloc | apply Kd.R_drewN | apply Kd.R_drew)); exact Kd.R_mono HO_3.out (fun _ hk => hk.2)⟩, ⟨by (with_reducible repeat (first | apply Kd.R_alloc | apply Kd.R_drewN | apply Kd.R_drew)); exact Kd.R_mono HO386.out (fun _ hk => hk.2)⟩, ⟨Q37⟩⟩
    case round =>
     clear H'
     try clear p2
     try clear p3
     try clear q3
     try clear hx3
     try clear c4
     try clear c4b0
     try clear c5
     try clear c5b0
     try clear p6
     try clear c8
     try clear hx380_0
     try clear hx380_1
     try clear hx380_2
     try clear hx380_3
     try clear hx380_4
     try clear p2
     try clear p380
     try clear q380
     obtain ⟨x5_2, x6_2, rfl, HA, HK2, HO_3, HO_5, HB⟩ := hrel
     cases gk with
     | zero => exact absurd HA.out (by simp [spec_l2Sum.l1])
     | succ k2 =>
      have H := HA.out
      clear HA
      simp only [spec_l2Sum.l1] at H
      by_cases c11 : x6_2 < (x3_1.length : Int)
      ·rw [if_pos c11] at H
       have c11b0 : decide (x6_2 < (x3_1.length : Int)) = true := decide_eq_true c11
       clear c11
       by_cases c12 : 0 ≤ x6_2
       ·rw [if_pos c12] at H
        have c12b0 : decide (0 ≤ x6_2) = true := decide_eq_true c12
        clear c12
        by_cases c13 : ((rd_T38 x3_1 x6_2).f3) = 0
        ·rw [if_pos c13] at H
         have c13b0 : (((rd_T38 x3_1 x6_2).f3) == 0) = true := beq_iff_eq.mpr c13
         have c13b1 : (((rd_T38 x3_1 x6_2).f3) != 0) = false := bne_eq_false_iff_eq.mpr c13
         clear c13
         have H' := Aside0.mk H
         clear H
         obtain ⟨Ao14, co14, eo14⟩ := Kd.R_slice HO_3.out
         subst eo14
         have p387 : 0 ≤ (x6_2 : Int) := of_decide_eq_true Q7
         have q387 : x6_2 < (x3_1.length : Int) := of_decide_eq_true Q7
         obtain ⟨ad387, e387, hx387_0, hx387_1, hx387_2, hx387_3, hx387_4⟩ := at_T38 (Kd.R_reads' HO_3.out).2.2 x6_2 p387 q387
         cases e387
         replace p387 := eq_true p387
         replace q387 := eq_true q387
         go_wp2
         go_roundg k2
         case measure => have := HK1.out; have := HK2.out; omega
         case rel => exact ⟨(x5_2), (wrap64 (x6_2 + 1)), Q6, H', ⟨by have := HK1.out; have := HK2.out; omega⟩, ⟨Q13⟩, ⟨Q12⟩, ⟨Q37⟩⟩
        ·rw [if_neg c13] at H
         have c13b0 : (((rd_T38 x3_1 x6_2).f3) == 0) = false := beq_eq_false_iff_ne.mpr c13
         have c13b1 : (((rd_T38 x3_1 x6_2).f3) != 0) = true := bne_iff_ne.mpr c13
         by_cases c15 : x5_2.length < 3518437208883
         ·rw [if_pos c15] at H
          have LMc15 := Aside0.mk c15
          clear c15
          obtain ⟨y389, hy_⟩ : ∃ y_ : List (S38), y_ = (x5_2 ++ [(⟨(rd_T38 x3_1 x6_2).f0, (rd_T38 x3_1 x6_2).f1, (⟨(rd_T38 x3_1 x6_2).f2.f0, (rd_T38 x3_1 x6_2).f2.f1⟩ : S36), (rd_T38 x3_1 x6_2).f3⟩ : S38)]) := ⟨_, rfl⟩
          replace H : (spec_l2Sum.l1 k2 x3_1 y389 (wrap64 (x6_2 + 1))) = some r := Q78
          have Ny389 := Aside0.mk hy_
          clear hy_
          have H' := Aside0.mk H
          clear H
          obtain ⟨Ao16, co16, eo16⟩ := Kd.R_slice HO_3.out
          subst eo16
          have p387 : 0 ≤ (x6_2 : Int) := of_decide_eq_true Q7
          have q387 : x6_2 < (x3_1.length : Int) := of_decide_eq_true Q7
          obtain ⟨ad387, e387, hx387_0, hx387_1, hx387_2, hx387_3, hx387_4⟩ := at_T38 (Kd.R_reads' HO_3.out).2.2 x6_2 p387 q387
          cases e387
          replace p387 := eq_true p387
          replace q387 := eq_true q387
          have p388 : 0 ≤ (x6_2 : Int) := of_decide_eq_true Q7
          have q388 : x6_2 < (x3_1.length : Int) := of_decide_eq_true Q7
          obtain ⟨ad388, e388, hx388_0, hx388_1, hx388_2, hx388_3, hx388_4⟩ := at_T38 (Kd.R_reads' HO_3.out).2.2 x6_2 p388 q388
          obtain rfl : ad387 = ad388 := (by injection e388)
          replace p388 := eq_true p388
          replace q388 := eq_true q388
          go_wp2_with (first | ((with_reducible refine gate_builtin (b := .append) (xs := #[.tmp 33, .tmp 38]) rfl ?_); at_builtin; refine Kd.R_append k38 (w0 := w) w.heap.size rfl (.tmp 33) (.tmp 38) 23 38 (.agg #[(.int .i64 0), (.int .i64 0), (.int .i64 0), (.int .i64 0), (.int .i64 0)]) 40 rfl Try.underlying23 info38 rfl Q1 (by omega) u5 x5_2 (⟨(rd_T38 x3_1 x6_2).f0, (rd_T38 x3_1 x6_2).f1, (⟨(rd_T38 x3_1 x6_2).f2.f0, (rd_T38 x3_1 x6_2).f2.f1⟩ : S36), (rd_T38 x3_1 x6_2).f3⟩ : S38) [.int .i64 ((rd_T38 x3_1 x6_2).f0), .int .i64 ((rd_T38 x3_1 x6_2).f1), .int .i64 ((rd_T38 x3_1 x6_2).f2.f0), .int .i64 ((rd_T38 x3_1 x6_2).f2.f1), .int .i64 ((rd_T38 x3_1 x6_2).f3)] (fun k_ => some k_ ≠ (.slice (some ad387) x3_1.length co16 : Value).ownBlock) (fun _ => False) rfl rfl ?aP (fun _ hk => hk.elim) ?aF ?aO ?aB ?aS ?aL ?_; (case aP => exact k38_mkM _ _ _ (⟨(rd_T38 x3_1 x6_2).f0, (rd_T38 x3_1 x6_2).f1, (⟨(rd_T38 x3_1 x6_2).f2.f0, (rd_T38 x3_1 x6_2).f2.f1⟩ : S36), (rd_T38 x3_1 x6_2).f3⟩ : S38)); (case aB => exact Q37); (case aF => exact (fun k_ hk => Kd.fresh' (Kd.R_lt Q13) k_ hk)); (case aO => exact Q12); (case aS => exact (below_size Q37)); (case aL => have := LMc15.out; omega); intro v390 w17 ho hb hg hat; rw [← Ny389.out] at ho; have n0_ := Aside0.mk (Kd.R_after (ok := (fun _ => True)) (by (with_reducible repeat (first | apply Kd.R_alloc | apply Kd.R_drewN | apply Kd.R_drew)); exact Kd.R_mono HO_3.out (fun _ hk => ⟨trivial, hk⟩)) hg hat); have n1_ := Aside0.mk (hb); have n2_ := Aside0.mk (ho); clear HO_3; clear HB; clear HO_5; have HO_3 := n0_; have HB := n1_; have HO391 := n2_; clear n0_ n1_ n2_; clear ho hb hg hat))
          go_roundg k2
          case measure => have := HK1.out; have := HK2.out; omega
          case rel => exact ⟨(y389), (wrap64 (x6_2 + 1)), Q6, H', ⟨by have := HK1.out; have := HK2.out; omega⟩, ⟨by (with_reducible repeat (first | apply Kd.R_alloc | apply Kd.R_drewN | apply Kd.R_drew)); exact Kd.R_mono HO_3.out (fun _ hk => hk.2)⟩, ⟨by (with_reducible repeat (first | apply Kd.R_alloc | apply Kd.R_drewN | apply Kd.R_drew)); exact HO391.out⟩, ⟨Q37⟩⟩
         ·rw [if_neg c15] at H
          exact absurd H Q0
       ·rw [if_neg c12] at H
        exact absurd H Q0
      ·rw [if_neg c11] at H
       have c11b0 : decide (x6_2 < (x3_1.length : Int)) = false := decide_eq_false c11
       clear c11
       obtain rfl := Option.some.inj H
       obtain ⟨Ao18, co18, eo18⟩ := Kd.R_slice HO_3.out
       subst eo18
       go_wp2
       go_ret
       exact ⟨_, Q10, by (with_reducible repeat (first | apply Kd.R_alloc | apply Kd.R_drewN | apply Kd.R_drew)); exact Kd.R_mono HO_5.out (fun _ hk => trivial), Q37⟩
def spec_BatchBoth.j0 : Nat → List (S38) → List (S38) → Bool → Option ((List (S38)))
 | 0, _, _, _ => none
 | k + 1, x0, x1, x12 => if x12 = true then (some (([] : List (S38)))) else ((some (([] : List (S38)) : List (S38))).bind fun y397 => (if y397.length + x0.length < 3518437208883 then ((some (y397 ++ x0 : List (S38))).bind fun y400 => (if y400.length + x1.length < 3518437208883 then ((spec_l2Sum.f k (y400 ++ x1)).bind fun t406 => ((spec_l2Fit.f k t406).bind fun t409 => (some t409))) else (none))) else (none)))
def spec_BatchBoth.f (k : Nat) (l0 : List (S38)) (l1 : List (S38)) : Option ((List (S38))) := (spec_RowsOk.f k l0).bind fun t392 => (if t392 = true then ((spec_RowsOk.f k l1).bind fun t393 => (spec_BatchBoth.j0 k l0 l1 (!t393))) else (spec_BatchBoth.j0 k l0 l1 true))
theorem spec_BatchBoth.mono_l : ∀ k, (∀ y0 y1 y2, LeO (spec_BatchBoth.j0 k y0 y1 y2) (spec_BatchBoth.j0 (k + 1) y0 y1 y2))
 | 0 => fun _ _ _ r h => by simp [spec_BatchBoth.j0] at h
 | k + 1 => by
  have ih0 := spec_BatchBoth.mono_l k
  ·intro y0 y1 y2
   unfold spec_BatchBoth.j0
   repeat' first
   | (with_reducible exact ih0 _ _ _)
   | (with_reducible exact spec_RowsOk.mono _ _)
   | (with_reducible exact spec_l2Fit.mono _ _)
   | (with_reducible exact spec_l2Sum.mono _ _)
   | (with_reducible exact LeO.refl _)
   | (with_reducible exact LeO.none _)
   | (with_reducible refine LeO.ite ?_ ?_)
   | (with_reducible refine LeO.bind ?_ (fun _ => ?_))
   | exact ih0 _ _ _
   | exact spec_RowsOk.mono _ _
   | exact spec_l2Fit.mono _ _
   | exact spec_l2Sum.mono _ _
   | exact LeO.none _
   | refine LeO.ite ?_ ?_
   | refine LeO.bind ?_ (fun _ => ?_)
theorem spec_BatchBoth.mono : ∀ a0 a1 k, LeO (spec_BatchBoth.f k a0 a1) (spec_BatchBoth.f (k + 1) a0 a1) := by
 intro a0 a1 k
 have ih0 := spec_BatchBoth.mono_l k
 unfold spec_BatchBoth.f
 repeat' first
   | (with_reducible exact ih0 _ _ _)
   | (with_reducible exact spec_RowsOk.mono _ _)
   | (with_reducible exact spec_l2Fit.mono _ _)
   | (with_reducible exact spec_l2Sum.mono _ _)
   | (with_reducible exact LeO.refl _)
   | (with_reducible exact LeO.none _)
   | (with_reducible refine LeO.ite ?_ ?_)
   | (with_reducible refine LeO.bind ?_ (fun _ => ?_))
   | exact ih0 _ _ _
   | exact spec_RowsOk.mono _ _
   | exact spec_l2Fit.mono _ _
   | exact spec_l2Sum.mono _ _
   | exact LeO.none _
   | refine LeO.ite ?_ ?_
   | refine LeO.bind ?_ (fun _ => ?_)
set_option maxHeartbeats 8000000 in
set_option maxRecDepth 100000 in
theorem spec_BatchBoth.calls (k : Nat) (A0 : Option Addr) (c0 : Nat) (l0 : List (S38)) (A1 : Option Addr) (c1 : Nat) (l1 : List (S38)) (r : List (S38)) (w : World) (hr0 : Kd.C k38 w A0 l0.length l0) (hc0 : l0.length ≤ c0) (hr1 : Kd.C k38 w A1 l1.length l1) (hc1 : l1.length ≤ c1) (h : spec_BatchBoth.f k l0 l1 = some r) :
  Calls Try.prog 29 #[.slice A0 l0.length c0, .slice A1 l1.length c1] w fun e w' => ∃ v0_ : Value, e = .returned (v0_) ∧ Kd.R k38 38 w' w.heap.size (fun _ => True) v0_ r ∧ Below w.heap.size w w' := by
 have HR0 := Aside0.mk hr0
 have HC0 := Aside0.mk hc0
 clear hr0 hc0
 have HR1 := Aside0.mk hr1
 have HC1 := Aside0.mk hc1
 clear hr1 hc1
 have HB := Aside0.mk (Below.refl w.heap.size w)
 have H : ((spec_RowsOk.f k l0).bind fun t392 => (if t392 = true then ((spec_RowsOk.f k l1).bind fun t393 => (spec_BatchBoth.j0 k l0 l1 (!t393))) else (spec_BatchBoth.j0 k l0 l1 true))) = some r := h
 clear h
 have HC3 := Aside0.mk H
 clear H
 go_enter Try.func29, Try.ntmps29
 go_upto_region 1 with (fail)
 go_cut [12] (fun v12 wc => ∃ (kq : Nat) (x12_2 : Bool), v12 = .bool x12_2 ∧ Aside0 (spec_BatchBoth.j0 kq l0 l1 x12_2 = some r) ∧ Aside0 (kq ≤ k) ∧ Aside0 (Below w.heap.size w wc))
 case first =>
  have H := HC3.out
  clear HC3
  replace H := Option.bind_eq_some_iff.mp H
  obtain ⟨t392, A40, H⟩ := H
  replace H : (if t392 = true then ((spec_RowsOk.f k l1).bind fun t393 => (spec_BatchBoth.j0 k l0 l1 (!t393))) else (spec_BatchBoth.j0 k l0 l1 true)) = some r := H
  have A4 := Aside0.mk A40
  clear A40
  by_cases c5 : t392 = true
  ·subst c5
   have H1 : ((spec_RowsOk.f k l1).bind fun t393 => (spec_BatchBoth.j0 k l0 l1 (!t393))) = some r := by rw [if_pos rfl] at H; exact H
   clear H
   have H := H1
   clear H1
   replace H := Option.bind_eq_some_iff.mp H
   obtain ⟨t393, A60, H⟩ := H
   replace H : (spec_BatchBoth.j0 k l0 l1 (!t393)) = some r := H
   have A6 := Aside0.mk A60
   clear A60
   have H' := Aside0.mk H
   clear H
   go_wp2_with (first | ((with_reducible refine gate_callee (f := 20) rfl ?_); refine goesL_ (some 6) rfl rfl Try.func20 Q2 rfl #[.slice A0 l0.length c0] rfl Q39 ?_; (with_reducible refine (spec_RowsOk.calls k _ _ l0 true _ ?side1 ?side2 A4.out).mono ?_); (case side1 => exact Q54); (case side2 => exact HC0.out); rintro e w7 ⟨rfl, hb⟩; refine ⟨_, rfl, ?_⟩; have n0_ := Aside0.mk (below_step Q37 hb); clear HB; have HB := n0_; clear n0_; (try clear hb); (try clear hb2); (try clear hk); (try clear hi)) | (go_at_call 20; (with_reducible refine (spec_RowsOk.calls k _ _ l1 t393 _ ?side1 ?side2 A6.out).mono ?_); (case side1 => exact Q55); (case side2 => exact HC1.out); rintro e w8 ⟨rfl, hb⟩; have n0_ := Aside0.mk (below_step Q37 hb); clear HB; have HB := n0_; clear n0_; (try clear hb); (try clear hb2); (try clear hk); (try clear hi)))
   go_meet
   case rel => exact ⟨_, (!t393), Q6, H', ⟨Q4⟩, ⟨Q37⟩⟩
  ·replace c5 := Bool.eq_false_iff.mpr c5
   subst c5
   have H1 : (spec_BatchBoth.j0 k l0 l1 true) = some r := by rw [if_neg (show ¬ (false = true) by decide)] at H; exact H
   clear H
   have H := H1
   clear H1
   have H' := Aside0.mk H
   clear H
   go_wp2_with (first | ((with_reducible refine gate_callee (f := 20) rfl ?_); refine goesL_ (some 6) rfl rfl Try.func20 Q2 rfl #[.slice A0 l0.length c0] rfl Q39 ?_; (with_reducible refine (spec_RowsOk.calls k _ _ l0 false _ ?side1 ?side2 A4.out).mono ?_); (case side1 => exact Q54); (case side2 => exact HC0.out); rintro e w9 ⟨rfl, hb⟩; refine ⟨_, rfl, ?_⟩; have n0_ := Aside0.mk (below_step Q37 hb); clear HB; have HB := n0_; clear n0_; (try clear hb); (try clear hb2); (try clear hk); (try clear hi)))
   go_meet
   case rel => exact ⟨_, (true), Q6, H', ⟨Q4⟩, ⟨Q37⟩⟩
 case rest =>
  clear HC3
  try clear c1
  try clear c2
  try clear p2
  try clear c5
  obtain ⟨kq, x12_2, rfl, HA, HJ2, HB⟩ := hcut
  cases kq with
  | zero => exact absurd HA.out (by simp [spec_BatchBoth.j0])
  | succ kj2 =>
   have H := HA.out
   clear HA
   simp only [spec_BatchBoth.j0] at H
   by_cases c10 : x12_2 = true
   ·subst c10
    have H1 : (some (([] : List (S38)))) = some r := by rw [if_pos rfl] at H; exact H
    clear H
    have H := H1
    clear H1
    obtain ⟨y394, hy_⟩ : ∃ y_ : List (S38), y_ = (([] : List (S38))) := ⟨_, rfl⟩
    replace H : (some y394) = some r := Q78
    have Ny394 := Aside0.mk hy_
    clear hy_
    obtain rfl := Option.some.inj H
    go_wp2_with (first | ((with_reducible refine gate_dst (N := 13) rfl ?_); refine Kd.R_lit k38 _ 38 ?hg (N := 13) ?hd (xs := ([] : List (S38))) (inner := []) (ok := fun _ => True) (okp := fun _ => True) ?hr ?hp (fun _ hk => hk) trivial (Below.refl _ _) (Nat.le_refl _) Q0 ?_; (case hd => rfl); (case hg => rfl); (case hr => first | (go_simp; done) | (go_simp; rfl)); (case hp => exact (Reps.none _ _)); intro v395 w11 ho12 hb hg_ hnew_; clear hg_ hnew_; (first | rw [← Ny394.out] at ho12 | (simp only [Int.reduceToNat] at ho12; rw [← Ny394.out] at ho12)); have n0_ := Aside0.mk (Kd.R_lower ho12 (below_size Q37)); have n1_ := Aside0.mk (below_step Q37 hb); clear HB; have HO396 := n0_; have HB := n1_; clear n0_ n1_; clear hb ho12))
    go_ret
    exact ⟨_, Q10, by (with_reducible repeat (first | apply Kd.R_alloc | apply Kd.R_drewN | apply Kd.R_drew)); exact HO396.out, Q37⟩
   ·replace c10 := Bool.eq_false_iff.mpr c10
    subst c10
    have H1 : ((some (([] : List (S38)) : List (S38))).bind fun y397 => (if y397.length + l0.length < 3518437208883 then ((some (y397 ++ l0 : List (S38))).bind fun y400 => (if y400.length + l1.length < 3518437208883 then ((spec_l2Sum.f kj2 (y400 ++ l1)).bind fun t406 => ((spec_l2Fit.f kj2 t406).bind fun t409 => (some t409))) else (none))) else (none))) = some r := by rw [if_neg (show ¬ (false = true) by decide)] at H; exact H
    clear H
    have H := H1
    clear H1
    obtain ⟨y397, hy_⟩ : ∃ y_ : List (S38), y_ = (([] : List (S38))) := ⟨_, rfl⟩
    replace H : (if y397.length + l0.length < 3518437208883 then ((some (y397 ++ l0 : List (S38))).bind fun y400 => (if y400.length + l1.length < 3518437208883 then ((spec_l2Sum.f kj2 (y400 ++ l1)).bind fun t406 => ((spec_l2Fit.f kj2 t406).bind fun t409 => (some t409))) else (none))) else (none)) = some r := Q78
    have Ny397 := Aside0.mk hy_
    clear hy_
    by_cases c13 : y397.length + l0.length < 3518437208883
    ·rw [if_pos c13] at H
     have LMc13 := Aside0.mk c13
     clear c13
     obtain ⟨y400, hy_⟩ : ∃ y_ : List (S38), y_ = (y397 ++ l0) := ⟨_, rfl⟩
     replace H : (if y400.length + l1.length < 3518437208883 then ((spec_l2Sum.f kj2 (y400 ++ l1)).bind fun t406 => ((spec_l2Fit.f kj2 t406).bind fun t409 => (some t409))) else (none)) = some r := Q78
     have Ny400 := Aside0.mk hy_
     clear hy_
     by_cases c14 : y400.length + l1.length < 3518437208883
     ·rw [if_pos c14] at H
      have LMc14 := Aside0.mk c14
      clear c14
      obtain ⟨y403, hy_⟩ : ∃ y_ : List (S38), y_ = (y400 ++ l1) := ⟨_, rfl⟩
      replace H : ((spec_l2Sum.f kj2 y403).bind fun t406 => ((spec_l2Fit.f kj2 t406).bind fun t409 => (some t409))) = some r := Q78
      have Ny403 := Aside0.mk hy_
      clear hy_
      replace H := Option.bind_eq_some_iff.mp H
      obtain ⟨t406, A150, H⟩ := H
      replace H : ((spec_l2Fit.f kj2 t406).bind fun t409 => (some t409)) = some r := H
      have A15 := Aside0.mk A150
      clear A150
      replace H := Option.bind_eq_some_iff.mp H
      obtain ⟨t409, A160, H⟩ := H
      replace H : (some t409) = some r := H
      have A16 := Aside0.mk A160
      clear A160
      obtain rfl := Option.some.inj H
      go_wp2_with (first | ((with_reducible refine gate_dst (N := 14) rfl ?_); refine Kd.R_lit k38 _ 38 ?hg (N := 14) ?hd (xs := ([] : List (S38))) (inner := []) (ok := fun _ => True) (okp := fun _ => True) ?hr ?hp (fun _ hk => hk) trivial (Below.refl _ _) (Nat.le_refl _) Q0 ?_; (case hd => rfl); (case hg => rfl); (case hr => first | (go_simp; done) | (go_simp; rfl)); (case hp => exact (Reps.none _ _)); intro v398 w17 ho18 hb hg_ hnew_; clear hg_ hnew_; (first | rw [← Ny397.out] at ho18 | (simp only [Int.reduceToNat] at ho18; rw [← Ny397.out] at ho18)); have n0_ := Aside0.mk (Kd.R_lower ho18 (below_size Q37)); have n1_ := Aside0.mk (below_step Q37 hb); clear HB; have HO399 := n0_; have HB := n1_; clear n0_ n1_; clear hb ho18) | ((with_reducible refine gate_builtin (b := .append) (xs := #[.tmp 14, .tmp 15]) rfl ?_); at_builtin; refine Kd.R_append_rows k38 (w0 := w) w.heap.size rfl (.tmp 14) (.tmp 15) 23 38 (.agg #[(.int .i64 0), (.int .i64 0), (.int .i64 0), (.int .i64 0), (.int .i64 0)]) 40 rfl Try.underlying23 info38 rfl Q1 (by omega) v398 y397 l0 _ _ _ (fun _ => True) (fun _ => False) rfl rfl ?aO ?aR (fun _ _ h => h) (fun _ h => h.elim) ?aF ?aB ?aS ?aL ?_; (case aR => exact Q54); (case aB => exact Q37); (case aF => exact (fun _ _ => trivial)); (case aO => exact (by (with_reducible repeat (first | apply Kd.R_alloc | apply Kd.R_drewN | apply Kd.R_drew)); exact HO399.out)); (case aS => exact (below_size Q37)); (case aL => have := LMc13.out; omega); intro v401 w19 ho hb hg hat; rw [← Ny400.out] at ho; have n0_ := Aside0.mk (hb); have n1_ := Aside0.mk (ho); clear HB; clear HO399; have HB := n0_; have HO402 := n1_; clear n0_ n1_; clear ho hb hg hat) | ((with_reducible refine gate_builtin (b := .append) (xs := #[.tmp 16, .tmp 17]) rfl ?_); at_builtin; refine Kd.R_append_rows k38 (w0 := w) w.heap.size rfl (.tmp 16) (.tmp 17) 23 38 (.agg #[(.int .i64 0), (.int .i64 0), (.int .i64 0), (.int .i64 0), (.int .i64 0)]) 40 rfl Try.underlying23 info38 rfl Q1 (by omega) v401 y400 l1 _ _ _ (fun _ => True) (fun _ => False) rfl rfl ?aO ?aR (fun _ _ h => h) (fun _ h => h.elim) ?aF ?aB ?aS ?aL ?_; (case aR => exact Q55); (case aB => exact Q37); (case aF => exact (fun _ _ => trivial)); (case aO => exact (by (with_reducible repeat (first | apply Kd.R_alloc | apply Kd.R_drewN | apply Kd.R_drew)); exact HO402.out)); (case aS => exact (below_size Q37)); (case aL => have := LMc14.out; omega); intro v404 w20 ho hb hg hat; rw [← Ny403.out] at ho; have n0_ := Aside0.mk (hb); have n1_ := Aside0.mk (ho); clear HB; clear HO402; have HB := n0_; have HO405 := n1_; clear n0_ n1_; clear ho hb hg hat; obtain ⟨Ao21, co21, eo21⟩ := Kd.R_slice HO405.out; subst eo21) | ((with_reducible refine gate_callee (f := 58) rfl ?_); refine goesL_ (some 19) rfl rfl Try.func58 Q2 rfl #[.slice Ao21 y403.length co21] rfl Q39 ?_; (with_reducible refine (spec_l2Sum.calls kj2 _ _ y403 t406 _ ?side1 ?side2 A15.out).mono ?_); (case side1 => exact (by repeat (first | exact (Kd.R_reads' HO405.out).2.2 | (with_reducible refine Kd.C_alloc ?_ _) | (with_reducible refine Kd.C_drewN ?_ _) | (with_reducible refine Kd.C_drew ?_)))); (case side2 => exact (Kd.R_reads' HO405.out).2.1); rintro e w22 ⟨v407, rfl, ho0, hb⟩; refine ⟨_, rfl, ?_⟩; have n0_ := Aside0.mk (Kd.R_elder' Q19 (Kd.R_base ho0) hb); have n1_ := Aside0.mk (Kd.R_lower (Kd.R_new' ho0 (Kd.R_lt Q19)) (below_size Q37)); have n2_ := Aside0.mk (below_step Q37 hb); clear HO405; clear HB; have HO405 := n0_; have HO408 := n1_; have HB := n2_; clear n0_ n1_ n2_; (try clear hb); (try clear hb2); (try clear hk); (try clear hi); (try clear ho0); obtain ⟨Ao23, co23, eo23⟩ := Kd.R_slice HO408.out; subst eo23) | ((with_reducible refine gate_callee (f := 57) rfl ?_); refine goesL_ (some 20) rfl rfl Try.func57 Q2 rfl #[.slice Ao23 t406.length co23] rfl Q39 ?_; (with_reducible refine (spec_l2Fit.calls kj2 (fun k_ => some k_ = (.slice Ao23 t406.length co23 : Value).ownBlock) (.slice Ao23 t406.length co23) t406 t409 w _ ?side1 ?side2 A16.out).mono ?_); (case side1 => exact Q37); (case side2 => exact Kd.R_tight rfl HO408.out); rintro e w24 ⟨v410, rfl, ho0, hb, hkp⟩; refine ⟨_, rfl, ?_⟩; have n0_ := Aside0.mk (Kd.R_mono (ok' := fun k_ => some k_ ≠ (v410 : Value).ownBlock) (Kd.R_keptB (HO405.out) hkp (fun k_ hk_ hs_ => (hk_.2) hs_)) (fun k_ hk_ => fun e_ => Or.elim (ho0.1 k_ e_.symm) (fun hs_ => hk_.2.1 hs_) (fun hn_ => Nat.not_le.2 hk_.2.2 hn_))); have n1_ := Aside0.mk (Kd.R_mono (ok' := fun k_ => some k_ ≠ (.slice Ao21 y403.length co21 : Value).ownBlock) ho0 (fun k_ hk_ => Or.elim hk_ (fun hs_ => fun e_ => (((HO405.out).1 k_ e_.symm).2) hs_) (fun hn_ => (Kd.fresh' (Kd.R_lt Q19) k_ hn_)))); have n2_ := Aside0.mk (hb); clear HO405; clear HB; clear HO408; have HO405 := n0_; have HO411 := n1_; have HB := n2_; clear n0_ n1_ n2_; (try clear hb); (try clear hkp); (try clear ho0)))
      go_ret
      exact ⟨_, Q10, by (with_reducible repeat (first | apply Kd.R_alloc | apply Kd.R_drewN | apply Kd.R_drew)); exact Kd.R_mono HO411.out (fun _ hk => trivial), Q37⟩
     ·rw [if_neg c14] at H
      exact absurd H Q0
    ·rw [if_neg c13] at H
     exact absurd H Q0
noncomputable def laws_FnBatchTurn.f (k : Nat) (l0 : List Int) : Option (Bool) := if (l0.length : Int) > 1048576 then (some true) else ((spec_DrawBatchBoth.f k l0).bind fun bt412 => ((impl_BatchBoth.f k bt412.1 bt412.2).bind fun t418 => ((spec_BatchBoth.f k bt412.1 bt412.2).bind fun t421 => ((laws_lwRows.f k t418 t421).bind fun t424 => (if t424 = true then ((impl_BatchBoth.f k bt412.2 bt412.1).bind fun t425 => ((laws_lwRows.f k t425 t418).bind fun t428 => (if t428 = true then ((impl_BatchBoth.f k bt412.1 ([] : List (S38))).bind fun t429 => ((impl_BatchOf.f k bt412.1).bind fun t432 => ((laws_lwRows.f k t429 t432).bind fun t435 => (some t435)))) else (some false)))) else (some false))))))
theorem laws_FnBatchTurn.mono : ∀ a0 k, LeO (laws_FnBatchTurn.f k a0) (laws_FnBatchTurn.f (k + 1) a0) := by
 intro a0 k
 unfold laws_FnBatchTurn.f
 repeat' first
   | (with_reducible exact impl_BatchBoth.mono _ _ _)
   | (with_reducible exact impl_BatchOf.mono _ _)
   | (with_reducible exact laws_lwRows.mono _ _ _)
   | (with_reducible exact spec_BatchBoth.mono _ _ _)
   | (with_reducible exact spec_DrawBatchBoth.mono _ _)
   | (with_reducible exact LeO.refl _)
   | (with_reducible exact LeO.none _)
   | (with_reducible refine LeO.ite ?_ ?_)
   | (with_reducible refine LeO.bind ?_ (fun _ => ?_))
   | exact impl_BatchBoth.mono _ _ _
   | exact impl_BatchOf.mono _ _
   | exact laws_lwRows.mono _ _ _
   | exact spec_BatchBoth.mono _ _ _
   | exact spec_DrawBatchBoth.mono _ _
   | exact LeO.none _
   | refine LeO.ite ?_ ?_
   | refine LeO.bind ?_ (fun _ => ?_)
end Go.Proofs.Ytjlkffmdmifahaa.PFnBatchTurn
