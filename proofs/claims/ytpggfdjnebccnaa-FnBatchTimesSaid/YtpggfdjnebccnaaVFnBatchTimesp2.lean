/- Functions that the law comes to: each as a plain Lean function, with the contract of the Go function. -/
import Derived.Test.YtpggfdjnebccnaaVFnBatchTimesw
import Derived.Test.YtpggfdjnebccnaaVFnBatchTimesp0
import Derived.Test.YtpggfdjnebccnaaVFnBatchTimesp1
import Derived.Test.YtpggfdjnebccnaaVFnBatchTimesg2
namespace Go.Proofs.Ytpggfdjnebccnaa.PFnBatchTimes
open Go.RowKit Go.Proofs.YtpggfdjnebccnaaW.PrintWords Go.Proofs.YtpggfdjnebccnaaW.PrintLast Go.Proofs.YtpggfdjnebccnaaW.PrintMore
attribute [local go_sem] max2_int min2_int max_two min_two max_three min_three max_four min_four
set_option linter.unusedVariables false
set_option linter.unusedSimpArgs false
attribute [local go_sem high] eqA36
set_option maxHeartbeats 8000000 in
set_option maxRecDepth 100000 in
theorem spec_l71Row.calls (k : Nat) (g : Nat) (s0_0 : List Int) (s0_1 : Int) (r1 : Int) (r2 : Int) (r3 : Int) (r4 : Int) (r5 : Int) (r6 : Int) (w0 w : World) (hI : IsS112 w0 w g s0_0 s0_1) (hB : Below w0.heap.size w0 w) (h : spec_l71Row.f k s0_0 s0_1 = some (r1, r2, r3, r4, r5, r6)) :
  Calls Try.prog 125 #[.pointer (some ⟨g, 0, none⟩)] w fun e w' => e = .returned (.agg #[.int .i64 r1, .int .i64 r2, .int .i64 r3, .int .i64 r4, .int .i64 r5]) ∧ IsS112 w0 w' g s0_0 r6 ∧ Below w0.heap.size w0 w' ∧ KeepBut w w' g none := by
 have hu90 := Try.underlying90
 have HI0 := Aside0.mk hI
 have HK := am (KeepBut.refl w g none)
 have HL := Aside0.mk hB.size
 clear hI
 have HW0 := Aside0.mk hB.size
 have HB := Aside0.mk hB
 clear hB
 have H : ((spec_l6Rd_pick.f k s0_0 s0_1 4).bind fun bt167 => ((some (([0, 1, 2, 3, 4, 9, 10, 57, 99] : List Int) : List Int)).bind fun y169 => ((spec_l6Rd_pick.f k s0_0 bt167.2 9).bind fun bt172 => (if 0 ≤ bt172.1 then (if bt172.1 < (y169.length : Int) then ((spec_l71Time.f k s0_0 bt172.2).bind fun bt175 => ((some (([1, 1, 1, 2, (-1), (-1), 3, 0] : List Int) : List Int)).bind fun y178 => ((spec_l6Rd_pick.f k s0_0 bt175.2.2 8).bind fun bt181 => (if 0 ≤ bt181.1 then (if bt181.1 < (y178.length : Int) then (some (bt167.1, rd y169 bt172.1, bt175.1, bt175.2.1, rd y178 bt181.1, bt181.2)) else (none)) else (none))))) else (none)) else (none))))) = some (r1, r2, r3, r4, r5, r6) := h
 clear h
 replace H := Option.bind_eq_some_iff.mp H
 obtain ⟨⟨t167, t168⟩, A20, H⟩ := H
 replace H : ((some (([0, 1, 2, 3, 4, 9, 10, 57, 99] : List Int) : List Int)).bind fun y169 => ((spec_l6Rd_pick.f k s0_0 t168 9).bind fun bt172 => (if 0 ≤ bt172.1 then (if bt172.1 < (y169.length : Int) then ((spec_l71Time.f k s0_0 bt172.2).bind fun bt175 => ((some (([1, 1, 1, 2, (-1), (-1), 3, 0] : List Int) : List Int)).bind fun y178 => ((spec_l6Rd_pick.f k s0_0 bt175.2.2 8).bind fun bt181 => (if 0 ≤ bt181.1 then (if bt181.1 < (y178.length : Int) then (some (t167, rd y169 bt172.1, bt175.1, bt175.2.1, rd y178 bt181.1, bt181.2)) else (none)) else (none))))) else (none)) else (none)))) = some (r1, r2, r3, r4, r5, r6) := H
 have A2 := Aside0.mk A20
 clear A20
 obtain ⟨y169, hy_⟩ : ∃ y_ : List Int, y_ = (([0, 1, 2, 3, 4, 9, 10, 57, 99] : List Int)) := ⟨_, rfl⟩
 replace H : ((spec_l6Rd_pick.f k s0_0 t168 9).bind fun bt172 => (if 0 ≤ bt172.1 then (if bt172.1 < (y169.length : Int) then ((spec_l71Time.f k s0_0 bt172.2).bind fun bt175 => ((some (([1, 1, 1, 2, (-1), (-1), 3, 0] : List Int) : List Int)).bind fun y178 => ((spec_l6Rd_pick.f k s0_0 bt175.2.2 8).bind fun bt181 => (if 0 ≤ bt181.1 then (if bt181.1 < (y178.length : Int) then (some (t167, rd y169 bt172.1, bt175.1, bt175.2.1, rd y178 bt181.1, bt181.2)) else (none)) else (none))))) else (none)) else (none))) = some (r1, r2, r3, r4, r5, r6) := Q74
 have Ny169 := Aside0.mk hy_
 clear hy_
 replace H := Option.bind_eq_some_iff.mp H
 obtain ⟨⟨t172, t173⟩, A30, H⟩ := H
 replace H : (if 0 ≤ t172 then (if t172 < (y169.length : Int) then ((spec_l71Time.f k s0_0 t173).bind fun bt175 => ((some (([1, 1, 1, 2, (-1), (-1), 3, 0] : List Int) : List Int)).bind fun y178 => ((spec_l6Rd_pick.f k s0_0 bt175.2.2 8).bind fun bt181 => (if 0 ≤ bt181.1 then (if bt181.1 < (y178.length : Int) then (some (t167, rd y169 t172, bt175.1, bt175.2.1, rd y178 bt181.1, bt181.2)) else (none)) else (none))))) else (none)) else (none)) = some (r1, r2, r3, r4, r5, r6) := H
 have A3 := Aside0.mk A30
 clear A30
 have c4 : 0 ≤ t172 := nn_ H
 rw [if_pos c4] at H
 have c4b0 : decide (0 ≤ t172) = true := decide_eq_true c4
 clear c4
 have c5 : t172 < (y169.length : Int) := nn_ H
 rw [if_pos c5] at H
 have c5b0 : decide (t172 < (y169.length : Int)) = true := decide_eq_true c5
 clear c5
 replace H := Option.bind_eq_some_iff.mp H
 obtain ⟨⟨t175, t176, t177⟩, A60, H⟩ := H
 replace H : ((some (([1, 1, 1, 2, (-1), (-1), 3, 0] : List Int) : List Int)).bind fun y178 => ((spec_l6Rd_pick.f k s0_0 t177 8).bind fun bt181 => (if 0 ≤ bt181.1 then (if bt181.1 < (y178.length : Int) then (some (t167, rd y169 t172, t175, t176, rd y178 bt181.1, bt181.2)) else (none)) else (none)))) = some (r1, r2, r3, r4, r5, r6) := H
 have A6 := Aside0.mk A60
 clear A60
 obtain ⟨y178, hy_⟩ : ∃ y_ : List Int, y_ = (([1, 1, 1, 2, (-1), (-1), 3, 0] : List Int)) := ⟨_, rfl⟩
 replace H : ((spec_l6Rd_pick.f k s0_0 t177 8).bind fun bt181 => (if 0 ≤ bt181.1 then (if bt181.1 < (y178.length : Int) then (some (t167, rd y169 t172, t175, t176, rd y178 bt181.1, bt181.2)) else (none)) else (none))) = some (r1, r2, r3, r4, r5, r6) := Q74
 have Ny178 := Aside0.mk hy_
 clear hy_
 replace H := Option.bind_eq_some_iff.mp H
 obtain ⟨⟨t181, t182⟩, A70, H⟩ := H
 replace H : (if 0 ≤ t181 then (if t181 < (y178.length : Int) then (some (t167, rd y169 t172, t175, t176, rd y178 t181, t182)) else (none)) else (none)) = some (r1, r2, r3, r4, r5, r6) := H
 have A7 := Aside0.mk A70
 clear A70
 have c8 : 0 ≤ t181 := nn_ H
 rw [if_pos c8] at H
 have c8b0 : decide (0 ≤ t181) = true := decide_eq_true c8
 clear c8
 have c9 : t181 < (y178.length : Int) := nn_ H
 rw [if_pos c9] at H
 have c9b0 : decide (t181 < (y178.length : Int)) = true := decide_eq_true c9
 clear c9
 simp only [Option.some.injEq, Prod.mk.injEq] at H
 obtain ⟨rfl, rfl, rfl, rfl, rfl, rfl⟩ := H
 go_enter Try.func125, Try.ntmps125
 try go_wp2_with (first | ((with_reducible refine gate_dst (N := 2) rfl ?_); refine bE_ 2 #[.int .i64 0, .int .i64 0, .int .i64 0, .int .i64 0, .int .i64 0] 90 ?_; intro gb166 hg w10 hbox hb; replace HB := am (below_step Q55 hb); have BK166 := am (hbox); have GW166 := am ((Q83 : w.heap.size ≤ gb166)); have GE166 := am ((Nat.le_trans HW0.out (Q83 : w.heap.size ≤ gb166) : w0.heap.size ≤ gb166)); replace HK := am (KeepBut.trans Q39 (KeepBut.of_below hb g none) (.inl rfl)); have NB0_166 := am ((by rw [hg]; exact Nat.ne_of_lt (IsS112.lt (show IsS112 w0 _ g s0_0 s0_1 from by repeat (first | (with_reducible first | exact HI0.out | apply IsS112.alloc | apply IsS112.drewN | apply IsS112.drew | apply IsS112.set_1) | exact HI0.out))) : g ≠ gb166)); have NB166_0 := am ((by rw [hg]; exact Nat.ne_of_gt (IsS112.lt (show IsS112 w0 _ g s0_0 s0_1 from by repeat (first | (with_reducible first | exact HI0.out | apply IsS112.alloc | apply IsS112.drewN | apply IsS112.drew | apply IsS112.set_1) | exact HI0.out))) : gb166 ≠ g)); replace HI0 := am (IsS112.below Q40 hb); clear hb hbox hg))
 have pi174 : (0 ≤ (t172 : Int)) = True := eq_true (of_decide_eq_true Q5)
 have qi174 : (t172 < (y169.length : Int)) = True := eq_true (of_decide_eq_true Q5)
 have pi183 : (0 ≤ (t181 : Int)) = True := eq_true (of_decide_eq_true Q5)
 have qi183 : (t181 < (y178.length : Int)) = True := eq_true (of_decide_eq_true Q5)
 replace BK166 := am (blk_drew BK166.out)
 replace HI0 := am (IsS112.drew HI0.out)
 replace HK := am (keep_drew HK.out)
 replace HB := am (below_drew1 HB.out)
 refine start_ (n := 16) (S := fun w' => True) (ds := []) b16_0 Q1 rfl rfl trivial (fun hHeld => ?_); refine with_tabW spec_l71Row.tab1 spec_l71Row.bits1 (fun HT_ HW_ => ?_)
 generalize w10.drew = w11 at BK166 HI0 HK HB hHeld ⊢
 refine pU_ 0 3 b16_1 ?_
 refine pU_ 3 6 c34 ?_
 refine pU_ 7 10 c35 ?_
 refine pU_ 10 13 c36 ?_
 refine inv_at [1, 2, 4, 5, 6, 8, 9, 11, 12, 13, 14, 15] (fun a0_ b a w' => ∃ (v170 : Value) (adz_v170 : Addr) (v179 : Value) (adz_v179 : Addr) (m5_ : Value) (m12_ : Value), a = putSel a0_ b [(1, 4, .int .i64 t167), (2, 5, v170), (4, 7, .int .i64 t172), (5, 8, m5_), (6, 9, .int .i64 (rd y169 t172)), (8, 11, .agg #[.int .i64 t175, .int .i64 t176]), (9, 12, v179), (11, 14, .int .i64 t181), (12, 15, m12_), (13, 16, .int .i64 (rd y178 t181)), (14, 17, .agg #[.int .i64 t167, .int .i64 (rd y169 t172), .int .i64 t175, .int .i64 t176, .int .i64 (rd y178 t181)])] ∧ (b 15 = false → w'.heap[gb166]? = some (.cells #[.int .i64 0, .int .i64 0, .int .i64 0, .int .i64 0, .int .i64 0] 90 (0, 0))) ∧ (b 1 = false → IsS112 w0 w' g s0_0 s0_1) ∧ (KeepBut w w' g none) ∧ (Below w0.heap.size w0 w') ∧ (b 1 = true → b 4 = false → IsS112 w0 w' g s0_0 t168) ∧ (b 2 = true → Kd.R (Kd.int .i64) 3 w' w.heap.size (fun _ => True) v170 y169) ∧ (b 2 = true → ∃ c_, (v170 : Value) = .slice (some adz_v170) y169.length c_) ∧ (b 4 = true → b 8 = false → IsS112 w0 w' g s0_0 t173) ∧ (b 8 = true → b 11 = false → IsS112 w0 w' g s0_0 t177) ∧ (b 9 = true → Kd.R (Kd.int .i64) 3 w' w.heap.size (fun _ => True) v179 y178) ∧ (b 9 = true → ∃ c_, (v179 : Value) = .slice (some adz_v179) y178.length c_) ∧ (b 11 = true → IsS112 w0 w' g s0_0 t182) ∧ (b 15 = true → w'.heap[gb166]? = some (.cells #[.int .i64 t167, .int .i64 (rd y169 t172), .int .i64 t175, .int .i64 t176, .int .i64 (rd y178 t181)] 90 (0, 0))) ∧ (b 5 = true → (m5_ : Value) = .pointer (some (adz_v170.add (t172).toNat))) ∧ (b 12 = true → (m12_ : Value) = .pointer (some (adz_v179.add (t181).toNat)))) HT_.out HW_.out Q1 Q1 ?_ ?_ ?_
 ·exact ⟨.bool false, ⟨0, 0, none⟩, .bool false, ⟨0, 0, none⟩, .bool false, .bool false, by simp only [putSel, Bool.false_eq_true, if_false], fun _ => BK166.out, fun _ => HI0.out, HK.out, HB.out, fun h_ => absurd h_ Q0, fun h_ => absurd h_ Q0, fun h_ => absurd h_ Q0, fun h_ => absurd h_ Q0, fun h_ => absurd h_ Q0, fun h_ => absurd h_ Q0, fun h_ => absurd h_ Q0, fun h_ => absurd h_ Q0, fun h_ => absurd h_ Q0, fun h_ => absurd h_ Q0, fun h_ => absurd h_ Q0⟩
 ·skip
  clear BK166 HB HI0 HK
  refine steps_cons ?_ ?_
  ·rintro b a w' ⟨v170, adz_v170, v179, adz_v179, m5_, m12_, ha, Q_BK166, Q_HI0, Q_HK, Q_HB, Q_HI0_e1, Q_HO171, Q_HA_HO171, Q_HI0_e4, Q_HI0_e8, Q_HO180, Q_HA_HO180, Q_HI0_e11, Q_BK166_e15, Q_X5_, Q_X12_⟩ hb_ hon hoff
   refine ⟨_, rfl, fun K hK => ?_⟩
   have e3 : a.tmps[3]? = some (.pointer (some ⟨g, 0, none⟩)) := by rw [ha]; exact (putSel_off rfl).trans rfl
   replace ha := Aside0.mk ha
   have BK166 := am (Q_BK166 (hoff 15 Q1))
   have HI0 := am (Q_HI0 hb_)
   have HK := Aside0.mk Q_HK
   have HB := Aside0.mk Q_HB
   refine goes_ Try.func67 Q1 rfl #[.pointer (some ⟨g, 0, none⟩), .int .i64 4] (by rfl) rfl rfl (by first | (simp only [List.map_toArray, List.map_cons, List.map_nil, Act.eval, Array.getD_eq_getD_getElem?, Option.getD_some, e3]; done) | (simp only [List.map_toArray, List.map_cons, List.map_nil, Act.eval, Array.getD_eq_getD_getElem?, Option.getD_some, e3]; rfl)) ?_
   with_reducible refine (spec_l6Rd_pick.calls k g s0_0 s0_1 4 t167 t168 w0 _ ?side1 ?side2 A2.out).mono ?_
   (case side1 => exact Q62)
   (case side2 => exact Q68)
   rintro e w12 ⟨rfl, hi, hb, hk⟩
   refine ⟨_, rfl, ?_⟩
   have n0_ := am (KeepBut.blk hk (g' := gb166) (o := .cells #[.int .i64 0, .int .i64 0, .int .i64 0, .int .i64 0, .int .i64 0] 90 (0, 0)) Q29 NB166_0.out (by simp))
   have n1_ := am (KeepBut.trans Q58 hk (.inl rfl))
   have n2_ := am (hb)
   have n3_ := am (hi)
   have z_HO171 := fun (h0_ : b 2 = true) => (show Kd.R (Kd.int .i64) 3 w12 w.heap.size (fun _ => True) v170 y169 from by first | exact (Kd.R_mono (Kd.R_keep (IsS112.apart (show IsS112 w0 _ g s0_0 s0_1 from by repeat (first | (with_reducible first | exact HI0.out | apply IsS112.alloc | apply IsS112.drewN | apply IsS112.drew | apply IsS112.set_1 | refine IsS112.far ?_ NB0_166.out _) | exact HI0.out)) Q21 Q0) hk (fun _ h => h.2)) (fun _ h => h.1)) | exact Kd.R_mono (Kd.R_mono (Kd.R_keep (IsS112.apart (show IsS112 w0 _ g s0_0 s0_1 from by repeat (first | (with_reducible first | exact HI0.out | apply IsS112.alloc | apply IsS112.drewN | apply IsS112.drew | apply IsS112.set_1 | refine IsS112.far ?_ NB0_166.out _) | exact HI0.out)) Q21 Q0) hk (fun _ h => h.2)) (fun _ h => h.1)) (fun _ h_ => by first | trivial | exact h_ | exact h_.1))
   have z_HO180 := fun (h0_ : b 9 = true) => (show Kd.R (Kd.int .i64) 3 w12 w.heap.size (fun _ => True) v179 y178 from by first | exact (Kd.R_mono (Kd.R_keep (IsS112.apart (show IsS112 w0 _ g s0_0 s0_1 from by repeat (first | (with_reducible first | exact HI0.out | apply IsS112.alloc | apply IsS112.drewN | apply IsS112.drew | apply IsS112.set_1 | refine IsS112.far ?_ NB0_166.out _) | exact HI0.out)) Q22 Q0) hk (fun _ h => h.2)) (fun _ h => h.1)) | exact Kd.R_mono (Kd.R_mono (Kd.R_keep (IsS112.apart (show IsS112 w0 _ g s0_0 s0_1 from by repeat (first | (with_reducible first | exact HI0.out | apply IsS112.alloc | apply IsS112.drewN | apply IsS112.drew | apply IsS112.set_1 | refine IsS112.far ?_ NB0_166.out _) | exact HI0.out)) Q22 Q0) hk (fun _ h => h.2)) (fun _ h => h.1)) (fun _ h_ => by first | trivial | exact h_ | exact h_.1))
   clear BK166
   clear HK
   clear HB
   clear HI0
   have BK166 := n0_
   have HK := n1_
   have HB := n2_
   have HI0 := n3_
   clear n0_ n1_ n2_ n3_
   (try clear hb)
   (try clear hb2)
   (try clear hk)
   (try clear hi)
   refine hK.out _ _ ⟨v170, adz_v170, v179, adz_v179, m5_, m12_, (by rw [ha.out]; exact putSel_upk 0 hb_ rfl rfl rfl), fun _ => Q29, fun h0_ => absurd ((up_self b 1).symm.trans h0_) Q0, Q58, Q68, fun _ _ => Q62, z_HO171, Q_HA_HO171, fun h0_ _ => absurd ((hoff 4 Q1).symm.trans h0_) Q0, fun h0_ _ => absurd ((hoff 8 Q1).symm.trans h0_) Q0, z_HO180, Q_HA_HO180, fun h0_ => absurd ((hoff 11 Q1).symm.trans h0_) Q0, fun h0_ => absurd ((hoff 15 Q1).symm.trans h0_) Q0, fun h0_ => absurd ((hoff 5 Q1).symm.trans h0_) Q0, fun h0_ => absurd ((hoff 12 Q1).symm.trans h0_) Q0⟩
  refine steps_cons ?_ ?_
  ·rintro b a w' ⟨v170, adz_v170, v179, adz_v179, m5_, m12_, ha, Q_BK166, Q_HI0, Q_HK, Q_HB, Q_HI0_e1, Q_HO171, Q_HA_HO171, Q_HI0_e4, Q_HI0_e8, Q_HO180, Q_HA_HO180, Q_HI0_e11, Q_BK166_e15, Q_X5_, Q_X12_⟩ hb_ hon hoff
   refine ⟨_, rfl, fun K hK => ?_⟩
   replace ha := Aside0.mk ha
   have BK166 := am (Q_BK166 (hoff 15 Q1))
   have HK := Aside0.mk Q_HK
   have HB := Aside0.mk Q_HB
   refine Kd.R_lit_step (Kd.int .i64) _ 3 ?hg (N := 5) ?hd (xs := ([0, 1, 2, 3, 4, 9, 10, 57, 99] : List Int)) (inner := [.int .i64 0, .int .i64 1, .int .i64 2, .int .i64 3, .int .i64 4, .int .i64 9, .int .i64 10, .int .i64 57, .int .i64 99]) (ok := fun _ => True) (okp := fun _ => True) ?hr ?hp (fun _ hk => hk) trivial (Below.refl _ _) (Nat.le_refl _) (by simp) ?_; (case hd => rfl); (case hg => rfl); (case hr => first | (go_simp; done) | (go_simp; rfl)); (case hp => exact (Reps.one (show Kd.M (Kd.int .i64) _ _ _ 0 [.int .i64 0] from rfl) (Reps.one (show Kd.M (Kd.int .i64) _ _ _ 1 [.int .i64 1] from rfl) (Reps.one (show Kd.M (Kd.int .i64) _ _ _ 2 [.int .i64 2] from rfl) (Reps.one (show Kd.M (Kd.int .i64) _ _ _ 3 [.int .i64 3] from rfl) (Reps.one (show Kd.M (Kd.int .i64) _ _ _ 4 [.int .i64 4] from rfl) (Reps.one (show Kd.M (Kd.int .i64) _ _ _ 9 [.int .i64 9] from rfl) (Reps.one (show Kd.M (Kd.int .i64) _ _ _ 10 [.int .i64 10] from rfl) (Reps.one (show Kd.M (Kd.int .i64) _ _ _ 57 [.int .i64 57] from rfl) (Reps.one (show Kd.M (Kd.int .i64) _ _ _ 99 [.int .i64 99] from rfl) (Reps.none _ _)))))))))))
   intro v170 w12 ho13 hb hg_ hnew_
   clear hg_ hnew_
   (first | rw [← Ny169.out] at ho13 | (simp only [Int.reduceToNat] at ho13; rw [← Ny169.out] at ho13))
   have n0_ := am (Kd.R_lower ho13 (keep_size (w := w) (g := g) (row := none) Q58))
   have n2_ := am (blk_below (g := gb166) (o := .cells #[.int .i64 0, .int .i64 0, .int .i64 0, .int .i64 0, .int .i64 0] 90 (0, 0)) Q29 hb)
   have n3_ := am (KeepBut.trans Q58 (KeepBut.of_below hb g none) (.inl rfl))
   have n4_ := am (below_step Q49 hb)
   have z_HI0 := fun (h0_ : b 1 = false) => (show IsS112 w0 w12 g s0_0 s0_1 from by first | exact (IsS112.below (by repeat (first | (with_reducible first | exact (Q_HI0 h0_) | apply IsS112.alloc | apply IsS112.drewN | apply IsS112.drew | apply IsS112.set_1 | refine IsS112.far ?_ NB0_166.out _) | exact (Q_HI0 h0_))) hb))
   have z_HI0_e1 := fun (h0_ : b 1 = true) (h1_ : b 4 = false) => (show IsS112 w0 w12 g s0_0 t168 from by first | exact (IsS112.below (by repeat (first | (with_reducible first | exact (Q_HI0_e1 h0_ h1_) | apply IsS112.alloc | apply IsS112.drewN | apply IsS112.drew | apply IsS112.set_1 | refine IsS112.far ?_ NB0_166.out _) | exact (Q_HI0_e1 h0_ h1_))) hb))
   have z_HI0_e4 := fun (h0_ : b 4 = true) (h1_ : b 8 = false) => (show IsS112 w0 w12 g s0_0 t173 from by first | exact (IsS112.below (by repeat (first | (with_reducible first | exact (Q_HI0_e4 h0_ h1_) | apply IsS112.alloc | apply IsS112.drewN | apply IsS112.drew | apply IsS112.set_1 | refine IsS112.far ?_ NB0_166.out _) | exact (Q_HI0_e4 h0_ h1_))) hb))
   have z_HI0_e8 := fun (h0_ : b 8 = true) (h1_ : b 11 = false) => (show IsS112 w0 w12 g s0_0 t177 from by first | exact (IsS112.below (by repeat (first | (with_reducible first | exact (Q_HI0_e8 h0_ h1_) | apply IsS112.alloc | apply IsS112.drewN | apply IsS112.drew | apply IsS112.set_1 | refine IsS112.far ?_ NB0_166.out _) | exact (Q_HI0_e8 h0_ h1_))) hb))
   have z_HO180 := fun (h0_ : b 9 = true) => (show Kd.R (Kd.int .i64) 3 w12 w.heap.size (fun _ => True) v179 y178 from by first | exact (Kd.R_elder' Q22 (Kd.R_base ho13) hb) | exact Kd.R_mono (Kd.R_elder' Q22 (Kd.R_base ho13) hb) (fun _ h_ => by first | trivial | exact h_ | exact h_.1))
   have z_HI0_e11 := fun (h0_ : b 11 = true) => (show IsS112 w0 w12 g s0_0 t182 from by first | exact (IsS112.below (by repeat (first | (with_reducible first | exact (Q_HI0_e11 h0_) | apply IsS112.alloc | apply IsS112.drewN | apply IsS112.drew | apply IsS112.set_1 | refine IsS112.far ?_ NB0_166.out _) | exact (Q_HI0_e11 h0_))) hb))
   clear BK166
   clear HK
   clear HB
   have HO171 := n0_
   have BK166 := n2_
   have HK := n3_
   have HB := n4_
   clear n0_ n2_ n3_ n4_
   clear hb ho13
   obtain ⟨Ao14, co14, eo14⟩ := Kd.R_slice HO171.out
   subst eo14
   obtain ⟨ado14, fo14, _⟩ := Kd.at_int (Kd.R_reads' HO171.out).2.2 0 Q0 (by rw [Ny169.out]; simp)
   cases fo14
   refine hK.out _ _ ⟨.slice (some ado14) y169.length co14, ado14, v179, adz_v179, m5_, m12_, (by rw [ha.out]; exact putSel_upk 1 hb_ rfl rfl rfl), fun _ => Q29, z_HI0, Q58, Q49, z_HI0_e1, fun _ => (by (with_reducible repeat (first | apply Kd.R_alloc | apply Kd.R_drewN | apply Kd.R_drew)); exact HO171.out), fun _ => ⟨_, rfl⟩, z_HI0_e4, z_HI0_e8, z_HO180, Q_HA_HO180, z_HI0_e11, fun h0_ => absurd ((hoff 15 Q1).symm.trans h0_) Q0, fun h0_ => absurd ((hoff 5 Q1).symm.trans h0_) Q0, Q_X12_⟩
  refine steps_cons ?_ ?_
  ·rintro b a w' ⟨v170, adz_v170, v179, adz_v179, m5_, m12_, ha, Q_BK166, Q_HI0, Q_HK, Q_HB, Q_HI0_e1, Q_HO171, Q_HA_HO171, Q_HI0_e4, Q_HI0_e8, Q_HO180, Q_HA_HO180, Q_HI0_e11, Q_BK166_e15, Q_X5_, Q_X12_⟩ hb_ hon hoff
   refine ⟨_, rfl, fun K hK => ?_⟩
   have e6 : a.tmps[6]? = some (.pointer (some ⟨g, 0, none⟩)) := by rw [ha]; exact (putSel_off rfl).trans rfl
   replace ha := Aside0.mk ha
   have BK166 := am (Q_BK166 (hoff 15 Q1))
   have HK := Aside0.mk Q_HK
   have HB := Aside0.mk Q_HB
   have HI0 := am (Q_HI0_e1 (hon 1 Q1) hb_)
   refine goes_ Try.func67 Q1 rfl #[.pointer (some ⟨g, 0, none⟩), .int .i64 9] (by rfl) rfl rfl (by first | (simp only [List.map_toArray, List.map_cons, List.map_nil, Act.eval, Array.getD_eq_getD_getElem?, Option.getD_some, e6]; done) | (simp only [List.map_toArray, List.map_cons, List.map_nil, Act.eval, Array.getD_eq_getD_getElem?, Option.getD_some, e6]; rfl)) ?_
   with_reducible refine (spec_l6Rd_pick.calls k g s0_0 t168 9 t172 t173 w0 _ ?side1 ?side2 A3.out).mono ?_
   (case side1 => exact Q62)
   (case side2 => exact Q68)
   rintro e w14 ⟨rfl, hi, hb, hk⟩
   refine ⟨_, rfl, ?_⟩
   have n0_ := am (KeepBut.blk hk (g' := gb166) (o := .cells #[.int .i64 0, .int .i64 0, .int .i64 0, .int .i64 0, .int .i64 0] 90 (0, 0)) Q29 NB166_0.out (by simp))
   have n1_ := am (KeepBut.trans Q58 hk (.inl rfl))
   have n2_ := am (hb)
   have n3_ := am (hi)
   have z_HO171 := fun (h0_ : b 2 = true) => (show Kd.R (Kd.int .i64) 3 w14 w.heap.size (fun _ => True) v170 y169 from by first | exact (Kd.R_mono (Kd.R_keep (IsS112.apart (show IsS112 w0 _ g s0_0 t168 from by repeat (first | (with_reducible first | exact HI0.out | apply IsS112.alloc | apply IsS112.drewN | apply IsS112.drew | apply IsS112.set_1 | refine IsS112.far ?_ NB0_166.out _) | exact HI0.out)) Q21 Q0) hk (fun _ h => h.2)) (fun _ h => h.1)) | exact Kd.R_mono (Kd.R_mono (Kd.R_keep (IsS112.apart (show IsS112 w0 _ g s0_0 t168 from by repeat (first | (with_reducible first | exact HI0.out | apply IsS112.alloc | apply IsS112.drewN | apply IsS112.drew | apply IsS112.set_1 | refine IsS112.far ?_ NB0_166.out _) | exact HI0.out)) Q21 Q0) hk (fun _ h => h.2)) (fun _ h => h.1)) (fun _ h_ => by first | trivial | exact h_ | exact h_.1))
   have z_HO180 := fun (h0_ : b 9 = true) => (show Kd.R (Kd.int .i64) 3 w14 w.heap.size (fun _ => True) v179 y178 from by first | exact (Kd.R_mono (Kd.R_keep (IsS112.apart (show IsS112 w0 _ g s0_0 t168 from by repeat (first | (with_reducible first | exact HI0.out | apply IsS112.alloc | apply IsS112.drewN | apply IsS112.drew | apply IsS112.set_1 | refine IsS112.far ?_ NB0_166.out _) | exact HI0.out)) Q22 Q0) hk (fun _ h => h.2)) (fun _ h => h.1)) | exact Kd.R_mono (Kd.R_mono (Kd.R_keep (IsS112.apart (show IsS112 w0 _ g s0_0 t168 from by repeat (first | (with_reducible first | exact HI0.out | apply IsS112.alloc | apply IsS112.drewN | apply IsS112.drew | apply IsS112.set_1 | refine IsS112.far ?_ NB0_166.out _) | exact HI0.out)) Q22 Q0) hk (fun _ h => h.2)) (fun _ h => h.1)) (fun _ h_ => by first | trivial | exact h_ | exact h_.1))
   clear BK166
   clear HK
   clear HB
   clear HI0
   have BK166 := n0_
   have HK := n1_
   have HB := n2_
   have HI0 := n3_
   clear n0_ n1_ n2_ n3_
   (try clear hb)
   (try clear hb2)
   (try clear hk)
   (try clear hi)
   refine hK.out _ _ ⟨v170, adz_v170, v179, adz_v179, m5_, m12_, (by rw [ha.out]; exact putSel_upk 2 hb_ rfl rfl rfl), fun _ => Q29, fun h0_ => absurd ((hon 1 Q1).symm.trans h0_) Q0, Q58, Q68, fun _ h1_ => absurd ((up_self b 4).symm.trans h1_) Q0, z_HO171, Q_HA_HO171, fun _ _ => Q62, fun h0_ _ => absurd ((hoff 8 Q1).symm.trans h0_) Q0, z_HO180, Q_HA_HO180, fun h0_ => absurd ((hoff 11 Q1).symm.trans h0_) Q0, fun h0_ => absurd ((hoff 15 Q1).symm.trans h0_) Q0, fun h0_ => absurd ((hoff 5 Q1).symm.trans h0_) Q0, fun h0_ => absurd ((hoff 12 Q1).symm.trans h0_) Q0⟩
  refine steps_cons ?_ ?_
  ·rintro b a w' ⟨v170, adz_v170, v179, adz_v179, m5_, m12_, ha, Q_BK166, Q_HI0, Q_HK, Q_HB, Q_HI0_e1, Q_HO171, Q_HA_HO171, Q_HI0_e4, Q_HI0_e8, Q_HO180, Q_HA_HO180, Q_HI0_e11, Q_BK166_e15, Q_X5_, Q_X12_⟩ hb_ hon hoff
   refine ⟨_, rfl, fun K hK => ?_⟩
   have e5 : a.tmps[5]? = some (v170) := by rw [ha]; exact putSel_on (e := (2, 5, v170)) 1 rfl rfl (hon 2 Q1) rfl
   have e7 : a.tmps[7]? = some (.int .i64 t172) := by rw [ha]; exact putSel_on (e := (4, 7, .int .i64 t172)) 2 rfl rfl (hon 4 Q1) rfl
   replace ha := Aside0.mk ha
   have BK166 := am (Q_BK166 (hoff 15 Q1))
   have HK := Aside0.mk Q_HK
   have HB := Aside0.mk Q_HB
   have HO171 := am (Q_HO171 (hon 2 Q1))
   have HA_HO171 := am (Q_HA_HO171 (hon 2 Q1))
   obtain ⟨c_, hv_⟩ := HA_HO171.out
   rw [hv_] at e5
   refine value_ (w1 := w') (v := .pointer (some (adz_v170.add (t172).toNat))) (by rfl) rfl ?_ ?_
   ·go_simp
    (try simp only [i64_w])
    try rfl
   refine hK.out _ _ ⟨v170, adz_v170, v179, adz_v179, (.pointer (some (adz_v170.add (t172).toNat))), m12_, (by rw [ha.out]; exact putSel_upk 3 hb_ rfl rfl rfl), Q_BK166, fun h0_ => absurd ((hon 1 Q1).symm.trans h0_) Q0, Q_HK, Q_HB, fun _ h1_ => absurd ((hon 4 Q1).symm.trans h1_) Q0, Q_HO171, Q_HA_HO171, Q_HI0_e4, Q_HI0_e8, Q_HO180, Q_HA_HO180, Q_HI0_e11, fun h0_ => absurd ((hoff 15 Q1).symm.trans h0_) Q0, fun _ => rfl, Q_X12_⟩
  refine steps_cons ?_ ?_
  ·rintro b a w' ⟨v170, adz_v170, v179, adz_v179, m5_, m12_, ha, Q_BK166, Q_HI0, Q_HK, Q_HB, Q_HI0_e1, Q_HO171, Q_HA_HO171, Q_HI0_e4, Q_HI0_e8, Q_HO180, Q_HA_HO180, Q_HI0_e11, Q_BK166_e15, Q_X5_, Q_X12_⟩ hb_ hon hoff
   refine ⟨_, rfl, fun K hK => ?_⟩
   have e8 : a.tmps[8]? = some (m5_) := by rw [ha]; exact putSel_on (e := (5, 8, m5_)) 3 rfl rfl (hon 5 Q1) rfl
   rw [Q_X5_ (hon 5 Q1)] at e8
   replace ha := Aside0.mk ha
   have BK166 := am (Q_BK166 (hoff 15 Q1))
   have HK := Aside0.mk Q_HK
   have HB := Aside0.mk Q_HB
   have HO171 := am (Q_HO171 (hon 2 Q1))
   have HA_HO171 := am (Q_HA_HO171 (hon 2 Q1))
   obtain ⟨c_, hv_⟩ := HA_HO171.out
   have hF_ := HO171.out
   rw [hv_] at hF_
   obtain ⟨ad_, ea_, hx_⟩ := Kd.at_int (Kd.R_reads' hF_).2.2 t172 (of_eq_true pi174) (of_eq_true qi174)
   cases ea_
   refine value_ (w1 := w') (v := .int .i64 (rd y169 t172)) (by rfl) rfl ?_ ?_
   ·go_simp
    (try simp only [i64_w])
    try rfl
   refine hK.out _ _ ⟨v170, adz_v170, v179, adz_v179, m5_, m12_, (by rw [ha.out]; exact putSel_upk 4 hb_ rfl rfl rfl), Q_BK166, fun h0_ => absurd ((hon 1 Q1).symm.trans h0_) Q0, Q_HK, Q_HB, fun _ h1_ => absurd ((hon 4 Q1).symm.trans h1_) Q0, Q_HO171, Q_HA_HO171, Q_HI0_e4, Q_HI0_e8, Q_HO180, Q_HA_HO180, Q_HI0_e11, fun h0_ => absurd ((hoff 15 Q1).symm.trans h0_) Q0, Q_X5_, Q_X12_⟩
  refine steps_cons ?_ ?_
  ·rintro b a w' ⟨v170, adz_v170, v179, adz_v179, m5_, m12_, ha, Q_BK166, Q_HI0, Q_HK, Q_HB, Q_HI0_e1, Q_HO171, Q_HA_HO171, Q_HI0_e4, Q_HI0_e8, Q_HO180, Q_HA_HO180, Q_HI0_e11, Q_BK166_e15, Q_X5_, Q_X12_⟩ hb_ hon hoff
   refine ⟨_, rfl, fun K hK => ?_⟩
   have e10 : a.tmps[10]? = some (.pointer (some ⟨g, 0, none⟩)) := by rw [ha]; exact (putSel_off rfl).trans rfl
   replace ha := Aside0.mk ha
   have BK166 := am (Q_BK166 (hoff 15 Q1))
   have HK := Aside0.mk Q_HK
   have HB := Aside0.mk Q_HB
   have HI0 := am (Q_HI0_e4 (hon 4 Q1) hb_)
   refine goes_ Try.func98 Q1 rfl #[.pointer (some ⟨g, 0, none⟩)] (by rfl) rfl rfl (by first | (simp only [List.map_toArray, List.map_cons, List.map_nil, Act.eval, Array.getD_eq_getD_getElem?, Option.getD_some, e10]; done) | (simp only [List.map_toArray, List.map_cons, List.map_nil, Act.eval, Array.getD_eq_getD_getElem?, Option.getD_some, e10]; rfl)) ?_
   with_reducible refine (spec_l71Time.calls k g s0_0 t173 t175 t176 t177 w0 _ ?side1 ?side2 A6.out).mono ?_
   (case side1 => exact Q62)
   (case side2 => exact Q68)
   rintro e w15 ⟨rfl, hi, hb, hk⟩
   refine ⟨_, rfl, ?_⟩
   have n0_ := am (KeepBut.blk hk (g' := gb166) (o := .cells #[.int .i64 0, .int .i64 0, .int .i64 0, .int .i64 0, .int .i64 0] 90 (0, 0)) Q29 NB166_0.out (by simp))
   have n1_ := am (KeepBut.trans Q58 hk (.inl rfl))
   have n2_ := am (hb)
   have n3_ := am (hi)
   have z_HO171 := fun (h0_ : b 2 = true) => (show Kd.R (Kd.int .i64) 3 w15 w.heap.size (fun _ => True) v170 y169 from by first | exact (Kd.R_mono (Kd.R_keep (IsS112.apart (show IsS112 w0 _ g s0_0 t173 from by repeat (first | (with_reducible first | exact HI0.out | apply IsS112.alloc | apply IsS112.drewN | apply IsS112.drew | apply IsS112.set_1 | refine IsS112.far ?_ NB0_166.out _) | exact HI0.out)) Q21 Q0) hk (fun _ h => h.2)) (fun _ h => h.1)) | exact Kd.R_mono (Kd.R_mono (Kd.R_keep (IsS112.apart (show IsS112 w0 _ g s0_0 t173 from by repeat (first | (with_reducible first | exact HI0.out | apply IsS112.alloc | apply IsS112.drewN | apply IsS112.drew | apply IsS112.set_1 | refine IsS112.far ?_ NB0_166.out _) | exact HI0.out)) Q21 Q0) hk (fun _ h => h.2)) (fun _ h => h.1)) (fun _ h_ => by first | trivial | exact h_ | exact h_.1))
   have z_HO180 := fun (h0_ : b 9 = true) => (show Kd.R (Kd.int .i64) 3 w15 w.heap.size (fun _ => True) v179 y178 from by first | exact (Kd.R_mono (Kd.R_keep (IsS112.apart (show IsS112 w0 _ g s0_0 t173 from by repeat (first | (with_reducible first | exact HI0.out | apply IsS112.alloc | apply IsS112.drewN | apply IsS112.drew | apply IsS112.set_1 | refine IsS112.far ?_ NB0_166.out _) | exact HI0.out)) Q22 Q0) hk (fun _ h => h.2)) (fun _ h => h.1)) | exact Kd.R_mono (Kd.R_mono (Kd.R_keep (IsS112.apart (show IsS112 w0 _ g s0_0 t173 from by repeat (first | (with_reducible first | exact HI0.out | apply IsS112.alloc | apply IsS112.drewN | apply IsS112.drew | apply IsS112.set_1 | refine IsS112.far ?_ NB0_166.out _) | exact HI0.out)) Q22 Q0) hk (fun _ h => h.2)) (fun _ h => h.1)) (fun _ h_ => by first | trivial | exact h_ | exact h_.1))
   clear BK166
   clear HK
   clear HB
   clear HI0
   have BK166 := n0_
   have HK := n1_
   have HB := n2_
   have HI0 := n3_
   clear n0_ n1_ n2_ n3_
   (try clear hb)
   (try clear hb2)
   (try clear hk)
   (try clear hi)
   refine hK.out _ _ ⟨v170, adz_v170, v179, adz_v179, m5_, m12_, (by rw [ha.out]; exact putSel_upk 5 hb_ rfl rfl rfl), fun _ => Q29, fun h0_ => absurd ((hon 1 Q1).symm.trans h0_) Q0, Q58, Q68, fun _ h1_ => absurd ((hon 4 Q1).symm.trans h1_) Q0, z_HO171, Q_HA_HO171, fun _ h1_ => absurd ((up_self b 8).symm.trans h1_) Q0, fun _ _ => Q62, z_HO180, Q_HA_HO180, fun h0_ => absurd ((hoff 11 Q1).symm.trans h0_) Q0, fun h0_ => absurd ((hoff 15 Q1).symm.trans h0_) Q0, Q_X5_, fun h0_ => absurd ((hoff 12 Q1).symm.trans h0_) Q0⟩
  refine steps_cons ?_ ?_
  ·rintro b a w' ⟨v170, adz_v170, v179, adz_v179, m5_, m12_, ha, Q_BK166, Q_HI0, Q_HK, Q_HB, Q_HI0_e1, Q_HO171, Q_HA_HO171, Q_HI0_e4, Q_HI0_e8, Q_HO180, Q_HA_HO180, Q_HI0_e11, Q_BK166_e15, Q_X5_, Q_X12_⟩ hb_ hon hoff
   refine ⟨_, rfl, fun K hK => ?_⟩
   replace ha := Aside0.mk ha
   have BK166 := am (Q_BK166 (hoff 15 Q1))
   have HK := Aside0.mk Q_HK
   have HB := Aside0.mk Q_HB
   refine Kd.R_lit_step (Kd.int .i64) _ 3 ?hg (N := 12) ?hd (xs := ([1, 1, 1, 2, (-1), (-1), 3, 0] : List Int)) (inner := [.int .i64 1, .int .i64 1, .int .i64 1, .int .i64 2, .int .i64 (-1), .int .i64 (-1), .int .i64 3, .int .i64 0]) (ok := fun _ => True) (okp := fun _ => True) ?hr ?hp (fun _ hk => hk) trivial (Below.refl _ _) (Nat.le_refl _) (by simp) ?_; (case hd => rfl); (case hg => rfl); (case hr => first | (go_simp; done) | (go_simp; rfl)); (case hp => exact (Reps.one (show Kd.M (Kd.int .i64) _ _ _ 1 [.int .i64 1] from rfl) (Reps.one (show Kd.M (Kd.int .i64) _ _ _ 1 [.int .i64 1] from rfl) (Reps.one (show Kd.M (Kd.int .i64) _ _ _ 1 [.int .i64 1] from rfl) (Reps.one (show Kd.M (Kd.int .i64) _ _ _ 2 [.int .i64 2] from rfl) (Reps.one (show Kd.M (Kd.int .i64) _ _ _ (-1) [.int .i64 (-1)] from rfl) (Reps.one (show Kd.M (Kd.int .i64) _ _ _ (-1) [.int .i64 (-1)] from rfl) (Reps.one (show Kd.M (Kd.int .i64) _ _ _ 3 [.int .i64 3] from rfl) (Reps.one (show Kd.M (Kd.int .i64) _ _ _ 0 [.int .i64 0] from rfl) (Reps.none _ _))))))))))
   intro v179 w12 ho13 hb hg_ hnew_
   clear hg_ hnew_
   (first | rw [← Ny178.out] at ho13 | (simp only [Int.reduceToNat] at ho13; rw [← Ny178.out] at ho13))
   have n0_ := am (Kd.R_lower ho13 (keep_size (w := w) (g := g) (row := none) Q58))
   have n2_ := am (blk_below (g := gb166) (o := .cells #[.int .i64 0, .int .i64 0, .int .i64 0, .int .i64 0, .int .i64 0] 90 (0, 0)) Q29 hb)
   have n3_ := am (KeepBut.trans Q58 (KeepBut.of_below hb g none) (.inl rfl))
   have n4_ := am (below_step Q49 hb)
   have z_HI0 := fun (h0_ : b 1 = false) => (show IsS112 w0 w12 g s0_0 s0_1 from by first | exact (IsS112.below (by repeat (first | (with_reducible first | exact (Q_HI0 h0_) | apply IsS112.alloc | apply IsS112.drewN | apply IsS112.drew | apply IsS112.set_1 | refine IsS112.far ?_ NB0_166.out _) | exact (Q_HI0 h0_))) hb))
   have z_HI0_e1 := fun (h0_ : b 1 = true) (h1_ : b 4 = false) => (show IsS112 w0 w12 g s0_0 t168 from by first | exact (IsS112.below (by repeat (first | (with_reducible first | exact (Q_HI0_e1 h0_ h1_) | apply IsS112.alloc | apply IsS112.drewN | apply IsS112.drew | apply IsS112.set_1 | refine IsS112.far ?_ NB0_166.out _) | exact (Q_HI0_e1 h0_ h1_))) hb))
   have z_HO171 := fun (h0_ : b 2 = true) => (show Kd.R (Kd.int .i64) 3 w12 w.heap.size (fun _ => True) v170 y169 from by first | exact (Kd.R_elder' Q21 (Kd.R_base ho13) hb) | exact Kd.R_mono (Kd.R_elder' Q21 (Kd.R_base ho13) hb) (fun _ h_ => by first | trivial | exact h_ | exact h_.1))
   have z_HI0_e4 := fun (h0_ : b 4 = true) (h1_ : b 8 = false) => (show IsS112 w0 w12 g s0_0 t173 from by first | exact (IsS112.below (by repeat (first | (with_reducible first | exact (Q_HI0_e4 h0_ h1_) | apply IsS112.alloc | apply IsS112.drewN | apply IsS112.drew | apply IsS112.set_1 | refine IsS112.far ?_ NB0_166.out _) | exact (Q_HI0_e4 h0_ h1_))) hb))
   have z_HI0_e8 := fun (h0_ : b 8 = true) (h1_ : b 11 = false) => (show IsS112 w0 w12 g s0_0 t177 from by first | exact (IsS112.below (by repeat (first | (with_reducible first | exact (Q_HI0_e8 h0_ h1_) | apply IsS112.alloc | apply IsS112.drewN | apply IsS112.drew | apply IsS112.set_1 | refine IsS112.far ?_ NB0_166.out _) | exact (Q_HI0_e8 h0_ h1_))) hb))
   have z_HI0_e11 := fun (h0_ : b 11 = true) => (show IsS112 w0 w12 g s0_0 t182 from by first | exact (IsS112.below (by repeat (first | (with_reducible first | exact (Q_HI0_e11 h0_) | apply IsS112.alloc | apply IsS112.drewN | apply IsS112.drew | apply IsS112.set_1 | refine IsS112.far ?_ NB0_166.out _) | exact (Q_HI0_e11 h0_))) hb))
   clear BK166
   clear HK
   clear HB
   have HO180 := n0_
   have BK166 := n2_
   have HK := n3_
   have HB := n4_
   clear n0_ n2_ n3_ n4_
   clear hb ho13
   obtain ⟨Ao14, co14, eo14⟩ := Kd.R_slice HO180.out
   subst eo14
   obtain ⟨ado14, fo14, _⟩ := Kd.at_int (Kd.R_reads' HO180.out).2.2 0 Q0 (by rw [Ny178.out]; simp)
   cases fo14
   refine hK.out _ _ ⟨v170, adz_v170, .slice (some ado14) y178.length co14, ado14, m5_, m12_, (by rw [ha.out]; exact putSel_upk 6 hb_ rfl rfl rfl), fun _ => Q29, z_HI0, Q58, Q49, z_HI0_e1, z_HO171, Q_HA_HO171, z_HI0_e4, z_HI0_e8, fun _ => (by (with_reducible repeat (first | apply Kd.R_alloc | apply Kd.R_drewN | apply Kd.R_drew)); exact HO180.out), fun _ => ⟨_, rfl⟩, z_HI0_e11, fun h0_ => absurd ((hoff 15 Q1).symm.trans h0_) Q0, Q_X5_, fun h0_ => absurd ((hoff 12 Q1).symm.trans h0_) Q0⟩
  refine steps_cons ?_ ?_
  ·rintro b a w' ⟨v170, adz_v170, v179, adz_v179, m5_, m12_, ha, Q_BK166, Q_HI0, Q_HK, Q_HB, Q_HI0_e1, Q_HO171, Q_HA_HO171, Q_HI0_e4, Q_HI0_e8, Q_HO180, Q_HA_HO180, Q_HI0_e11, Q_BK166_e15, Q_X5_, Q_X12_⟩ hb_ hon hoff
   refine ⟨_, rfl, fun K hK => ?_⟩
   have e13 : a.tmps[13]? = some (.pointer (some ⟨g, 0, none⟩)) := by rw [ha]; exact (putSel_off rfl).trans rfl
   replace ha := Aside0.mk ha
   have BK166 := am (Q_BK166 (hoff 15 Q1))
   have HK := Aside0.mk Q_HK
   have HB := Aside0.mk Q_HB
   have HI0 := am (Q_HI0_e8 (hon 8 Q1) hb_)
   refine goes_ Try.func67 Q1 rfl #[.pointer (some ⟨g, 0, none⟩), .int .i64 8] (by rfl) rfl rfl (by first | (simp only [List.map_toArray, List.map_cons, List.map_nil, Act.eval, Array.getD_eq_getD_getElem?, Option.getD_some, e13]; done) | (simp only [List.map_toArray, List.map_cons, List.map_nil, Act.eval, Array.getD_eq_getD_getElem?, Option.getD_some, e13]; rfl)) ?_
   with_reducible refine (spec_l6Rd_pick.calls k g s0_0 t177 8 t181 t182 w0 _ ?side1 ?side2 A7.out).mono ?_
   (case side1 => exact Q62)
   (case side2 => exact Q68)
   rintro e w16 ⟨rfl, hi, hb, hk⟩
   refine ⟨_, rfl, ?_⟩
   have n0_ := am (KeepBut.blk hk (g' := gb166) (o := .cells #[.int .i64 0, .int .i64 0, .int .i64 0, .int .i64 0, .int .i64 0] 90 (0, 0)) Q29 NB166_0.out (by simp))
   have n1_ := am (KeepBut.trans Q58 hk (.inl rfl))
   have n2_ := am (hb)
   have n3_ := am (hi)
   have z_HO171 := fun (h0_ : b 2 = true) => (show Kd.R (Kd.int .i64) 3 w16 w.heap.size (fun _ => True) v170 y169 from by first | exact (Kd.R_mono (Kd.R_keep (IsS112.apart (show IsS112 w0 _ g s0_0 t177 from by repeat (first | (with_reducible first | exact HI0.out | apply IsS112.alloc | apply IsS112.drewN | apply IsS112.drew | apply IsS112.set_1 | refine IsS112.far ?_ NB0_166.out _) | exact HI0.out)) Q21 Q0) hk (fun _ h => h.2)) (fun _ h => h.1)) | exact Kd.R_mono (Kd.R_mono (Kd.R_keep (IsS112.apart (show IsS112 w0 _ g s0_0 t177 from by repeat (first | (with_reducible first | exact HI0.out | apply IsS112.alloc | apply IsS112.drewN | apply IsS112.drew | apply IsS112.set_1 | refine IsS112.far ?_ NB0_166.out _) | exact HI0.out)) Q21 Q0) hk (fun _ h => h.2)) (fun _ h => h.1)) (fun _ h_ => by first | trivial | exact h_ | exact h_.1))
   have z_HO180 := fun (h0_ : b 9 = true) => (show Kd.R (Kd.int .i64) 3 w16 w.heap.size (fun _ => True) v179 y178 from by first | exact (Kd.R_mono (Kd.R_keep (IsS112.apart (show IsS112 w0 _ g s0_0 t177 from by repeat (first | (with_reducible first | exact HI0.out | apply IsS112.alloc | apply IsS112.drewN | apply IsS112.drew | apply IsS112.set_1 | refine IsS112.far ?_ NB0_166.out _) | exact HI0.out)) Q22 Q0) hk (fun _ h => h.2)) (fun _ h => h.1)) | exact Kd.R_mono (Kd.R_mono (Kd.R_keep (IsS112.apart (show IsS112 w0 _ g s0_0 t177 from by repeat (first | (with_reducible first | exact HI0.out | apply IsS112.alloc | apply IsS112.drewN | apply IsS112.drew | apply IsS112.set_1 | refine IsS112.far ?_ NB0_166.out _) | exact HI0.out)) Q22 Q0) hk (fun _ h => h.2)) (fun _ h => h.1)) (fun _ h_ => by first | trivial | exact h_ | exact h_.1))
   clear BK166
   clear HK
   clear HB
   clear HI0
   have BK166 := n0_
   have HK := n1_
   have HB := n2_
   have HI0 := n3_
   clear n0_ n1_ n2_ n3_
   (try clear hb)
   (try clear hb2)
   (try clear hk)
   (try clear hi)
   refine hK.out _ _ ⟨v170, adz_v170, v179, adz_v179, m5_, m12_, (by rw [ha.out]; exact putSel_upk 7 hb_ rfl rfl rfl), fun _ => Q29, fun h0_ => absurd ((hon 1 Q1).symm.trans h0_) Q0, Q58, Q68, fun _ h1_ => absurd ((hon 4 Q1).symm.trans h1_) Q0, z_HO171, Q_HA_HO171, fun _ h1_ => absurd ((hon 8 Q1).symm.trans h1_) Q0, fun _ h1_ => absurd ((up_self b 11).symm.trans h1_) Q0, z_HO180, Q_HA_HO180, fun _ => Q62, fun h0_ => absurd ((hoff 15 Q1).symm.trans h0_) Q0, Q_X5_, fun h0_ => absurd ((hoff 12 Q1).symm.trans h0_) Q0⟩
  refine steps_cons ?_ ?_
  ·rintro b a w' ⟨v170, adz_v170, v179, adz_v179, m5_, m12_, ha, Q_BK166, Q_HI0, Q_HK, Q_HB, Q_HI0_e1, Q_HO171, Q_HA_HO171, Q_HI0_e4, Q_HI0_e8, Q_HO180, Q_HA_HO180, Q_HI0_e11, Q_BK166_e15, Q_X5_, Q_X12_⟩ hb_ hon hoff
   refine ⟨_, rfl, fun K hK => ?_⟩
   have e12 : a.tmps[12]? = some (v179) := by rw [ha]; exact putSel_on (e := (9, 12, v179)) 6 rfl rfl (hon 9 Q1) rfl
   have e14 : a.tmps[14]? = some (.int .i64 t181) := by rw [ha]; exact putSel_on (e := (11, 14, .int .i64 t181)) 7 rfl rfl (hon 11 Q1) rfl
   replace ha := Aside0.mk ha
   have BK166 := am (Q_BK166 (hoff 15 Q1))
   have HK := Aside0.mk Q_HK
   have HB := Aside0.mk Q_HB
   have HO180 := am (Q_HO180 (hon 9 Q1))
   have HA_HO180 := am (Q_HA_HO180 (hon 9 Q1))
   have HI0 := am (Q_HI0_e11 (hon 11 Q1))
   obtain ⟨c_, hv_⟩ := HA_HO180.out
   rw [hv_] at e12
   refine value_ (w1 := w') (v := .pointer (some (adz_v179.add (t181).toNat))) (by rfl) rfl ?_ ?_
   ·go_simp
    (try simp only [i64_w])
    try rfl
   refine hK.out _ _ ⟨v170, adz_v170, v179, adz_v179, m5_, (.pointer (some (adz_v179.add (t181).toNat))), (by rw [ha.out]; exact putSel_upk 8 hb_ rfl rfl rfl), Q_BK166, fun h0_ => absurd ((hon 1 Q1).symm.trans h0_) Q0, Q_HK, Q_HB, fun _ h1_ => absurd ((hon 4 Q1).symm.trans h1_) Q0, Q_HO171, Q_HA_HO171, fun _ h1_ => absurd ((hon 8 Q1).symm.trans h1_) Q0, fun _ h1_ => absurd ((hon 11 Q1).symm.trans h1_) Q0, Q_HO180, Q_HA_HO180, Q_HI0_e11, fun h0_ => absurd ((hoff 15 Q1).symm.trans h0_) Q0, Q_X5_, fun _ => rfl⟩
  refine steps_cons ?_ ?_
  ·rintro b a w' ⟨v170, adz_v170, v179, adz_v179, m5_, m12_, ha, Q_BK166, Q_HI0, Q_HK, Q_HB, Q_HI0_e1, Q_HO171, Q_HA_HO171, Q_HI0_e4, Q_HI0_e8, Q_HO180, Q_HA_HO180, Q_HI0_e11, Q_BK166_e15, Q_X5_, Q_X12_⟩ hb_ hon hoff
   refine ⟨_, rfl, fun K hK => ?_⟩
   have e15 : a.tmps[15]? = some (m12_) := by rw [ha]; exact putSel_on (e := (12, 15, m12_)) 8 rfl rfl (hon 12 Q1) rfl
   rw [Q_X12_ (hon 12 Q1)] at e15
   replace ha := Aside0.mk ha
   have BK166 := am (Q_BK166 (hoff 15 Q1))
   have HK := Aside0.mk Q_HK
   have HB := Aside0.mk Q_HB
   have HO180 := am (Q_HO180 (hon 9 Q1))
   have HA_HO180 := am (Q_HA_HO180 (hon 9 Q1))
   have HI0 := am (Q_HI0_e11 (hon 11 Q1))
   obtain ⟨c_, hv_⟩ := HA_HO180.out
   have hF_ := HO180.out
   rw [hv_] at hF_
   obtain ⟨ad_, ea_, hx_⟩ := Kd.at_int (Kd.R_reads' hF_).2.2 t181 (of_eq_true pi183) (of_eq_true qi183)
   cases ea_
   refine value_ (w1 := w') (v := .int .i64 (rd y178 t181)) (by rfl) rfl ?_ ?_
   ·go_simp
    (try simp only [i64_w])
    try rfl
   refine hK.out _ _ ⟨v170, adz_v170, v179, adz_v179, m5_, m12_, (by rw [ha.out]; exact putSel_upk 9 hb_ rfl rfl rfl), Q_BK166, fun h0_ => absurd ((hon 1 Q1).symm.trans h0_) Q0, Q_HK, Q_HB, fun _ h1_ => absurd ((hon 4 Q1).symm.trans h1_) Q0, Q_HO171, Q_HA_HO171, fun _ h1_ => absurd ((hon 8 Q1).symm.trans h1_) Q0, fun _ h1_ => absurd ((hon 11 Q1).symm.trans h1_) Q0, Q_HO180, Q_HA_HO180, Q_HI0_e11, fun h0_ => absurd ((hoff 15 Q1).symm.trans h0_) Q0, Q_X5_, Q_X12_⟩
  refine steps_cons ?_ ?_
  ·rintro b a w' ⟨v170, adz_v170, v179, adz_v179, m5_, m12_, ha, Q_BK166, Q_HI0, Q_HK, Q_HB, Q_HI0_e1, Q_HO171, Q_HA_HO171, Q_HI0_e4, Q_HI0_e8, Q_HO180, Q_HA_HO180, Q_HI0_e11, Q_BK166_e15, Q_X5_, Q_X12_⟩ hb_ hon hoff
   refine ⟨_, rfl, fun K hK => ?_⟩
   have e4 : a.tmps[4]? = some (.int .i64 t167) := by rw [ha]; exact putSel_on (e := (1, 4, .int .i64 t167)) 0 rfl rfl (hon 1 Q1) rfl
   have e9 : a.tmps[9]? = some (.int .i64 (rd y169 t172)) := by rw [ha]; exact putSel_on (e := (6, 9, .int .i64 (rd y169 t172))) 4 rfl rfl (hon 6 Q1) rfl
   have e11 : a.tmps[11]? = some (.agg #[.int .i64 t175, .int .i64 t176]) := by rw [ha]; exact putSel_on (e := (8, 11, .agg #[.int .i64 t175, .int .i64 t176])) 5 rfl rfl (hon 8 Q1) rfl
   have e16 : a.tmps[16]? = some (.int .i64 (rd y178 t181)) := by rw [ha]; exact putSel_on (e := (13, 16, .int .i64 (rd y178 t181))) 9 rfl rfl (hon 13 Q1) rfl
   replace ha := Aside0.mk ha
   have BK166 := am (Q_BK166 (hoff 15 Q1))
   have HK := Aside0.mk Q_HK
   have HB := Aside0.mk Q_HB
   have HO171 := am (Q_HO171 (hon 2 Q1))
   have HA_HO171 := am (Q_HA_HO171 (hon 2 Q1))
   have HO180 := am (Q_HO180 (hon 9 Q1))
   have HA_HO180 := am (Q_HA_HO180 (hon 9 Q1))
   have HI0 := am (Q_HI0_e11 (hon 11 Q1))
   refine value_ (w1 := w') (v := .agg #[.int .i64 t167, .int .i64 (rd y169 t172), .int .i64 t175, .int .i64 t176, .int .i64 (rd y178 t181)]) (by rfl) rfl ?_ ?_
   ·go_simp
    (try simp only [i64_w])
    try rfl
   refine hK.out _ _ ⟨v170, adz_v170, v179, adz_v179, m5_, m12_, (by rw [ha.out]; exact putSel_upk 10 hb_ rfl rfl rfl), Q_BK166, fun h0_ => absurd ((hon 1 Q1).symm.trans h0_) Q0, Q_HK, Q_HB, fun _ h1_ => absurd ((hon 4 Q1).symm.trans h1_) Q0, Q_HO171, Q_HA_HO171, fun _ h1_ => absurd ((hon 8 Q1).symm.trans h1_) Q0, fun _ h1_ => absurd ((hon 11 Q1).symm.trans h1_) Q0, Q_HO180, Q_HA_HO180, Q_HI0_e11, fun h0_ => absurd ((hoff 15 Q1).symm.trans h0_) Q0, Q_X5_, Q_X12_⟩
  refine steps_cons ?_ ?_
  ·rintro b a w' ⟨v170, adz_v170, v179, adz_v179, m5_, m12_, ha, Q_BK166, Q_HI0, Q_HK, Q_HB, Q_HI0_e1, Q_HO171, Q_HA_HO171, Q_HI0_e4, Q_HI0_e8, Q_HO180, Q_HA_HO180, Q_HI0_e11, Q_BK166_e15, Q_X5_, Q_X12_⟩ hb_ hon hoff
   refine ⟨_, rfl, fun K hK => ?_⟩
   have e2 : a.tmps[2]? = some (.pointer (some ⟨gb166, 0, none⟩)) := by rw [ha]; exact (putSel_off rfl).trans rfl
   have e17 : a.tmps[17]? = some (.agg #[.int .i64 t167, .int .i64 (rd y169 t172), .int .i64 t175, .int .i64 t176, .int .i64 (rd y178 t181)]) := by rw [ha]; exact putSel_on (e := (14, 17, .agg #[.int .i64 t167, .int .i64 (rd y169 t172), .int .i64 t175, .int .i64 t176, .int .i64 (rd y178 t181)])) 10 rfl rfl (hon 14 Q1) rfl
   replace ha := Aside0.mk ha
   have BK166 := am (Q_BK166 hb_)
   have HK := Aside0.mk Q_HK
   have HB := Aside0.mk Q_HB
   have HO171 := am (Q_HO171 (hon 2 Q1))
   have HA_HO171 := am (Q_HA_HO171 (hon 2 Q1))
   have HO180 := am (Q_HO180 (hon 9 Q1))
   have HA_HO180 := am (Q_HA_HO180 (hon 9 Q1))
   have HI0 := am (Q_HI0_e11 (hon 11 Q1))
   obtain ⟨co23, eo23⟩ := HA_HO171.out
   clear HA_HO171
   subst eo23
   obtain ⟨co24, eo24⟩ := HA_HO180.out
   clear HA_HO180
   subst eo24
   have hs25 : w'.cell? ⟨gb166, 0, none⟩ = some (.int .i64 0) := (blk_cell BK166.out 0).trans rfl
   have hfs25 := blk_frozen BK166.out 0
   have hs26 : w'.cell? ⟨gb166, 1, none⟩ = some (.int .i64 0) := (blk_cell BK166.out 1).trans rfl
   have hfs26 := blk_frozen BK166.out 1
   have hs27 : w'.cell? ⟨gb166, 2, none⟩ = some (.int .i64 0) := (blk_cell BK166.out 2).trans rfl
   have hfs27 := blk_frozen BK166.out 2
   have hs28 : w'.cell? ⟨gb166, 3, none⟩ = some (.int .i64 0) := (blk_cell BK166.out 3).trans rfl
   have hfs28 := blk_frozen BK166.out 3
   have hs29 : w'.cell? ⟨gb166, 4, none⟩ = some (.int .i64 0) := (blk_cell BK166.out 4).trans rfl
   have hfs29 := blk_frozen BK166.out 4
   refine skip_ (w1 := ?_) (by rfl) rfl ?_ ?_
   rotate_left
   ·go_simp
    rfl
   refine hK.out _ _ ⟨.slice (some adz_v170) y169.length co23, adz_v170, .slice (some adz_v179) y178.length co24, adz_v179, m5_, m12_, (by rw [ha.out]; exact putSel_none (v := undef) rfl), fun h0_ => absurd ((up_self b 15).symm.trans h0_) Q0, fun h0_ => absurd ((hon 1 Q1).symm.trans h0_) Q0, Q58, Q68, fun _ h1_ => absurd ((hon 4 Q1).symm.trans h1_) Q0, fun _ => (by (with_reducible repeat (first | apply Kd.R_alloc | apply Kd.R_drewN | apply Kd.R_drew)); exact Kd.R_mono (Kd.R_far (p := ⟨gb166, 4, none⟩) (Kd.R_far (p := ⟨gb166, 3, none⟩) (Kd.R_far (p := ⟨gb166, 2, none⟩) (Kd.R_far (p := ⟨gb166, 1, none⟩) (Kd.R_far (p := ⟨gb166, 0, none⟩) (Kd.R_types HO171.out BK166.out Q0) (fun _ hk => hk.2) (.int .i64 t167)) (fun _ hk => hk.2) (.int .i64 (rd y169 t172))) (fun _ hk => hk.2) (.int .i64 t175)) (fun _ hk => hk.2) (.int .i64 t176)) (fun _ hk => hk.2) (.int .i64 (rd y178 t181))) (fun _ hk => hk.1)), fun _ => ⟨_, rfl⟩, fun _ h1_ => absurd ((hon 8 Q1).symm.trans h1_) Q0, fun _ h1_ => absurd ((hon 11 Q1).symm.trans h1_) Q0, fun _ => (by (with_reducible repeat (first | apply Kd.R_alloc | apply Kd.R_drewN | apply Kd.R_drew)); exact Kd.R_mono (Kd.R_far (p := ⟨gb166, 4, none⟩) (Kd.R_far (p := ⟨gb166, 3, none⟩) (Kd.R_far (p := ⟨gb166, 2, none⟩) (Kd.R_far (p := ⟨gb166, 1, none⟩) (Kd.R_far (p := ⟨gb166, 0, none⟩) (Kd.R_types HO180.out BK166.out Q0) (fun _ hk => hk.2) (.int .i64 t167)) (fun _ hk => hk.2) (.int .i64 (rd y169 t172))) (fun _ hk => hk.2) (.int .i64 t175)) (fun _ hk => hk.2) (.int .i64 t176)) (fun _ hk => hk.2) (.int .i64 (rd y178 t181))) (fun _ hk => hk.1)), fun _ => ⟨_, rfl⟩, fun _ => Q62, fun _ => (by (with_reducible repeat (first | refine blk_drewN ?_ _ | refine blk_drew ?_ | refine blk_alloc ?_ _)); refine blk_put (cs := #[.int .i64 t167, .int .i64 (rd y169 t172), .int .i64 t175, .int .i64 t176, .int .i64 0]) ?_ 4 _ rfl; (with_reducible repeat (first | refine blk_drewN ?_ _ | refine blk_drew ?_ | refine blk_alloc ?_ _)); refine blk_put (cs := #[.int .i64 t167, .int .i64 (rd y169 t172), .int .i64 t175, .int .i64 0, .int .i64 0]) ?_ 3 _ rfl; (with_reducible repeat (first | refine blk_drewN ?_ _ | refine blk_drew ?_ | refine blk_alloc ?_ _)); refine blk_put (cs := #[.int .i64 t167, .int .i64 (rd y169 t172), .int .i64 0, .int .i64 0, .int .i64 0]) ?_ 2 _ rfl; (with_reducible repeat (first | refine blk_drewN ?_ _ | refine blk_drew ?_ | refine blk_alloc ?_ _)); refine blk_put (cs := #[.int .i64 t167, .int .i64 0, .int .i64 0, .int .i64 0, .int .i64 0]) ?_ 1 _ rfl; (with_reducible repeat (first | refine blk_drewN ?_ _ | refine blk_drew ?_ | refine blk_alloc ?_ _)); refine blk_put (cs := #[.int .i64 0, .int .i64 0, .int .i64 0, .int .i64 0, .int .i64 0]) ?_ 0 _ rfl; (with_reducible repeat (first | refine blk_drewN ?_ _ | refine blk_drew ?_ | refine blk_alloc ?_ _)); exact BK166.out), Q_X5_, Q_X12_⟩
  exact steps_nil
 rintro b a w27 hall ⟨v170, adz_v170, v179, adz_v179, m5_, m12_, ha, Q_BK166, Q_HI0, Q_HK, Q_HB, Q_HI0_e1, Q_HO171, Q_HA_HO171, Q_HI0_e4, Q_HI0_e8, Q_HO180, Q_HA_HO180, Q_HI0_e11, Q_BK166_e15, Q_X5_, Q_X12_⟩
 clear BK166 HB HI0 HK
 have hb1_ := hall 1 Q1
 have hb2_ := hall 2 Q1
 have hb4_ := hall 4 Q1
 have hb5_ := hall 5 Q1
 have hb6_ := hall 6 Q1
 have hb8_ := hall 8 Q1
 have hb9_ := hall 9 Q1
 have hb11_ := hall 11 Q1
 have hb12_ := hall 12 Q1
 have hb13_ := hall 13 Q1
 have hb14_ := hall 14 Q1
 have hb15_ := hall 15 Q1
 subst ha
 obtain rfl := Q_X5_ hb5_
 obtain rfl := Q_X12_ hb12_
 simp only [putSel, hb1_, hb2_, hb4_, hb5_, hb6_, hb8_, hb9_, hb11_, hb12_, hb13_, hb14_, hb15_, if_true, Act.put, List.setIfInBounds_toArray, List.set_cons_zero, List.set_cons_succ]
 clear Q_BK166
 clear Q_HI0
 have HK := Aside0.mk Q_HK
 clear Q_HK
 have HB := Aside0.mk Q_HB
 clear Q_HB
 clear Q_HI0_e1
 have HO171 := am (Q_HO171 hb2_)
 clear Q_HO171
 have HA_HO171 := am (Q_HA_HO171 hb2_)
 clear Q_HA_HO171
 clear Q_HI0_e4
 clear Q_HI0_e8
 have HO180 := am (Q_HO180 hb9_)
 clear Q_HO180
 have HA_HO180 := am (Q_HA_HO180 hb9_)
 clear Q_HA_HO180
 have HI0 := am (Q_HI0_e11 hb11_)
 clear Q_HI0_e11
 have BK166 := am (Q_BK166_e15 hb15_)
 clear Q_BK166_e15
 clear hall hb1_ hb2_ hb4_ hb5_ hb6_ hb8_ hb9_ hb11_ hb12_ hb13_ hb14_ hb15_
 obtain ⟨co28, eo28⟩ := HA_HO171.out
 clear HA_HO171
 subst eo28
 obtain ⟨co29, eo29⟩ := HA_HO180.out
 clear HA_HO180
 subst eo29
 try go_wp2
 refine bodyPost_ret (results_cell_row rfl _ _ gb166 90 #[.int .i64 t167, .int .i64 (rd y169 t172), .int .i64 t175, .int .i64 t176, .int .i64 (rd y178 t181)] (0, 0) _ rfl Q29 Try.underlying90 rfl Q1) rfl ?_
 exact ⟨Q9, Q62, Q68, Q58⟩
mutual
def spec_l71Rows.l0 : Nat → List (S90) → Int → List Int → Int → Option ((List (S90)) × Int)
 | 0, _, _, _, _ => none
 | k + 1, x5, x6, x1000, x1001 => if x6 > 0 then ((spec_l71Row.f k x1000 x1001).bind fun bt189 => (if (x5.length : Int) > 0 then ((spec_l6Rd_pick.f k x1000 bt189.2.2.2.2.2 3).bind fun bt196 => (spec_l71Rows.j1 k x5 x6 (bt196.1 == 0) x1000 bt196.2 bt189.1 bt189.2.1 bt189.2.2.1 bt189.2.2.2.1 bt189.2.2.2.2.1)) else (spec_l71Rows.j1 k x5 x6 false x1000 bt189.2.2.2.2.2 bt189.1 bt189.2.1 bt189.2.2.1 bt189.2.2.2.1 bt189.2.2.2.2.1))) else (some (x5, x1001))
def spec_l71Rows.j1 : Nat → List (S90) → Int → Bool → List Int → Int → Int → Int → Int → Int → Int → Option ((List (S90)) × Int)
 | 0, _, _, _, _, _, _, _, _, _, _ => none
 | k + 1, x5, x6, x27, x1000, x1001, x196000, x196001, x196002, x196003, x196004 => if x27 = true then ((spec_l6Rd_pick.f k x1000 x1001 (x5.length : Int)).bind fun bt198 => (if 0 ≤ bt198.1 then (if bt198.1 < (x5.length : Int) then ((spec_l6Rd_pick.f k x1000 bt198.2 2).bind fun bt202 => (if bt202.1 = 0 then (if x5.length < 3518437208883 then (spec_l71Rows.l0 k (x5 ++ [(⟨(rd_T90 x5 bt198.1).f0, (rd_T90 x5 bt198.1).f1, (⟨x196002, x196003⟩ : S36), wrap64 (-((rd_T90 x5 bt198.1).f3))⟩ : S90)]) (wrap64 (x6 - 1)) x1000 bt202.2) else (none)) else (if x5.length < 3518437208883 then (spec_l71Rows.l0 k (x5 ++ [(⟨(rd_T90 x5 bt198.1).f0, (rd_T90 x5 bt198.1).f1, (⟨x196002, x196003⟩ : S36), x196004⟩ : S90)]) (wrap64 (x6 - 1)) x1000 bt202.2) else (none)))) else (none)) else (none))) else (if x5.length < 3518437208883 then (spec_l71Rows.l0 k (x5 ++ [(⟨x196000, x196001, (⟨x196002, x196003⟩ : S36), x196004⟩ : S90)]) (wrap64 (x6 - 1)) x1000 x1001) else (none))
end
def spec_l71Rows.f (k : Nat) (s0_0 : List Int) (s0_1 : Int) (a1 : Int) : Option ((List (S90)) × Int) := (spec_l6Rd_pick.f k s0_0 s0_1 (wrap64 (a1 + 1))).bind fun bt187 => (spec_l71Rows.l0 k (([] : List (S90))) bt187.1 s0_0 bt187.2)
set_option maxHeartbeats 8000000 in
set_option maxRecDepth 100000 in
theorem spec_l71Rows.calls (k : Nat) (g : Nat) (s0_0 : List Int) (s0_1 : Int) (a1 : Int) (r1 : List (S90)) (r2 : Int) (w0 w : World) (hI : IsS112 w0 w g s0_0 s0_1) (hB : Below w0.heap.size w0 w) (h : spec_l71Rows.f k s0_0 s0_1 a1 = some (r1, r2)) :
  Calls Try.prog 103 #[.pointer (some ⟨g, 0, none⟩), .int .i64 a1] w fun e w' => ∃ v0_ : Value, e = .returned (v0_) ∧ Kd.R k90 90 w' w.heap.size (fun _ => True) v0_ r1 ∧ IsS112 w0 w' g s0_0 r2 ∧ Below w0.heap.size w0 w' ∧ KeepBut w w' g none := by
 have hu90 := Try.underlying90
 have HI0 := Aside0.mk hI
 have HK := am (KeepBut.refl w g none)
 have HL := Aside0.mk hB.size
 clear hI
 have HW0 := Aside0.mk hB.size
 have HB := Aside0.mk hB
 clear hB
 have H : ((spec_l6Rd_pick.f k s0_0 s0_1 (wrap64 (a1 + 1))).bind fun bt187 => (spec_l71Rows.l0 k (([] : List (S90))) bt187.1 s0_0 bt187.2)) = some (r1, r2) := h
 clear h
 obtain ⟨y184, hy_⟩ : ∃ y_ : List (S90), y_ = (([] : List (S90))) := ⟨_, rfl⟩
 replace H : ((spec_l6Rd_pick.f k s0_0 s0_1 (wrap64 (a1 + 1))).bind fun bt187 => (spec_l71Rows.l0 k y184 bt187.1 s0_0 bt187.2)) = some (r1, r2) := Q74
 have Ny184 := Aside0.mk hy_
 clear hy_
 replace H := Option.bind_eq_some_iff.mp H
 obtain ⟨⟨t187, t188⟩, A30, H⟩ := H
 replace H : (spec_l71Rows.l0 k y184 t187 s0_0 t188) = some (r1, r2) := H
 have A3 := Aside0.mk A30
 clear A30
 have H' := Aside0.mk H
 clear H
 go_enter Try.func103, Try.ntmps103
 go_wp2_with (first | ((with_reducible refine gate_dst (N := 9) rfl ?_); refine Kd.R_lit k90 _ 90 ?hg (N := 9) ?hd (xs := ([] : List (S90))) (inner := []) (ok := fun _ => True) (okp := fun _ => True) ?hr ?hp (fun _ hk => hk) trivial (Below.refl _ _) (Nat.le_refl _) (by simp) ?_; (case hd => rfl); (case hg => rfl); (case hr => first | (go_simp; done) | (go_simp; rfl)); (case hp => exact (Reps.none _ _)); intro v185 w4 ho5 hb hg_ hnew_; clear hg_ hnew_; (first | rw [← Ny184.out] at ho5 | (simp only [Int.reduceToNat] at ho5; rw [← Ny184.out] at ho5)); have HO186 := am (Kd.R_lower ho5 (keep_size (w := w) (g := g) (row := none) Q39)); replace HK := am (KeepBut.trans Q39 (KeepBut.of_below hb g none) (.inl rfl)); replace HB := am (below_step Q55 hb); replace HI0 := am (IsS112.below Q40 hb); clear hb ho5) | ((with_reducible refine gate_callee (f := 67) rfl ?_); refine goesL_ (some 13) rfl rfl Try.func67 Q1 rfl #[.pointer (some ⟨g, 0, none⟩), .int .i64 (wrap64 (a1 + 1))] rfl Q37 ?_; (with_reducible refine (spec_l6Rd_pick.calls k g s0_0 s0_1 (wrap64 (a1 + 1)) t187 t188 w0 _ ?side1 ?side2 A3.out).mono ?_); (case side1 => exact Q40); (case side2 => exact Q55); rintro e w6 ⟨rfl, hi, hb, hk⟩; refine ⟨_, rfl, ?_⟩; replace HO186 := am (Kd.R_mono (Kd.R_keep (IsS112.apart (show IsS112 w0 _ g s0_0 s0_1 from by repeat (first | (with_reducible first | exact HI0.out | apply IsS112.alloc | apply IsS112.drewN | apply IsS112.drew | apply IsS112.set_1) | exact HI0.out)) (by (with_reducible repeat (first | apply Kd.R_alloc | apply Kd.R_drewN | apply Kd.R_drew)); exact HO186.out) Q0) hk (fun _ h => h.2)) (fun _ h => h.1)); replace HK := am (KeepBut.trans Q39 hk (.inl rfl)); replace HB := am (hb); replace HI0 := am (hi); (try clear hb hk hi)))
 go_loopg [5, 6] k (fun kq v5 v6 w' => ∃ (x5_1 : List (S90)) (x6_1 : Int) (x1001_1 : Int), v6 = .int .i64 x6_1 ∧ Aside0 (spec_l71Rows.l0 kq x5_1 x6_1 s0_0 x1001_1 = some (r1, r2)) ∧ Aside0 (kq ≤ k) ∧ Aside0 (Kd.R k90 90 w' w.heap.size (fun _ => True) v5 x5_1) ∧ Aside0 (IsS112 w0 w' g s0_0 x1001_1) ∧ Aside0 (KeepBut w w' g none) ∧ Aside0 (Below w0.heap.size w0 w'))
 case atStart => exact ⟨(y184), (t187), (t188), Q4, H', ⟨Nat.le_refl _⟩, ⟨by (with_reducible repeat (first | apply Kd.R_alloc | apply Kd.R_drewN | apply Kd.R_drew)); exact HO186.out⟩, ⟨Q40⟩, ⟨Q39⟩, ⟨Q55⟩⟩
 case round =>
  clear H'
  try clear c1
  try clear p2
  try clear c6
  try clear p6
  obtain ⟨x5_1, x6_1, x1001_1, rfl, HA, HK1, HO_5, HI0, HK, HB⟩ := hrel
  cases gk with
  | zero => exact absurd HA.out (by simp [spec_l71Rows.l0])
  | succ k1 =>
   have H := HA.out
   clear HA
   simp only [spec_l71Rows.l0] at H
   by_cases c7 : x6_1 > 0
   ·rw [if_pos c7] at H
    have c7b0 : decide (0 < x6_1) = true := decide_eq_true c7
    clear c7
    replace H := Option.bind_eq_some_iff.mp H
    obtain ⟨⟨t189, t190, t191, t192, t193, t194⟩, A80, H⟩ := H
    replace H : (if (x5_1.length : Int) > 0 then ((spec_l6Rd_pick.f k1 s0_0 t194 3).bind fun bt196 => (spec_l71Rows.j1 k1 x5_1 x6_1 (bt196.1 == 0) s0_0 bt196.2 t189 t190 t191 t192 t193)) else (spec_l71Rows.j1 k1 x5_1 x6_1 false s0_0 t194 t189 t190 t191 t192 t193)) = some (r1, r2) := H
    have A8 := Aside0.mk A80
    clear A80
    have HC9 := Aside0.mk H
    clear H
    go_upto_region 6 with (first | ((with_reducible refine gate_callee (f := 125) rfl ?_); refine goesL_ (some 19) rfl rfl Try.func125 Q1 rfl #[.pointer (some ⟨g, 0, none⟩)] rfl Q37 ?_; (with_reducible refine (spec_l71Row.calls k1 g s0_0 x1001_1 t189 t190 t191 t192 t193 t194 w0 _ ?side1 ?side2 A8.out).mono ?_); (case side1 => exact Q40); (case side2 => exact Q55); rintro e w10 ⟨rfl, hi, hb, hk⟩; refine ⟨_, rfl, ?_⟩; replace HO_5 := am (Kd.R_mono (Kd.R_keep (IsS112.apart (show IsS112 w0 _ g s0_0 x1001_1 from by repeat (first | (with_reducible first | exact HI0.out | apply IsS112.alloc | apply IsS112.drewN | apply IsS112.drew | apply IsS112.set_1) | exact HI0.out)) Q13 Q0) hk (fun _ h => h.2)) (fun _ h => h.1)); replace HK := am (KeepBut.trans Q39 hk (.inl rfl)); replace HB := am (hb); replace HI0 := am (hi); (try clear hb hk hi)) | ((with_reducible refine gate_dst (N := 7) rfl ?_); refine bE_ 7 #[.int .i64 0, .int .i64 0, .int .i64 0, .int .i64 0, .int .i64 0] 90 ?_; intro gb195 hg w11 hbox hb; replace HO_5 := am (Kd.R_below (Kd.R_elderB Q13 gb195 (Nat.le_of_eq hg.symm)) hb); replace HB := am (below_step Q55 hb); have BK195 := am (hbox); have GW195 := am ((Q83 : w.heap.size ≤ gb195)); have GE195 := am ((Nat.le_trans HW0.out (Q83 : w.heap.size ≤ gb195) : w0.heap.size ≤ gb195)); replace HK := am (KeepBut.trans Q39 (KeepBut.of_below hb g none) (.inl rfl)); have NB0_195 := am ((by rw [hg]; exact Nat.ne_of_lt (IsS112.lt (show IsS112 w0 _ g s0_0 t194 from by repeat (first | (with_reducible first | exact HI0.out | apply IsS112.alloc | apply IsS112.drewN | apply IsS112.drew | apply IsS112.set_1) | exact HI0.out))) : g ≠ gb195)); have NB195_0 := am ((by rw [hg]; exact Nat.ne_of_gt (IsS112.lt (show IsS112 w0 _ g s0_0 t194 from by repeat (first | (with_reducible first | exact HI0.out | apply IsS112.alloc | apply IsS112.drewN | apply IsS112.drew | apply IsS112.set_1) | exact HI0.out))) : gb195 ≠ g)); replace HI0 := am (IsS112.below Q40 hb); clear hb hbox hg; have hnb12 := NB195_0.out; have hnc12 := NB0_195.out; obtain ⟨hcz13_0, hcz13_1, hcz13_2, hcz13_3, hcz13_4, hfz13_0, hfz13_1, hfz13_2, hfz13_3, hfz13_4⟩ := bx5_ BK195))
    (try simp only [Act.put, List.setIfInBounds_toArray, List.set_cons_zero, List.set_cons_succ])
    go_cut [27] (fun v27 wc => ∃ (kq : Nat) (x27_8 : Bool) (x1001_8 : Int), v27 = .bool x27_8 ∧ Aside0 (spec_l71Rows.j1 kq x5_1 x6_1 x27_8 s0_0 x1001_8 t189 t190 t191 t192 t193 = some (r1, r2)) ∧ Aside0 (kq ≤ k1) ∧ Aside0 (Kd.R k90 90 wc w.heap.size (fun k_ => k_ ≠ gb195) u5 x5_1) ∧ Aside0 (wc.heap[gb195]? = some (.cells #[.int .i64 t189, .int .i64 t190, .int .i64 t191, .int .i64 t192, .int .i64 t193] 90 (0, 0))) ∧ Aside0 (IsS112 w0 wc g s0_0 x1001_8) ∧ Aside0 (KeepBut w wc g none) ∧ Aside0 (Below w0.heap.size w0 wc))
    case first =>
     have H := HC9.out
     clear HC9
     by_cases c14 : (x5_1.length : Int) > 0
     ·rw [if_pos c14] at H
      have c14b0 : decide (0 < (x5_1.length : Int)) = true := decide_eq_true c14
      have c14b1 : decide (0 < x5_1.length) = true := decide_eq_true (by omega)
      clear c14
      (first | rw [c14b0] | (simp only [i64_w, i32_w]; rw [c14b0]) | skip)
      replace H := Option.bind_eq_some_iff.mp H
      obtain ⟨⟨t196, t197⟩, A150, H⟩ := H
      replace H : (spec_l71Rows.j1 k1 x5_1 x6_1 (t196 == 0) s0_0 t197 t189 t190 t191 t192 t193) = some (r1, r2) := H
      have A15 := Aside0.mk A150
      clear A150
      have H' := Aside0.mk H
      clear H
      obtain ⟨Ao16, co16, eo16⟩ := Kd.R_slice HO_5.out
      subst eo16
      go_wp2_with (first | (go_at_call 67; (with_reducible refine (spec_l6Rd_pick.calls k1 g s0_0 t194 3 t196 t197 w0 _ ?side1 ?side2 A15.out).mono ?_); (case side1 => exact Q63); (case side2 => exact Q69); rintro e w17 ⟨rfl, hi, hb, hk⟩; replace HO_5 := am (Kd.R_mono (Kd.R_keep (IsS112.apart (show IsS112 w0 _ g s0_0 t194 from by repeat (first | (with_reducible first | exact HI0.out | apply IsS112.alloc | apply IsS112.drewN | apply IsS112.drew | apply IsS112.set_1 | refine IsS112.far ?_ NB0_195.out _) | exact HI0.out)) (by (with_reducible repeat (first | apply Kd.R_alloc | apply Kd.R_drewN | apply Kd.R_drew)); exact (Kd.R_mono (Kd.R_far (p := ⟨gb195, 4, none⟩) (Kd.R_far (p := ⟨gb195, 3, none⟩) (Kd.R_far (p := ⟨gb195, 2, none⟩) (Kd.R_far (p := ⟨gb195, 1, none⟩) (Kd.R_far (p := ⟨gb195, 0, none⟩) (Kd.R_mono HO_5.out (fun k_ hk => (⟨hk, hk.2⟩ : _ ∧ k_ ≠ gb195))) (fun _ hk => hk.2) (.int .i64 t189)) (fun _ hk => hk.2) (.int .i64 t190)) (fun _ hk => hk.2) (.int .i64 t191)) (fun _ hk => hk.2) (.int .i64 t192)) (fun _ hk => hk.2) (.int .i64 t193)) (fun _ h_ => h_.1))) Q0) hk (fun _ h => h.2)) (fun _ h => h.1)); replace BK195 := am (KeepBut.blk hk (g' := gb195) (o := .cells #[.int .i64 t189, .int .i64 t190, .int .i64 t191, .int .i64 t192, .int .i64 t193] 90 (0, 0)) (by (with_reducible repeat (first | refine blk_drewN ?_ _ | refine blk_drew ?_ | refine blk_alloc ?_ _)); refine blk_put (cs := #[.int .i64 t189, .int .i64 t190, .int .i64 t191, .int .i64 t192, .int .i64 0]) ?_ 4 _ rfl; (with_reducible repeat (first | refine blk_drewN ?_ _ | refine blk_drew ?_ | refine blk_alloc ?_ _)); refine blk_put (cs := #[.int .i64 t189, .int .i64 t190, .int .i64 t191, .int .i64 0, .int .i64 0]) ?_ 3 _ rfl; (with_reducible repeat (first | refine blk_drewN ?_ _ | refine blk_drew ?_ | refine blk_alloc ?_ _)); refine blk_put (cs := #[.int .i64 t189, .int .i64 t190, .int .i64 0, .int .i64 0, .int .i64 0]) ?_ 2 _ rfl; (with_reducible repeat (first | refine blk_drewN ?_ _ | refine blk_drew ?_ | refine blk_alloc ?_ _)); refine blk_put (cs := #[.int .i64 t189, .int .i64 0, .int .i64 0, .int .i64 0, .int .i64 0]) ?_ 1 _ rfl; (with_reducible repeat (first | refine blk_drewN ?_ _ | refine blk_drew ?_ | refine blk_alloc ?_ _)); refine blk_put (cs := #[.int .i64 0, .int .i64 0, .int .i64 0, .int .i64 0, .int .i64 0]) ?_ 0 _ rfl; (with_reducible repeat (first | refine blk_drewN ?_ _ | refine blk_drew ?_ | refine blk_alloc ?_ _)); exact BK195.out) NB195_0.out (by simp)); replace HK := am (KeepBut.trans Q59 hk (.inl rfl)); replace HB := am (hb); replace HI0 := am (hi); (try clear hb hk hi)))
      go_meet
      case rel => exact ⟨_, ((t196 == 0)), (t197), Q4, H', ⟨Q6⟩, ⟨by (with_reducible repeat (first | apply Kd.R_alloc | apply Kd.R_drewN | apply Kd.R_drew)); exact Kd.R_mono HO_5.out (fun _ hk => hk.2)⟩, ⟨Q30⟩, ⟨Q63⟩, ⟨Q59⟩, ⟨Q69⟩⟩
     ·rw [if_neg c14] at H
      have c14b0 : decide (0 < (x5_1.length : Int)) = false := decide_eq_false c14
      have c14b1 : decide (0 < x5_1.length) = false := decide_eq_false (by omega)
      clear c14
      (first | rw [c14b0] | (simp only [i64_w, i32_w]; rw [c14b0]) | skip)
      have H' := Aside0.mk H
      clear H
      obtain ⟨Ao18, co18, eo18⟩ := Kd.R_slice HO_5.out
      subst eo18
      go_wp2
      go_meet
      case rel => exact ⟨_, (false), (t194), Q4, H', ⟨Q6⟩, ⟨by (with_reducible repeat (first | apply Kd.R_alloc | apply Kd.R_drewN | apply Kd.R_drew)); exact Kd.R_mono (Kd.R_far (p := ⟨gb195, 4, none⟩) (Kd.R_far (p := ⟨gb195, 3, none⟩) (Kd.R_far (p := ⟨gb195, 2, none⟩) (Kd.R_far (p := ⟨gb195, 1, none⟩) (Kd.R_far (p := ⟨gb195, 0, none⟩) (Kd.R_mono HO_5.out (fun k_ hk => (⟨hk, hk.2⟩ : _ ∧ k_ ≠ gb195))) (fun _ hk => hk.2) (.int .i64 t189)) (fun _ hk => hk.2) (.int .i64 t190)) (fun _ hk => hk.2) (.int .i64 t191)) (fun _ hk => hk.2) (.int .i64 t192)) (fun _ hk => hk.2) (.int .i64 t193)) (fun _ hk => hk.1.2)⟩, ⟨by (with_reducible repeat (first | refine blk_drewN ?_ _ | refine blk_drew ?_ | refine blk_alloc ?_ _)); refine blk_put (cs := #[.int .i64 t189, .int .i64 t190, .int .i64 t191, .int .i64 t192, .int .i64 0]) ?_ 4 _ rfl; (with_reducible repeat (first | refine blk_drewN ?_ _ | refine blk_drew ?_ | refine blk_alloc ?_ _)); refine blk_put (cs := #[.int .i64 t189, .int .i64 t190, .int .i64 t191, .int .i64 0, .int .i64 0]) ?_ 3 _ rfl; (with_reducible repeat (first | refine blk_drewN ?_ _ | refine blk_drew ?_ | refine blk_alloc ?_ _)); refine blk_put (cs := #[.int .i64 t189, .int .i64 t190, .int .i64 0, .int .i64 0, .int .i64 0]) ?_ 2 _ rfl; (with_reducible repeat (first | refine blk_drewN ?_ _ | refine blk_drew ?_ | refine blk_alloc ?_ _)); refine blk_put (cs := #[.int .i64 t189, .int .i64 0, .int .i64 0, .int .i64 0, .int .i64 0]) ?_ 1 _ rfl; (with_reducible repeat (first | refine blk_drewN ?_ _ | refine blk_drew ?_ | refine blk_alloc ?_ _)); refine blk_put (cs := #[.int .i64 0, .int .i64 0, .int .i64 0, .int .i64 0, .int .i64 0]) ?_ 0 _ rfl; (with_reducible repeat (first | refine blk_drewN ?_ _ | refine blk_drew ?_ | refine blk_alloc ?_ _)); exact BK195.out⟩, ⟨Q63⟩, ⟨Q59⟩, ⟨Q69⟩⟩
    case rest =>
     clear HC9
     try clear c1
     try clear p2
     try clear c6
     try clear p6
     try clear c7
     try clear c7b0
     try clear c10
     try clear c12
     try clear c14
     try clear c14b0
     try clear c14b1
     try clear hcz13_0
     try clear hcz13_1
     try clear hcz13_2
     try clear hcz13_3
     try clear hcz13_4
     try clear hfz13_0
     try clear hfz13_1
     try clear hfz13_2
     try clear hfz13_3
     try clear hfz13_4
     try clear p2
     try clear p6
     obtain ⟨kq, x27_8, x1001_8, rfl, HA, HJ8, HO_5, BK195, HI0, HK, HB⟩ := hcut
     cases kq with
     | zero => exact absurd HA.out (by simp [spec_l71Rows.j1])
     | succ kj8 =>
      have H := HA.out
      clear HA
      simp only [spec_l71Rows.j1] at H
      by_cases c19 : x27_8 = true
      ·subst c19
       have H1 : ((spec_l6Rd_pick.f kj8 s0_0 x1001_8 (x5_1.length : Int)).bind fun bt198 => (if 0 ≤ bt198.1 then (if bt198.1 < (x5_1.length : Int) then ((spec_l6Rd_pick.f kj8 s0_0 bt198.2 2).bind fun bt202 => (if bt202.1 = 0 then (if x5_1.length < 3518437208883 then (spec_l71Rows.l0 kj8 (x5_1 ++ [(⟨(rd_T90 x5_1 bt198.1).f0, (rd_T90 x5_1 bt198.1).f1, (⟨t191, t192⟩ : S36), wrap64 (-((rd_T90 x5_1 bt198.1).f3))⟩ : S90)]) (wrap64 (x6_1 - 1)) s0_0 bt202.2) else (none)) else (if x5_1.length < 3518437208883 then (spec_l71Rows.l0 kj8 (x5_1 ++ [(⟨(rd_T90 x5_1 bt198.1).f0, (rd_T90 x5_1 bt198.1).f1, (⟨t191, t192⟩ : S36), t193⟩ : S90)]) (wrap64 (x6_1 - 1)) s0_0 bt202.2) else (none)))) else (none)) else (none))) = some (r1, r2) := by rw [if_pos rfl] at H; exact H
       clear H
       have H := H1
       clear H1
       replace H := Option.bind_eq_some_iff.mp H
       obtain ⟨⟨t198, t199⟩, A200, H⟩ := H
       replace H : (if 0 ≤ t198 then (if t198 < (x5_1.length : Int) then ((spec_l6Rd_pick.f kj8 s0_0 t199 2).bind fun bt202 => (if bt202.1 = 0 then (if x5_1.length < 3518437208883 then (spec_l71Rows.l0 kj8 (x5_1 ++ [(⟨(rd_T90 x5_1 t198).f0, (rd_T90 x5_1 t198).f1, (⟨t191, t192⟩ : S36), wrap64 (-((rd_T90 x5_1 t198).f3))⟩ : S90)]) (wrap64 (x6_1 - 1)) s0_0 bt202.2) else (none)) else (if x5_1.length < 3518437208883 then (spec_l71Rows.l0 kj8 (x5_1 ++ [(⟨(rd_T90 x5_1 t198).f0, (rd_T90 x5_1 t198).f1, (⟨t191, t192⟩ : S36), t193⟩ : S90)]) (wrap64 (x6_1 - 1)) s0_0 bt202.2) else (none)))) else (none)) else (none)) = some (r1, r2) := H
       have A20 := Aside0.mk A200
       clear A200
       have c21 : 0 ≤ t198 := nn_ H
       rw [if_pos c21] at H
       have c21b0 : decide (0 ≤ t198) = true := decide_eq_true c21
       clear c21
       have c22 : t198 < (x5_1.length : Int) := nn_ H
       rw [if_pos c22] at H
       have c22b0 : decide (t198 < (x5_1.length : Int)) = true := decide_eq_true c22
       clear c22
       replace H := Option.bind_eq_some_iff.mp H
       obtain ⟨⟨t202, t203⟩, A230, H⟩ := H
       replace H : (if t202 = 0 then (if x5_1.length < 3518437208883 then (spec_l71Rows.l0 kj8 (x5_1 ++ [(⟨(rd_T90 x5_1 t198).f0, (rd_T90 x5_1 t198).f1, (⟨t191, t192⟩ : S36), wrap64 (-((rd_T90 x5_1 t198).f3))⟩ : S90)]) (wrap64 (x6_1 - 1)) s0_0 t203) else (none)) else (if x5_1.length < 3518437208883 then (spec_l71Rows.l0 kj8 (x5_1 ++ [(⟨(rd_T90 x5_1 t198).f0, (rd_T90 x5_1 t198).f1, (⟨t191, t192⟩ : S36), t193⟩ : S90)]) (wrap64 (x6_1 - 1)) s0_0 t203) else (none))) = some (r1, r2) := H
       have A23 := Aside0.mk A230
       clear A230
       by_cases c24 : t202 = 0
       ·rw [if_pos c24] at H
        have c24b0 : (t202 == 0) = true := beq_iff_eq.mpr c24
        have c24b1 : (t202 != 0) = false := bne_eq_false_iff_eq.mpr c24
        clear c24
        have c25 : x5_1.length < 3518437208883 := nn_ H
        rw [if_pos c25] at H
        have LMc25 := Aside0.mk c25
        clear c25
        obtain ⟨y204, hy_⟩ : ∃ y_ : List (S90), y_ = (x5_1 ++ [(⟨(rd_T90 x5_1 t198).f0, (rd_T90 x5_1 t198).f1, (⟨t191, t192⟩ : S36), wrap64 (-((rd_T90 x5_1 t198).f3))⟩ : S90)]) := ⟨_, rfl⟩
        replace H : (spec_l71Rows.l0 kj8 y204 (wrap64 (x6_1 - 1)) s0_0 t203) = some (r1, r2) := Q74
        have Ny204 := Aside0.mk hy_
        clear hy_
        have H' := Aside0.mk H
        clear H
        obtain ⟨Ao26, co26, eo26⟩ := Kd.R_slice HO_5.out
        subst eo26
        go_wp2_with (first | ((with_reducible refine gate_callee (f := 67) rfl ?_); refine goesL_ (some 32) rfl rfl Try.func67 Q1 rfl #[.pointer (some ⟨g, 0, none⟩), .int .i64 (x5_1.length : Int)] rfl Q37 ?_; (with_reducible refine (spec_l6Rd_pick.calls kj8 g s0_0 x1001_8 (x5_1.length : Int) t198 t199 w0 _ ?side1 ?side2 A20.out).mono ?_); (case side1 => exact Q63); (case side2 => exact Q69); rintro e w27 ⟨rfl, hi, hb, hk⟩; refine ⟨_, rfl, ?_⟩; replace HO_5 := am (Kd.R_mono (Kd.R_keep (IsS112.apart (show IsS112 w0 _ g s0_0 x1001_8 from by repeat (first | (with_reducible first | exact HI0.out | apply IsS112.alloc | apply IsS112.drewN | apply IsS112.drew | apply IsS112.set_1 | refine IsS112.far ?_ NB0_195.out _) | exact HI0.out)) Q13 Q0) hk (fun _ h => h.2)) (fun _ h => h.1)); replace BK195 := am (KeepBut.blk hk (g' := gb195) (o := .cells #[.int .i64 t189, .int .i64 t190, .int .i64 t191, .int .i64 t192, .int .i64 t193] 90 (0, 0)) Q30 NB195_0.out (by simp)); replace HK := am (KeepBut.trans Q59 hk (.inl rfl)); replace HB := am (hb); replace HI0 := am (hi); (try clear hb hk hi); have p200 : 0 ≤ (t198 : Int) := of_decide_eq_true Q5; have q200 : t198 < (x5_1.length : Int) := of_decide_eq_true Q5; obtain ⟨ad200, e200, hx200_0, hx200_1, hx200_2, hx200_3, hx200_4⟩ := at_T90 (Kd.R_reads' HO_5.out).2.2 t198 p200 q200; cases e200; replace p200 := eq_true p200; replace q200 := eq_true q200) | ((with_reducible refine gate_dst (N := 8) rfl ?_); refine bE_ 8 #[.int .i64 0, .int .i64 0, .int .i64 0, .int .i64 0, .int .i64 0] 90 ?_; intro gb201 hg w28 hbox hb; replace HO_5 := am (Kd.R_below (Kd.R_elderB Q13 gb201 (Nat.le_of_eq hg.symm)) hb); replace HB := am (below_step Q69 hb); have BK201 := am (hbox); have GW201 := am ((Q84 : w.heap.size ≤ gb201)); have GE201 := am ((Nat.le_trans HW0.out (Q84 : w.heap.size ≤ gb201) : w0.heap.size ≤ gb201)); replace HK := am (KeepBut.trans Q59 (KeepBut.of_below hb g none) (.inl rfl)); have NB195_201 := am ((by rw [hg]; exact Nat.ne_of_lt (blk_lt (g := gb195) (o := .cells #[.int .i64 t189, .int .i64 t190, .int .i64 t191, .int .i64 t192, .int .i64 t193] 90 (0, 0)) Q30) : gb195 ≠ gb201)); have NB201_195 := am ((by rw [hg]; exact Nat.ne_of_gt (blk_lt (g := gb195) (o := .cells #[.int .i64 t189, .int .i64 t190, .int .i64 t191, .int .i64 t192, .int .i64 t193] 90 (0, 0)) Q30) : gb201 ≠ gb195)); replace BK195 := am (blk_below (g := gb195) (o := .cells #[.int .i64 t189, .int .i64 t190, .int .i64 t191, .int .i64 t192, .int .i64 t193] 90 (0, 0)) Q30 hb); have NB0_201 := am ((by rw [hg]; exact Nat.ne_of_lt (IsS112.lt (show IsS112 w0 _ g s0_0 t199 from by repeat (first | (with_reducible first | exact HI0.out | apply IsS112.alloc | apply IsS112.drewN | apply IsS112.drew | apply IsS112.set_1 | refine IsS112.far ?_ NB0_195.out _) | exact HI0.out))) : g ≠ gb201)); have NB201_0 := am ((by rw [hg]; exact Nat.ne_of_gt (IsS112.lt (show IsS112 w0 _ g s0_0 t199 from by repeat (first | (with_reducible first | exact HI0.out | apply IsS112.alloc | apply IsS112.drewN | apply IsS112.drew | apply IsS112.set_1 | refine IsS112.far ?_ NB0_195.out _) | exact HI0.out))) : gb201 ≠ g)); replace HI0 := am (IsS112.below Q63 hb); clear hb hbox hg; have hnb29 := NB201_195.out; have hnc29 := NB195_201.out; have hnb30 := NB201_0.out; have hnc30 := NB0_201.out; obtain ⟨hcz31_0, hcz31_1, hcz31_2, hcz31_3, hcz31_4, hfz31_0, hfz31_1, hfz31_2, hfz31_3, hfz31_4⟩ := bx5_ BK201; have hnb32 := NB195_0.out; have hnc32 := NB0_195.out; obtain ⟨hcz33_0, hcz33_1, hcz33_2, hcz33_3, hcz33_4, hfz33_0, hfz33_1, hfz33_2, hfz33_3, hfz33_4⟩ := bx5_ BK195) | ((with_reducible refine gate_callee (f := 67) rfl ?_); refine goesL_ (some 42) rfl rfl Try.func67 Q1 rfl #[.pointer (some ⟨g, 0, none⟩), .int .i64 2] rfl Q37 ?_; (with_reducible refine (spec_l6Rd_pick.calls kj8 g s0_0 t199 2 t202 t203 w0 _ ?side1 ?side2 A23.out).mono ?_); (case side1 => exact Q72); (case side2 => exact Q73); rintro e w34 ⟨rfl, hi, hb, hk⟩; refine ⟨_, rfl, ?_⟩; replace HO_5 := am (Kd.R_mono (Kd.R_keep (IsS112.apart (show IsS112 w0 _ g s0_0 t199 from by repeat (first | (with_reducible first | exact HI0.out | apply IsS112.alloc | apply IsS112.drewN | apply IsS112.drew | apply IsS112.set_1 | refine IsS112.far ?_ NB0_195.out _ | refine IsS112.far ?_ NB0_201.out _) | exact HI0.out)) (by (with_reducible repeat (first | apply Kd.R_alloc | apply Kd.R_drewN | apply Kd.R_drew)); exact (Kd.R_mono (Kd.R_mono (Kd.R_far (p := ⟨gb195, 1, none⟩) (Kd.R_far (p := ⟨gb195, 0, none⟩) (Kd.R_far (p := ⟨gb201, 4, none⟩) (Kd.R_far (p := ⟨gb201, 3, none⟩) (Kd.R_far (p := ⟨gb201, 2, none⟩) (Kd.R_far (p := ⟨gb201, 1, none⟩) (Kd.R_far (p := ⟨gb201, 0, none⟩) (Kd.R_mono (Kd.R_mono HO_5.out (fun k_ hk => (⟨hk, hk.2⟩ : _ ∧ k_ ≠ gb201))) (fun k_ hk => (⟨hk, hk.1.1⟩ : _ ∧ k_ ≠ gb195))) (fun _ hk => hk.1.2) (.int .i64 ((rd_T90 x5_1 t198).f0))) (fun _ hk => hk.1.2) (.int .i64 ((rd_T90 x5_1 t198).f1))) (fun _ hk => hk.1.2) (.int .i64 ((rd_T90 x5_1 t198).f2.f0))) (fun _ hk => hk.1.2) (.int .i64 ((rd_T90 x5_1 t198).f2.f1))) (fun _ hk => hk.1.2) (.int .i64 ((rd_T90 x5_1 t198).f3))) (fun _ hk => hk.2) (.int .i64 ((rd_T90 x5_1 t198).f0))) (fun _ hk => hk.2) (.int .i64 ((rd_T90 x5_1 t198).f1))) (fun _ h_ => h_.1)) (fun _ h_ => h_.1))) Q0) hk (fun _ h => h.2)) (fun _ h => h.1)); replace BK195 := am (KeepBut.blk hk (g' := gb195) (o := .cells #[.int .i64 ((rd_T90 x5_1 t198).f0), .int .i64 ((rd_T90 x5_1 t198).f1), .int .i64 t191, .int .i64 t192, .int .i64 t193] 90 (0, 0)) (by (with_reducible repeat (first | refine blk_drewN ?_ _ | refine blk_drew ?_ | refine blk_alloc ?_ _)); refine blk_put (cs := #[.int .i64 ((rd_T90 x5_1 t198).f0), .int .i64 t190, .int .i64 t191, .int .i64 t192, .int .i64 t193]) ?_ 1 _ rfl; (with_reducible repeat (first | refine blk_drewN ?_ _ | refine blk_drew ?_ | refine blk_alloc ?_ _)); refine blk_put (cs := #[.int .i64 t189, .int .i64 t190, .int .i64 t191, .int .i64 t192, .int .i64 t193]) ?_ 0 _ rfl; (with_reducible repeat (first | refine blk_drewN ?_ _ | refine blk_drew ?_ | refine blk_alloc ?_ _)); refine blk_far ?_ NB195_201.out _; (with_reducible repeat (first | refine blk_drewN ?_ _ | refine blk_drew ?_ | refine blk_alloc ?_ _)); refine blk_far ?_ NB195_201.out _; (with_reducible repeat (first | refine blk_drewN ?_ _ | refine blk_drew ?_ | refine blk_alloc ?_ _)); refine blk_far ?_ NB195_201.out _; (with_reducible repeat (first | refine blk_drewN ?_ _ | refine blk_drew ?_ | refine blk_alloc ?_ _)); refine blk_far ?_ NB195_201.out _; (with_reducible repeat (first | refine blk_drewN ?_ _ | refine blk_drew ?_ | refine blk_alloc ?_ _)); refine blk_far ?_ NB195_201.out _; (with_reducible repeat (first | refine blk_drewN ?_ _ | refine blk_drew ?_ | refine blk_alloc ?_ _)); exact BK195.out) NB195_0.out (by simp)); replace BK201 := am (KeepBut.blk hk (g' := gb201) (o := .cells #[.int .i64 ((rd_T90 x5_1 t198).f0), .int .i64 ((rd_T90 x5_1 t198).f1), .int .i64 ((rd_T90 x5_1 t198).f2.f0), .int .i64 ((rd_T90 x5_1 t198).f2.f1), .int .i64 ((rd_T90 x5_1 t198).f3)] 90 (0, 0)) (by (with_reducible repeat (first | refine blk_drewN ?_ _ | refine blk_drew ?_ | refine blk_alloc ?_ _)); refine blk_far ?_ NB201_195.out _; (with_reducible repeat (first | refine blk_drewN ?_ _ | refine blk_drew ?_ | refine blk_alloc ?_ _)); refine blk_far ?_ NB201_195.out _; (with_reducible repeat (first | refine blk_drewN ?_ _ | refine blk_drew ?_ | refine blk_alloc ?_ _)); refine blk_put (cs := #[.int .i64 ((rd_T90 x5_1 t198).f0), .int .i64 ((rd_T90 x5_1 t198).f1), .int .i64 ((rd_T90 x5_1 t198).f2.f0), .int .i64 ((rd_T90 x5_1 t198).f2.f1), .int .i64 0]) ?_ 4 _ rfl; (with_reducible repeat (first | refine blk_drewN ?_ _ | refine blk_drew ?_ | refine blk_alloc ?_ _)); refine blk_put (cs := #[.int .i64 ((rd_T90 x5_1 t198).f0), .int .i64 ((rd_T90 x5_1 t198).f1), .int .i64 ((rd_T90 x5_1 t198).f2.f0), .int .i64 0, .int .i64 0]) ?_ 3 _ rfl; (with_reducible repeat (first | refine blk_drewN ?_ _ | refine blk_drew ?_ | refine blk_alloc ?_ _)); refine blk_put (cs := #[.int .i64 ((rd_T90 x5_1 t198).f0), .int .i64 ((rd_T90 x5_1 t198).f1), .int .i64 0, .int .i64 0, .int .i64 0]) ?_ 2 _ rfl; (with_reducible repeat (first | refine blk_drewN ?_ _ | refine blk_drew ?_ | refine blk_alloc ?_ _)); refine blk_put (cs := #[.int .i64 ((rd_T90 x5_1 t198).f0), .int .i64 0, .int .i64 0, .int .i64 0, .int .i64 0]) ?_ 1 _ rfl; (with_reducible repeat (first | refine blk_drewN ?_ _ | refine blk_drew ?_ | refine blk_alloc ?_ _)); refine blk_put (cs := #[.int .i64 0, .int .i64 0, .int .i64 0, .int .i64 0, .int .i64 0]) ?_ 0 _ rfl; (with_reducible repeat (first | refine blk_drewN ?_ _ | refine blk_drew ?_ | refine blk_alloc ?_ _)); exact BK201.out) NB201_0.out (by simp)); replace HK := am (KeepBut.trans Q71 hk (.inl rfl)); replace HB := am (hb); replace HI0 := am (hi); (try clear hb hk hi); obtain ⟨hcz35_0, hcz35_1, hcz35_2, hcz35_3, hcz35_4, hfz35_0, hfz35_1, hfz35_2, hfz35_3, hfz35_4⟩ := bx5_ BK201; obtain ⟨hcz36_0, hcz36_1, hcz36_2, hcz36_3, hcz36_4, hfz36_0, hfz36_1, hfz36_2, hfz36_3, hfz36_4⟩ := bx5_ BK195) | ((with_reducible refine gate_builtin (b := .append) (xs := #[.tmp 48, .tmp 50]) rfl ?_); at_builtin; refine Kd.R_append k90 w.heap.size rfl (.tmp 48) (.tmp 50) 59 90 (.agg #[(.int .i64 0), (.int .i64 0), (.int .i64 0), (.int .i64 0), (.int .i64 0)]) 40 rfl Try.underlying59 info90 rfl Q0 (by omega) (.slice (some ad200) x5_1.length co26) x5_1 (⟨(rd_T90 x5_1 t198).f0, (rd_T90 x5_1 t198).f1, (⟨t191, t192⟩ : S36), wrap64 (-((rd_T90 x5_1 t198).f3))⟩ : S90) [.int .i64 ((rd_T90 x5_1 t198).f0), .int .i64 ((rd_T90 x5_1 t198).f1), .int .i64 t191, .int .i64 t192, .int .i64 (wrap64 (-((rd_T90 x5_1 t198).f3)))] (fun k_ => k_ ≠ gb195 ∧ k_ ≠ gb201) (fun _ => False) rfl (by first | (go_simp; done) | (go_simp; rfl)) ?aP (fun _ hk => hk.elim) ?aF ?aO (Below.refl _ _) ?aS ?aL ?_; (case aP => exact k90_mkM _ _ _ (⟨(rd_T90 x5_1 t198).f0, (rd_T90 x5_1 t198).f1, (⟨t191, t192⟩ : S36), wrap64 (-((rd_T90 x5_1 t198).f3))⟩ : S90)); (case aF => exact (fun k_ hk => ⟨Kd.freshB (g := gb195) (o := .cells #[.int .i64 ((rd_T90 x5_1 t198).f0), .int .i64 ((rd_T90 x5_1 t198).f1), .int .i64 t191, .int .i64 t192, .int .i64 (wrap64 (-((rd_T90 x5_1 t198).f3)))] 90 (0, 0)) (by (with_reducible repeat (first | refine blk_drewN ?_ _ | refine blk_drew ?_ | refine blk_alloc ?_ _)); refine blk_put (cs := #[.int .i64 ((rd_T90 x5_1 t198).f0), .int .i64 ((rd_T90 x5_1 t198).f1), .int .i64 t191, .int .i64 t192, .int .i64 t193]) ?_ 4 _ rfl; (with_reducible repeat (first | refine blk_drewN ?_ _ | refine blk_drew ?_ | refine blk_alloc ?_ _)); exact BK195.out) k_ hk, Kd.freshB (g := gb201) (o := .cells #[.int .i64 ((rd_T90 x5_1 t198).f0), .int .i64 ((rd_T90 x5_1 t198).f1), .int .i64 ((rd_T90 x5_1 t198).f2.f0), .int .i64 ((rd_T90 x5_1 t198).f2.f1), .int .i64 ((rd_T90 x5_1 t198).f3)] 90 (0, 0)) (by (with_reducible repeat (first | refine blk_drewN ?_ _ | refine blk_drew ?_ | refine blk_alloc ?_ _)); refine blk_far ?_ NB201_195.out _; (with_reducible repeat (first | refine blk_drewN ?_ _ | refine blk_drew ?_ | refine blk_alloc ?_ _)); exact BK201.out) k_ hk⟩)); (case aO => exact (by (with_reducible repeat (first | apply Kd.R_alloc | apply Kd.R_drewN | apply Kd.R_drew)); exact Kd.R_mono (Kd.R_far (p := ⟨gb195, 4, none⟩) (Kd.R_mono HO_5.out (fun k_ hk => (⟨hk, hk.1⟩ : _ ∧ k_ ≠ gb195))) (fun _ hk => hk.2) (.int .i64 (wrap64 (-((rd_T90 x5_1 t198).f3))))) (fun _ hk => ⟨hk.1.1, hk.1.2⟩))); (case aS => exact (keep_size (w := w) (g := g) (row := none) Q71)); (case aL => have := LMc25.out; omega); intro v205 w37 ho hb hg hat; rw [← Ny204.out] at ho; replace BK195 := am (blk_grown (g := gb195) (o := .cells #[.int .i64 ((rd_T90 x5_1 t198).f0), .int .i64 ((rd_T90 x5_1 t198).f1), .int .i64 t191, .int .i64 t192, .int .i64 (wrap64 (-((rd_T90 x5_1 t198).f3)))] 90 (0, 0)) (by (with_reducible repeat (first | refine blk_drewN ?_ _ | refine blk_drew ?_ | refine blk_alloc ?_ _)); refine blk_put (cs := #[.int .i64 ((rd_T90 x5_1 t198).f0), .int .i64 ((rd_T90 x5_1 t198).f1), .int .i64 t191, .int .i64 t192, .int .i64 t193]) ?_ 4 _ rfl; (with_reducible repeat (first | refine blk_drewN ?_ _ | refine blk_drew ?_ | refine blk_alloc ?_ _)); exact BK195.out) hg (Kd.R_away HO_5.out (fun _ hk => hk.1))); replace BK201 := am (blk_grown (g := gb201) (o := .cells #[.int .i64 ((rd_T90 x5_1 t198).f0), .int .i64 ((rd_T90 x5_1 t198).f1), .int .i64 ((rd_T90 x5_1 t198).f2.f0), .int .i64 ((rd_T90 x5_1 t198).f2.f1), .int .i64 ((rd_T90 x5_1 t198).f3)] 90 (0, 0)) (by (with_reducible repeat (first | refine blk_drewN ?_ _ | refine blk_drew ?_ | refine blk_alloc ?_ _)); refine blk_far ?_ NB201_195.out _; (with_reducible repeat (first | refine blk_drewN ?_ _ | refine blk_drew ?_ | refine blk_alloc ?_ _)); exact BK201.out) hg (Kd.R_away HO_5.out (fun _ hk => hk.2))); replace HB := am (below_weaken Q73 HL.out hb); replace HI0 := am (IsS112.grown (show IsS112 w0 _ g s0_0 t203 from by repeat (first | (with_reducible first | exact HI0.out | apply IsS112.alloc | apply IsS112.drewN | apply IsS112.drew | apply IsS112.set_1 | refine IsS112.far ?_ NB0_195.out _ | refine IsS112.far ?_ NB0_201.out _) | exact HI0.out)) hg (IsS112.own_ne HI0.out HO_5.out Q0)); replace HK := am (KeepBut.trans Q71 (KeepBut.of_grown hg g) (Kd.R_base2 HO_5.out)); have HO206 := am (ho); clear HO_5; clear ho hb hg hat))
        go_roundg kj8
        case measure => have := HK1.out; have := HJ8.out; omega
        case rel => exact ⟨(y204), (wrap64 (x6_1 - 1)), (t203), Q4, H', ⟨by have := HK1.out; have := HJ8.out; omega⟩, ⟨by (with_reducible repeat (first | apply Kd.R_alloc | apply Kd.R_drewN | apply Kd.R_drew)); exact Kd.R_mono HO206.out (fun _ hk => trivial)⟩, ⟨Q72⟩, ⟨Q71⟩, ⟨Q73⟩⟩
       ·rw [if_neg c24] at H
        have c24b0 : (t202 == 0) = false := beq_eq_false_iff_ne.mpr c24
        have c24b1 : (t202 != 0) = true := bne_iff_ne.mpr c24
        have c38 : x5_1.length < 3518437208883 := nn_ H
        rw [if_pos c38] at H
        have LMc38 := Aside0.mk c38
        clear c38
        obtain ⟨y207, hy_⟩ : ∃ y_ : List (S90), y_ = (x5_1 ++ [(⟨(rd_T90 x5_1 t198).f0, (rd_T90 x5_1 t198).f1, (⟨t191, t192⟩ : S36), t193⟩ : S90)]) := ⟨_, rfl⟩
        replace H : (spec_l71Rows.l0 kj8 y207 (wrap64 (x6_1 - 1)) s0_0 t203) = some (r1, r2) := Q74
        have Ny207 := Aside0.mk hy_
        clear hy_
        have H' := Aside0.mk H
        clear H
        obtain ⟨Ao39, co39, eo39⟩ := Kd.R_slice HO_5.out
        subst eo39
        go_wp2_with (first | ((with_reducible refine gate_callee (f := 67) rfl ?_); refine goesL_ (some 32) rfl rfl Try.func67 Q1 rfl #[.pointer (some ⟨g, 0, none⟩), .int .i64 (x5_1.length : Int)] rfl Q37 ?_; (with_reducible refine (spec_l6Rd_pick.calls kj8 g s0_0 x1001_8 (x5_1.length : Int) t198 t199 w0 _ ?side1 ?side2 A20.out).mono ?_); (case side1 => exact Q63); (case side2 => exact Q69); rintro e w40 ⟨rfl, hi, hb, hk⟩; refine ⟨_, rfl, ?_⟩; replace HO_5 := am (Kd.R_mono (Kd.R_keep (IsS112.apart (show IsS112 w0 _ g s0_0 x1001_8 from by repeat (first | (with_reducible first | exact HI0.out | apply IsS112.alloc | apply IsS112.drewN | apply IsS112.drew | apply IsS112.set_1 | refine IsS112.far ?_ NB0_195.out _) | exact HI0.out)) Q13 Q0) hk (fun _ h => h.2)) (fun _ h => h.1)); replace BK195 := am (KeepBut.blk hk (g' := gb195) (o := .cells #[.int .i64 t189, .int .i64 t190, .int .i64 t191, .int .i64 t192, .int .i64 t193] 90 (0, 0)) Q30 NB195_0.out (by simp)); replace HK := am (KeepBut.trans Q59 hk (.inl rfl)); replace HB := am (hb); replace HI0 := am (hi); (try clear hb hk hi); have p200 : 0 ≤ (t198 : Int) := of_decide_eq_true Q5; have q200 : t198 < (x5_1.length : Int) := of_decide_eq_true Q5; obtain ⟨ad200, e200, hx200_0, hx200_1, hx200_2, hx200_3, hx200_4⟩ := at_T90 (Kd.R_reads' HO_5.out).2.2 t198 p200 q200; cases e200; replace p200 := eq_true p200; replace q200 := eq_true q200) | ((with_reducible refine gate_dst (N := 8) rfl ?_); refine bE_ 8 #[.int .i64 0, .int .i64 0, .int .i64 0, .int .i64 0, .int .i64 0] 90 ?_; intro gb201 hg w41 hbox hb; replace HO_5 := am (Kd.R_below (Kd.R_elderB Q13 gb201 (Nat.le_of_eq hg.symm)) hb); replace HB := am (below_step Q69 hb); have BK201 := am (hbox); have GW201 := am ((Q84 : w.heap.size ≤ gb201)); have GE201 := am ((Nat.le_trans HW0.out (Q84 : w.heap.size ≤ gb201) : w0.heap.size ≤ gb201)); replace HK := am (KeepBut.trans Q59 (KeepBut.of_below hb g none) (.inl rfl)); have NB195_201 := am ((by rw [hg]; exact Nat.ne_of_lt (blk_lt (g := gb195) (o := .cells #[.int .i64 t189, .int .i64 t190, .int .i64 t191, .int .i64 t192, .int .i64 t193] 90 (0, 0)) Q30) : gb195 ≠ gb201)); have NB201_195 := am ((by rw [hg]; exact Nat.ne_of_gt (blk_lt (g := gb195) (o := .cells #[.int .i64 t189, .int .i64 t190, .int .i64 t191, .int .i64 t192, .int .i64 t193] 90 (0, 0)) Q30) : gb201 ≠ gb195)); replace BK195 := am (blk_below (g := gb195) (o := .cells #[.int .i64 t189, .int .i64 t190, .int .i64 t191, .int .i64 t192, .int .i64 t193] 90 (0, 0)) Q30 hb); have NB0_201 := am ((by rw [hg]; exact Nat.ne_of_lt (IsS112.lt (show IsS112 w0 _ g s0_0 t199 from by repeat (first | (with_reducible first | exact HI0.out | apply IsS112.alloc | apply IsS112.drewN | apply IsS112.drew | apply IsS112.set_1 | refine IsS112.far ?_ NB0_195.out _) | exact HI0.out))) : g ≠ gb201)); have NB201_0 := am ((by rw [hg]; exact Nat.ne_of_gt (IsS112.lt (show IsS112 w0 _ g s0_0 t199 from by repeat (first | (with_reducible first | exact HI0.out | apply IsS112.alloc | apply IsS112.drewN | apply IsS112.drew | apply IsS112.set_1 | refine IsS112.far ?_ NB0_195.out _) | exact HI0.out))) : gb201 ≠ g)); replace HI0 := am (IsS112.below Q63 hb); clear hb hbox hg; have hnb42 := NB201_195.out; have hnc42 := NB195_201.out; have hnb43 := NB201_0.out; have hnc43 := NB0_201.out; obtain ⟨hcz44_0, hcz44_1, hcz44_2, hcz44_3, hcz44_4, hfz44_0, hfz44_1, hfz44_2, hfz44_3, hfz44_4⟩ := bx5_ BK201; have hnb45 := NB195_0.out; have hnc45 := NB0_195.out; obtain ⟨hcz46_0, hcz46_1, hcz46_2, hcz46_3, hcz46_4, hfz46_0, hfz46_1, hfz46_2, hfz46_3, hfz46_4⟩ := bx5_ BK195) | ((with_reducible refine gate_callee (f := 67) rfl ?_); refine goesL_ (some 42) rfl rfl Try.func67 Q1 rfl #[.pointer (some ⟨g, 0, none⟩), .int .i64 2] rfl Q37 ?_; (with_reducible refine (spec_l6Rd_pick.calls kj8 g s0_0 t199 2 t202 t203 w0 _ ?side1 ?side2 A23.out).mono ?_); (case side1 => exact Q72); (case side2 => exact Q73); rintro e w47 ⟨rfl, hi, hb, hk⟩; refine ⟨_, rfl, ?_⟩; replace HO_5 := am (Kd.R_mono (Kd.R_keep (IsS112.apart (show IsS112 w0 _ g s0_0 t199 from by repeat (first | (with_reducible first | exact HI0.out | apply IsS112.alloc | apply IsS112.drewN | apply IsS112.drew | apply IsS112.set_1 | refine IsS112.far ?_ NB0_195.out _ | refine IsS112.far ?_ NB0_201.out _) | exact HI0.out)) (by (with_reducible repeat (first | apply Kd.R_alloc | apply Kd.R_drewN | apply Kd.R_drew)); exact (Kd.R_mono (Kd.R_mono (Kd.R_far (p := ⟨gb195, 1, none⟩) (Kd.R_far (p := ⟨gb195, 0, none⟩) (Kd.R_far (p := ⟨gb201, 4, none⟩) (Kd.R_far (p := ⟨gb201, 3, none⟩) (Kd.R_far (p := ⟨gb201, 2, none⟩) (Kd.R_far (p := ⟨gb201, 1, none⟩) (Kd.R_far (p := ⟨gb201, 0, none⟩) (Kd.R_mono (Kd.R_mono HO_5.out (fun k_ hk => (⟨hk, hk.2⟩ : _ ∧ k_ ≠ gb201))) (fun k_ hk => (⟨hk, hk.1.1⟩ : _ ∧ k_ ≠ gb195))) (fun _ hk => hk.1.2) (.int .i64 ((rd_T90 x5_1 t198).f0))) (fun _ hk => hk.1.2) (.int .i64 ((rd_T90 x5_1 t198).f1))) (fun _ hk => hk.1.2) (.int .i64 ((rd_T90 x5_1 t198).f2.f0))) (fun _ hk => hk.1.2) (.int .i64 ((rd_T90 x5_1 t198).f2.f1))) (fun _ hk => hk.1.2) (.int .i64 ((rd_T90 x5_1 t198).f3))) (fun _ hk => hk.2) (.int .i64 ((rd_T90 x5_1 t198).f0))) (fun _ hk => hk.2) (.int .i64 ((rd_T90 x5_1 t198).f1))) (fun _ h_ => h_.1)) (fun _ h_ => h_.1))) Q0) hk (fun _ h => h.2)) (fun _ h => h.1)); replace BK195 := am (KeepBut.blk hk (g' := gb195) (o := .cells #[.int .i64 ((rd_T90 x5_1 t198).f0), .int .i64 ((rd_T90 x5_1 t198).f1), .int .i64 t191, .int .i64 t192, .int .i64 t193] 90 (0, 0)) (by (with_reducible repeat (first | refine blk_drewN ?_ _ | refine blk_drew ?_ | refine blk_alloc ?_ _)); refine blk_put (cs := #[.int .i64 ((rd_T90 x5_1 t198).f0), .int .i64 t190, .int .i64 t191, .int .i64 t192, .int .i64 t193]) ?_ 1 _ rfl; (with_reducible repeat (first | refine blk_drewN ?_ _ | refine blk_drew ?_ | refine blk_alloc ?_ _)); refine blk_put (cs := #[.int .i64 t189, .int .i64 t190, .int .i64 t191, .int .i64 t192, .int .i64 t193]) ?_ 0 _ rfl; (with_reducible repeat (first | refine blk_drewN ?_ _ | refine blk_drew ?_ | refine blk_alloc ?_ _)); refine blk_far ?_ NB195_201.out _; (with_reducible repeat (first | refine blk_drewN ?_ _ | refine blk_drew ?_ | refine blk_alloc ?_ _)); refine blk_far ?_ NB195_201.out _; (with_reducible repeat (first | refine blk_drewN ?_ _ | refine blk_drew ?_ | refine blk_alloc ?_ _)); refine blk_far ?_ NB195_201.out _; (with_reducible repeat (first | refine blk_drewN ?_ _ | refine blk_drew ?_ | refine blk_alloc ?_ _)); refine blk_far ?_ NB195_201.out _; (with_reducible repeat (first | refine blk_drewN ?_ _ | refine blk_drew ?_ | refine blk_alloc ?_ _)); refine blk_far ?_ NB195_201.out _; (with_reducible repeat (first | refine blk_drewN ?_ _ | refine blk_drew ?_ | refine blk_alloc ?_ _)); exact BK195.out) NB195_0.out (by simp)); replace BK201 := am (KeepBut.blk hk (g' := gb201) (o := .cells #[.int .i64 ((rd_T90 x5_1 t198).f0), .int .i64 ((rd_T90 x5_1 t198).f1), .int .i64 ((rd_T90 x5_1 t198).f2.f0), .int .i64 ((rd_T90 x5_1 t198).f2.f1), .int .i64 ((rd_T90 x5_1 t198).f3)] 90 (0, 0)) (by (with_reducible repeat (first | refine blk_drewN ?_ _ | refine blk_drew ?_ | refine blk_alloc ?_ _)); refine blk_far ?_ NB201_195.out _; (with_reducible repeat (first | refine blk_drewN ?_ _ | refine blk_drew ?_ | refine blk_alloc ?_ _)); refine blk_far ?_ NB201_195.out _; (with_reducible repeat (first | refine blk_drewN ?_ _ | refine blk_drew ?_ | refine blk_alloc ?_ _)); refine blk_put (cs := #[.int .i64 ((rd_T90 x5_1 t198).f0), .int .i64 ((rd_T90 x5_1 t198).f1), .int .i64 ((rd_T90 x5_1 t198).f2.f0), .int .i64 ((rd_T90 x5_1 t198).f2.f1), .int .i64 0]) ?_ 4 _ rfl; (with_reducible repeat (first | refine blk_drewN ?_ _ | refine blk_drew ?_ | refine blk_alloc ?_ _)); refine blk_put (cs := #[.int .i64 ((rd_T90 x5_1 t198).f0), .int .i64 ((rd_T90 x5_1 t198).f1), .int .i64 ((rd_T90 x5_1 t198).f2.f0), .int .i64 0, .int .i64 0]) ?_ 3 _ rfl; (with_reducible repeat (first | refine blk_drewN ?_ _ | refine blk_drew ?_ | refine blk_alloc ?_ _)); refine blk_put (cs := #[.int .i64 ((rd_T90 x5_1 t198).f0), .int .i64 ((rd_T90 x5_1 t198).f1), .int .i64 0, .int .i64 0, .int .i64 0]) ?_ 2 _ rfl; (with_reducible repeat (first | refine blk_drewN ?_ _ | refine blk_drew ?_ | refine blk_alloc ?_ _)); refine blk_put (cs := #[.int .i64 ((rd_T90 x5_1 t198).f0), .int .i64 0, .int .i64 0, .int .i64 0, .int .i64 0]) ?_ 1 _ rfl; (with_reducible repeat (first | refine blk_drewN ?_ _ | refine blk_drew ?_ | refine blk_alloc ?_ _)); refine blk_put (cs := #[.int .i64 0, .int .i64 0, .int .i64 0, .int .i64 0, .int .i64 0]) ?_ 0 _ rfl; (with_reducible repeat (first | refine blk_drewN ?_ _ | refine blk_drew ?_ | refine blk_alloc ?_ _)); exact BK201.out) NB201_0.out (by simp)); replace HK := am (KeepBut.trans Q71 hk (.inl rfl)); replace HB := am (hb); replace HI0 := am (hi); (try clear hb hk hi); obtain ⟨hcz48_0, hcz48_1, hcz48_2, hcz48_3, hcz48_4, hfz48_0, hfz48_1, hfz48_2, hfz48_3, hfz48_4⟩ := bx5_ BK195) | ((with_reducible refine gate_builtin (b := .append) (xs := #[.tmp 48, .tmp 50]) rfl ?_); at_builtin; refine Kd.R_append k90 w.heap.size rfl (.tmp 48) (.tmp 50) 59 90 (.agg #[(.int .i64 0), (.int .i64 0), (.int .i64 0), (.int .i64 0), (.int .i64 0)]) 40 rfl Try.underlying59 info90 rfl Q0 (by omega) (.slice (some ad200) x5_1.length co39) x5_1 (⟨(rd_T90 x5_1 t198).f0, (rd_T90 x5_1 t198).f1, (⟨t191, t192⟩ : S36), t193⟩ : S90) [.int .i64 ((rd_T90 x5_1 t198).f0), .int .i64 ((rd_T90 x5_1 t198).f1), .int .i64 t191, .int .i64 t192, .int .i64 t193] (fun k_ => k_ ≠ gb195 ∧ k_ ≠ gb201) (fun _ => False) rfl rfl ?aP (fun _ hk => hk.elim) ?aF ?aO (Below.refl _ _) ?aS ?aL ?_; (case aP => exact k90_mkM _ _ _ (⟨(rd_T90 x5_1 t198).f0, (rd_T90 x5_1 t198).f1, (⟨t191, t192⟩ : S36), t193⟩ : S90)); (case aF => exact (fun k_ hk => ⟨Kd.freshB (g := gb195) (o := .cells #[.int .i64 ((rd_T90 x5_1 t198).f0), .int .i64 ((rd_T90 x5_1 t198).f1), .int .i64 t191, .int .i64 t192, .int .i64 t193] 90 (0, 0)) Q30 k_ hk, Kd.freshB (g := gb201) (o := .cells #[.int .i64 ((rd_T90 x5_1 t198).f0), .int .i64 ((rd_T90 x5_1 t198).f1), .int .i64 ((rd_T90 x5_1 t198).f2.f0), .int .i64 ((rd_T90 x5_1 t198).f2.f1), .int .i64 ((rd_T90 x5_1 t198).f3)] 90 (0, 0)) (by (with_reducible repeat (first | refine blk_drewN ?_ _ | refine blk_drew ?_ | refine blk_alloc ?_ _)); exact BK201.out) k_ hk⟩)); (case aO => exact Q13); (case aS => exact (keep_size (w := w) (g := g) (row := none) Q71)); (case aL => have := LMc38.out; omega); intro v208 w49 ho hb hg hat; rw [← Ny207.out] at ho; replace BK195 := am (blk_grown (g := gb195) (o := .cells #[.int .i64 ((rd_T90 x5_1 t198).f0), .int .i64 ((rd_T90 x5_1 t198).f1), .int .i64 t191, .int .i64 t192, .int .i64 t193] 90 (0, 0)) Q30 hg (Kd.R_away HO_5.out (fun _ hk => hk.1))); replace BK201 := am (blk_grown (g := gb201) (o := .cells #[.int .i64 ((rd_T90 x5_1 t198).f0), .int .i64 ((rd_T90 x5_1 t198).f1), .int .i64 ((rd_T90 x5_1 t198).f2.f0), .int .i64 ((rd_T90 x5_1 t198).f2.f1), .int .i64 ((rd_T90 x5_1 t198).f3)] 90 (0, 0)) (by (with_reducible repeat (first | refine blk_drewN ?_ _ | refine blk_drew ?_ | refine blk_alloc ?_ _)); exact BK201.out) hg (Kd.R_away HO_5.out (fun _ hk => hk.2))); replace HB := am (below_weaken Q73 HL.out hb); replace HI0 := am (IsS112.grown (show IsS112 w0 _ g s0_0 t203 from by repeat (first | (with_reducible first | exact HI0.out | apply IsS112.alloc | apply IsS112.drewN | apply IsS112.drew | apply IsS112.set_1 | refine IsS112.far ?_ NB0_195.out _ | refine IsS112.far ?_ NB0_201.out _) | exact HI0.out)) hg (IsS112.own_ne HI0.out HO_5.out Q0)); replace HK := am (KeepBut.trans Q71 (KeepBut.of_grown hg g) (Kd.R_base2 HO_5.out)); have HO209 := am (ho); clear HO_5; clear ho hb hg hat))
        go_roundg kj8
        case measure => have := HK1.out; have := HJ8.out; omega
        case rel => exact ⟨(y207), (wrap64 (x6_1 - 1)), (t203), Q4, H', ⟨by have := HK1.out; have := HJ8.out; omega⟩, ⟨by (with_reducible repeat (first | apply Kd.R_alloc | apply Kd.R_drewN | apply Kd.R_drew)); exact Kd.R_mono HO209.out (fun _ hk => trivial)⟩, ⟨Q72⟩, ⟨Q71⟩, ⟨Q73⟩⟩
      ·replace c19 := Bool.eq_false_iff.mpr c19
       subst c19
       have H1 : (if x5_1.length < 3518437208883 then (spec_l71Rows.l0 kj8 (x5_1 ++ [(⟨t189, t190, (⟨t191, t192⟩ : S36), t193⟩ : S90)]) (wrap64 (x6_1 - 1)) s0_0 x1001_8) else (none)) = some (r1, r2) := by rw [if_neg (show ¬ (false = true) by decide)] at H; exact H
       clear H
       have H := H1
       clear H1
       have c50 : x5_1.length < 3518437208883 := nn_ H
       rw [if_pos c50] at H
       have LMc50 := Aside0.mk c50
       clear c50
       obtain ⟨y210, hy_⟩ : ∃ y_ : List (S90), y_ = (x5_1 ++ [(⟨t189, t190, (⟨t191, t192⟩ : S36), t193⟩ : S90)]) := ⟨_, rfl⟩
       replace H : (spec_l71Rows.l0 kj8 y210 (wrap64 (x6_1 - 1)) s0_0 x1001_8) = some (r1, r2) := Q74
       have Ny210 := Aside0.mk hy_
       clear hy_
       have H' := Aside0.mk H
       clear H
       have hnb51 := NB195_0.out
       have hnc51 := NB0_195.out
       have hcz52_0 : wc.cell? ⟨gb195, 0, none⟩ = some (.int .i64 t189) := (blk_cell BK195.out 0).trans rfl
       have hcz52_1 : wc.cell? ⟨gb195, 1, none⟩ = some (.int .i64 t190) := (blk_cell BK195.out 1).trans rfl
       have hcz52_2 : wc.cell? ⟨gb195, 2, none⟩ = some (.int .i64 t191) := (blk_cell BK195.out 2).trans rfl
       have hcz52_3 : wc.cell? ⟨gb195, 3, none⟩ = some (.int .i64 t192) := (blk_cell BK195.out 3).trans rfl
       have hcz52_4 : wc.cell? ⟨gb195, 4, none⟩ = some (.int .i64 t193) := (blk_cell BK195.out 4).trans rfl
       have hfz52_0 := blk_frozen BK195.out 0
       have hfz52_1 := blk_frozen BK195.out 1
       have hfz52_2 := blk_frozen BK195.out 2
       have hfz52_3 := blk_frozen BK195.out 3
       have hfz52_4 := blk_frozen BK195.out 4
       go_wp2_with (first | ((with_reducible refine gate_builtin (b := .append) (xs := #[.tmp 48, .tmp 50]) rfl ?_); at_builtin; refine Kd.R_append k90 w.heap.size rfl (.tmp 48) (.tmp 50) 59 90 (.agg #[(.int .i64 0), (.int .i64 0), (.int .i64 0), (.int .i64 0), (.int .i64 0)]) 40 rfl Try.underlying59 info90 rfl Q0 (by omega) u5 x5_1 (⟨t189, t190, (⟨t191, t192⟩ : S36), t193⟩ : S90) [.int .i64 t189, .int .i64 t190, .int .i64 t191, .int .i64 t192, .int .i64 t193] (fun k_ => k_ ≠ gb195) (fun _ => False) rfl rfl ?aP (fun _ hk => hk.elim) ?aF ?aO (Below.refl _ _) ?aS ?aL ?_; (case aP => exact k90_mkM _ _ _ (⟨t189, t190, (⟨t191, t192⟩ : S36), t193⟩ : S90)); (case aF => exact (fun k_ hk => Kd.freshB (g := gb195) (o := .cells #[.int .i64 t189, .int .i64 t190, .int .i64 t191, .int .i64 t192, .int .i64 t193] 90 (0, 0)) Q30 k_ hk)); (case aO => exact Q13); (case aS => exact (keep_size (w := w) (g := g) (row := none) Q59)); (case aL => have := LMc50.out; omega); intro v211 w53 ho hb hg hat; rw [← Ny210.out] at ho; replace BK195 := am (blk_grown (g := gb195) (o := .cells #[.int .i64 t189, .int .i64 t190, .int .i64 t191, .int .i64 t192, .int .i64 t193] 90 (0, 0)) Q30 hg (Kd.R_away HO_5.out (fun _ hk => hk))); replace HB := am (below_weaken Q69 HL.out hb); replace HI0 := am (IsS112.grown (show IsS112 w0 _ g s0_0 x1001_8 from by repeat (first | (with_reducible first | exact HI0.out | apply IsS112.alloc | apply IsS112.drewN | apply IsS112.drew | apply IsS112.set_1 | refine IsS112.far ?_ NB0_195.out _) | exact HI0.out)) hg (IsS112.own_ne HI0.out HO_5.out Q0)); replace HK := am (KeepBut.trans Q59 (KeepBut.of_grown hg g) (Kd.R_base2 HO_5.out)); have HO212 := am (ho); clear HO_5; clear ho hb hg hat))
       go_roundg kj8
       case measure => have := HK1.out; have := HJ8.out; omega
       case rel => exact ⟨(y210), (wrap64 (x6_1 - 1)), (x1001_8), Q4, H', ⟨by have := HK1.out; have := HJ8.out; omega⟩, ⟨by (with_reducible repeat (first | apply Kd.R_alloc | apply Kd.R_drewN | apply Kd.R_drew)); exact Kd.R_mono HO212.out (fun _ hk => trivial)⟩, ⟨Q63⟩, ⟨Q59⟩, ⟨Q69⟩⟩
   ·rw [if_neg c7] at H
    have c7b0 : decide (0 < x6_1) = false := decide_eq_false c7
    clear c7
    simp only [Option.some.injEq, Prod.mk.injEq] at H
    obtain ⟨rfl, rfl⟩ := H
    go_wp2
    go_ret
    exact ⟨_, Q9, Q13, Q40, Q55, Q39⟩
def spec_l71Spoil.f (k : Nat) (s0_0 : List Int) (s0_1 : Int) (l1 : List (S90)) : Option ((List (S90)) × Int) := (spec_l71Row.f k s0_0 s0_1).bind fun bt213 => ((spec_l6Rd_pick.f k s0_0 bt213.2.2.2.2.2 5).bind fun bt220 => (if bt220.1 = 0 then ((some (([(-1), 4] : List Int) : List Int)).bind fun y222 => ((spec_l6Rd_pick.f k s0_0 bt220.2 2).bind fun bt225 => (if 0 ≤ bt225.1 then (if bt225.1 < (y222.length : Int) then ((some (([] : List (S90)) : List (S90))).bind fun y228 => (if y228.length + l1.length < 3518437208883 then ((some (y228 ++ l1 : List (S90))).bind fun y231 => ((some (([(⟨rd y222 bt225.1, bt213.2.1, (⟨bt213.2.2.1, bt213.2.2.2.1⟩ : S36), bt213.2.2.2.2.1⟩ : S90)] : List (S90)) : List (S90))).bind fun y234 => (if y231.length + y234.length < 3518437208883 then (some ((y231 ++ y234), bt225.2)) else (none)))) else (none))) else (none)) else (none)))) else (if bt220.1 = 1 then ((some (([(-1), 100] : List Int) : List Int)).bind fun y240 => ((spec_l6Rd_pick.f k s0_0 bt220.2 2).bind fun bt243 => (if 0 ≤ bt243.1 then (if bt243.1 < (y240.length : Int) then ((some (([] : List (S90)) : List (S90))).bind fun y246 => (if y246.length + l1.length < 3518437208883 then ((some (y246 ++ l1 : List (S90))).bind fun y249 => ((some (([(⟨bt213.1, rd y240 bt243.1, (⟨bt213.2.2.1, bt213.2.2.2.1⟩ : S36), bt213.2.2.2.2.1⟩ : S90)] : List (S90)) : List (S90))).bind fun y252 => (if y249.length + y252.length < 3518437208883 then (some ((y249 ++ y252), bt243.2)) else (none)))) else (none))) else (none)) else (none)))) else (if bt220.1 = 2 then ((some (([] : List (S90)) : List (S90))).bind fun y258 => (if y258.length + l1.length < 3518437208883 then ((some (y258 ++ l1 : List (S90))).bind fun y261 => ((some (([(⟨bt213.1, bt213.2.1, (⟨(-1), 0⟩ : S36), bt213.2.2.2.2.1⟩ : S90)] : List (S90)) : List (S90))).bind fun y264 => (if y261.length + y264.length < 3518437208883 then (some ((y261 ++ y264), bt220.2)) else (none)))) else (none))) else (if bt220.1 = 3 then ((some (([(-100000), 100000] : List Int) : List Int)).bind fun y270 => ((spec_l6Rd_pick.f k s0_0 bt220.2 2).bind fun bt273 => (if 0 ≤ bt273.1 then (if bt273.1 < (y270.length : Int) then ((some (([] : List (S90)) : List (S90))).bind fun y276 => (if y276.length + l1.length < 3518437208883 then ((some (y276 ++ l1 : List (S90))).bind fun y279 => ((some (([(⟨bt213.1, bt213.2.1, (⟨bt213.2.2.1, bt213.2.2.2.1⟩ : S36), rd y270 bt273.1⟩ : S90)] : List (S90)) : List (S90))).bind fun y282 => (if y279.length + y282.length < 3518437208883 then (some ((y279 ++ y282), bt273.2)) else (none)))) else (none))) else (none)) else (none)))) else ((some (([] : List (S90)) : List (S90))).bind fun y288 => (if y288.length + l1.length < 3518437208883 then ((some (y288 ++ l1 : List (S90))).bind fun y291 => ((some (([(⟨bt213.1, bt213.2.1, (⟨bt213.2.2.1, 8⟩ : S36), bt213.2.2.2.2.1⟩ : S90)] : List (S90)) : List (S90))).bind fun y294 => (if y291.length + y294.length < 3518437208883 then (some ((y291 ++ y294), bt220.2)) else (none)))) else (none))))))))
set_option maxHeartbeats 8000000 in
set_option maxRecDepth 100000 in
theorem spec_l71Spoil.calls (k : Nat) (g : Nat) (s0_0 : List Int) (s0_1 : Int) (A1 : Option Addr) (c1 : Nat) (l1 : List (S90)) (r1 : List (S90)) (r2 : Int) (w0 w : World) (hI : IsS112 w0 w g s0_0 s0_1) (hB : Below w0.heap.size w0 w) (hr1 : ∀ W_, KeepBut w W_ g none → Kd.C k90 W_ A1 l1.length l1) (hc1 : l1.length ≤ c1) (h : spec_l71Spoil.f k s0_0 s0_1 l1 = some (r1, r2)) :
  Calls Try.prog 104 #[.pointer (some ⟨g, 0, none⟩), .slice A1 l1.length c1] w fun e w' => ∃ v0_ : Value, e = .returned (v0_) ∧ Kd.R k90 90 w' w.heap.size (fun _ => True) v0_ r1 ∧ IsS112 w0 w' g s0_0 r2 ∧ Below w0.heap.size w0 w' ∧ KeepBut w w' g none := by
 have hu90 := Try.underlying90
 have hu36 := Try.underlying36
 have HR1 := Aside0.mk hr1
 have HC1 := Aside0.mk hc1
 clear hr1 hc1
 have HI0 := Aside0.mk hI
 have HK := am (KeepBut.refl w g none)
 have HL := Aside0.mk hB.size
 clear hI
 have HW0 := Aside0.mk hB.size
 have HB := Aside0.mk hB
 clear hB
 have H : ((spec_l71Row.f k s0_0 s0_1).bind fun bt213 => ((spec_l6Rd_pick.f k s0_0 bt213.2.2.2.2.2 5).bind fun bt220 => (if bt220.1 = 0 then ((some (([(-1), 4] : List Int) : List Int)).bind fun y222 => ((spec_l6Rd_pick.f k s0_0 bt220.2 2).bind fun bt225 => (if 0 ≤ bt225.1 then (if bt225.1 < (y222.length : Int) then ((some (([] : List (S90)) : List (S90))).bind fun y228 => (if y228.length + l1.length < 3518437208883 then ((some (y228 ++ l1 : List (S90))).bind fun y231 => ((some (([(⟨rd y222 bt225.1, bt213.2.1, (⟨bt213.2.2.1, bt213.2.2.2.1⟩ : S36), bt213.2.2.2.2.1⟩ : S90)] : List (S90)) : List (S90))).bind fun y234 => (if y231.length + y234.length < 3518437208883 then (some ((y231 ++ y234), bt225.2)) else (none)))) else (none))) else (none)) else (none)))) else (if bt220.1 = 1 then ((some (([(-1), 100] : List Int) : List Int)).bind fun y240 => ((spec_l6Rd_pick.f k s0_0 bt220.2 2).bind fun bt243 => (if 0 ≤ bt243.1 then (if bt243.1 < (y240.length : Int) then ((some (([] : List (S90)) : List (S90))).bind fun y246 => (if y246.length + l1.length < 3518437208883 then ((some (y246 ++ l1 : List (S90))).bind fun y249 => ((some (([(⟨bt213.1, rd y240 bt243.1, (⟨bt213.2.2.1, bt213.2.2.2.1⟩ : S36), bt213.2.2.2.2.1⟩ : S90)] : List (S90)) : List (S90))).bind fun y252 => (if y249.length + y252.length < 3518437208883 then (some ((y249 ++ y252), bt243.2)) else (none)))) else (none))) else (none)) else (none)))) else (if bt220.1 = 2 then ((some (([] : List (S90)) : List (S90))).bind fun y258 => (if y258.length + l1.length < 3518437208883 then ((some (y258 ++ l1 : List (S90))).bind fun y261 => ((some (([(⟨bt213.1, bt213.2.1, (⟨(-1), 0⟩ : S36), bt213.2.2.2.2.1⟩ : S90)] : List (S90)) : List (S90))).bind fun y264 => (if y261.length + y264.length < 3518437208883 then (some ((y261 ++ y264), bt220.2)) else (none)))) else (none))) else (if bt220.1 = 3 then ((some (([(-100000), 100000] : List Int) : List Int)).bind fun y270 => ((spec_l6Rd_pick.f k s0_0 bt220.2 2).bind fun bt273 => (if 0 ≤ bt273.1 then (if bt273.1 < (y270.length : Int) then ((some (([] : List (S90)) : List (S90))).bind fun y276 => (if y276.length + l1.length < 3518437208883 then ((some (y276 ++ l1 : List (S90))).bind fun y279 => ((some (([(⟨bt213.1, bt213.2.1, (⟨bt213.2.2.1, bt213.2.2.2.1⟩ : S36), rd y270 bt273.1⟩ : S90)] : List (S90)) : List (S90))).bind fun y282 => (if y279.length + y282.length < 3518437208883 then (some ((y279 ++ y282), bt273.2)) else (none)))) else (none))) else (none)) else (none)))) else ((some (([] : List (S90)) : List (S90))).bind fun y288 => (if y288.length + l1.length < 3518437208883 then ((some (y288 ++ l1 : List (S90))).bind fun y291 => ((some (([(⟨bt213.1, bt213.2.1, (⟨bt213.2.2.1, 8⟩ : S36), bt213.2.2.2.2.1⟩ : S90)] : List (S90)) : List (S90))).bind fun y294 => (if y291.length + y294.length < 3518437208883 then (some ((y291 ++ y294), bt220.2)) else (none)))) else (none))))))))) = some (r1, r2) := h
 clear h
 replace H := Option.bind_eq_some_iff.mp H
 obtain ⟨⟨t213, t214, t215, t216, t217, t218⟩, A30, H⟩ := H
 replace H : ((spec_l6Rd_pick.f k s0_0 t218 5).bind fun bt220 => (if bt220.1 = 0 then ((some (([(-1), 4] : List Int) : List Int)).bind fun y222 => ((spec_l6Rd_pick.f k s0_0 bt220.2 2).bind fun bt225 => (if 0 ≤ bt225.1 then (if bt225.1 < (y222.length : Int) then ((some (([] : List (S90)) : List (S90))).bind fun y228 => (if y228.length + l1.length < 3518437208883 then ((some (y228 ++ l1 : List (S90))).bind fun y231 => ((some (([(⟨rd y222 bt225.1, t214, (⟨t215, t216⟩ : S36), t217⟩ : S90)] : List (S90)) : List (S90))).bind fun y234 => (if y231.length + y234.length < 3518437208883 then (some ((y231 ++ y234), bt225.2)) else (none)))) else (none))) else (none)) else (none)))) else (if bt220.1 = 1 then ((some (([(-1), 100] : List Int) : List Int)).bind fun y240 => ((spec_l6Rd_pick.f k s0_0 bt220.2 2).bind fun bt243 => (if 0 ≤ bt243.1 then (if bt243.1 < (y240.length : Int) then ((some (([] : List (S90)) : List (S90))).bind fun y246 => (if y246.length + l1.length < 3518437208883 then ((some (y246 ++ l1 : List (S90))).bind fun y249 => ((some (([(⟨t213, rd y240 bt243.1, (⟨t215, t216⟩ : S36), t217⟩ : S90)] : List (S90)) : List (S90))).bind fun y252 => (if y249.length + y252.length < 3518437208883 then (some ((y249 ++ y252), bt243.2)) else (none)))) else (none))) else (none)) else (none)))) else (if bt220.1 = 2 then ((some (([] : List (S90)) : List (S90))).bind fun y258 => (if y258.length + l1.length < 3518437208883 then ((some (y258 ++ l1 : List (S90))).bind fun y261 => ((some (([(⟨t213, t214, (⟨(-1), 0⟩ : S36), t217⟩ : S90)] : List (S90)) : List (S90))).bind fun y264 => (if y261.length + y264.length < 3518437208883 then (some ((y261 ++ y264), bt220.2)) else (none)))) else (none))) else (if bt220.1 = 3 then ((some (([(-100000), 100000] : List Int) : List Int)).bind fun y270 => ((spec_l6Rd_pick.f k s0_0 bt220.2 2).bind fun bt273 => (if 0 ≤ bt273.1 then (if bt273.1 < (y270.length : Int) then ((some (([] : List (S90)) : List (S90))).bind fun y276 => (if y276.length + l1.length < 3518437208883 then ((some (y276 ++ l1 : List (S90))).bind fun y279 => ((some (([(⟨t213, t214, (⟨t215, t216⟩ : S36), rd y270 bt273.1⟩ : S90)] : List (S90)) : List (S90))).bind fun y282 => (if y279.length + y282.length < 3518437208883 then (some ((y279 ++ y282), bt273.2)) else (none)))) else (none))) else (none)) else (none)))) else ((some (([] : List (S90)) : List (S90))).bind fun y288 => (if y288.length + l1.length < 3518437208883 then ((some (y288 ++ l1 : List (S90))).bind fun y291 => ((some (([(⟨t213, t214, (⟨t215, 8⟩ : S36), t217⟩ : S90)] : List (S90)) : List (S90))).bind fun y294 => (if y291.length + y294.length < 3518437208883 then (some ((y291 ++ y294), bt220.2)) else (none)))) else (none)))))))) = some (r1, r2) := H
 have A3 := Aside0.mk A30
 clear A30
 replace H := Option.bind_eq_some_iff.mp H
 obtain ⟨⟨t220, t221⟩, A40, H⟩ := H
 replace H : (if t220 = 0 then ((some (([(-1), 4] : List Int) : List Int)).bind fun y222 => ((spec_l6Rd_pick.f k s0_0 t221 2).bind fun bt225 => (if 0 ≤ bt225.1 then (if bt225.1 < (y222.length : Int) then ((some (([] : List (S90)) : List (S90))).bind fun y228 => (if y228.length + l1.length < 3518437208883 then ((some (y228 ++ l1 : List (S90))).bind fun y231 => ((some (([(⟨rd y222 bt225.1, t214, (⟨t215, t216⟩ : S36), t217⟩ : S90)] : List (S90)) : List (S90))).bind fun y234 => (if y231.length + y234.length < 3518437208883 then (some ((y231 ++ y234), bt225.2)) else (none)))) else (none))) else (none)) else (none)))) else (if t220 = 1 then ((some (([(-1), 100] : List Int) : List Int)).bind fun y240 => ((spec_l6Rd_pick.f k s0_0 t221 2).bind fun bt243 => (if 0 ≤ bt243.1 then (if bt243.1 < (y240.length : Int) then ((some (([] : List (S90)) : List (S90))).bind fun y246 => (if y246.length + l1.length < 3518437208883 then ((some (y246 ++ l1 : List (S90))).bind fun y249 => ((some (([(⟨t213, rd y240 bt243.1, (⟨t215, t216⟩ : S36), t217⟩ : S90)] : List (S90)) : List (S90))).bind fun y252 => (if y249.length + y252.length < 3518437208883 then (some ((y249 ++ y252), bt243.2)) else (none)))) else (none))) else (none)) else (none)))) else (if t220 = 2 then ((some (([] : List (S90)) : List (S90))).bind fun y258 => (if y258.length + l1.length < 3518437208883 then ((some (y258 ++ l1 : List (S90))).bind fun y261 => ((some (([(⟨t213, t214, (⟨(-1), 0⟩ : S36), t217⟩ : S90)] : List (S90)) : List (S90))).bind fun y264 => (if y261.length + y264.length < 3518437208883 then (some ((y261 ++ y264), t221)) else (none)))) else (none))) else (if t220 = 3 then ((some (([(-100000), 100000] : List Int) : List Int)).bind fun y270 => ((spec_l6Rd_pick.f k s0_0 t221 2).bind fun bt273 => (if 0 ≤ bt273.1 then (if bt273.1 < (y270.length : Int) then ((some (([] : List (S90)) : List (S90))).bind fun y276 => (if y276.length + l1.length < 3518437208883 then ((some (y276 ++ l1 : List (S90))).bind fun y279 => ((some (([(⟨t213, t214, (⟨t215, t216⟩ : S36), rd y270 bt273.1⟩ : S90)] : List (S90)) : List (S90))).bind fun y282 => (if y279.length + y282.length < 3518437208883 then (some ((y279 ++ y282), bt273.2)) else (none)))) else (none))) else (none)) else (none)))) else ((some (([] : List (S90)) : List (S90))).bind fun y288 => (if y288.length + l1.length < 3518437208883 then ((some (y288 ++ l1 : List (S90))).bind fun y291 => ((some (([(⟨t213, t214, (⟨t215, 8⟩ : S36), t217⟩ : S90)] : List (S90)) : List (S90))).bind fun y294 => (if y291.length + y294.length < 3518437208883 then (some ((y291 ++ y294), t221)) else (none)))) else (none))))))) = some (r1, r2) := H
 have A4 := Aside0.mk A40
 clear A40
 by_cases c5 : t220 = 0
 case' pos =>
  rw [if_pos c5] at H
  have c5b0 : (t220 == 0) = true := beq_iff_eq.mpr c5
  have c5b1 : (t220 != 0) = false := bne_eq_false_iff_eq.mpr c5
  clear c5
  obtain ⟨y222, hy_⟩ : ∃ y_ : List Int, y_ = (([(-1), 4] : List Int)) := ⟨_, rfl⟩
  replace H : ((spec_l6Rd_pick.f k s0_0 t221 2).bind fun bt225 => (if 0 ≤ bt225.1 then (if bt225.1 < (y222.length : Int) then ((some (([] : List (S90)) : List (S90))).bind fun ya => (if ya.length + l1.length < 3518437208883 then ((some (ya ++ l1 : List (S90))).bind fun yb => ((some (([(⟨rd y222 bt225.1, t214, (⟨t215, t216⟩ : S36), t217⟩ : S90)] : List (S90)) : List (S90))).bind fun yc => (if yb.length + yc.length < 3518437208883 then (some ((yb ++ yc), bt225.2)) else (none)))) else (none))) else (none)) else (none))) = some (r1, r2) := Q74
  have Ny222 := Aside0.mk hy_
  clear hy_
  replace H := Option.bind_eq_some_iff.mp H
  obtain ⟨⟨t225, tp⟩, A60, H⟩ := H
  replace H : (if 0 ≤ t225 then (if t225 < (y222.length : Int) then ((some (([] : List (S90)) : List (S90))).bind fun ya => (if ya.length + l1.length < 3518437208883 then ((some (ya ++ l1 : List (S90))).bind fun yb => ((some (([(⟨rd y222 t225, t214, (⟨t215, t216⟩ : S36), t217⟩ : S90)] : List (S90)) : List (S90))).bind fun yc => (if yb.length + yc.length < 3518437208883 then (some ((yb ++ yc), tp)) else (none)))) else (none))) else (none)) else (none)) = some (r1, r2) := H
  have A6 := Aside0.mk A60
  clear A60
  have c7 : 0 ≤ t225 := Classical.byContradiction fun hn_ => by rw [if_neg hn_] at H; exact absurd H (by simp)
  rw [if_pos c7] at H
  have c7b0 : decide (0 ≤ t225) = true := decide_eq_true c7
  clear c7
  have c8 : t225 < (y222.length : Int) := Classical.byContradiction fun hn_ => by rw [if_neg hn_] at H; exact absurd H (by simp)
  rw [if_pos c8] at H
  have c8b0 : decide (t225 < (y222.length : Int)) = true := decide_eq_true c8
  clear c8
  obtain ⟨ya, hya⟩ : ∃ y_ : List (S90), y_ = (([] : List (S90))) := ⟨_, rfl⟩
  replace H : (if ya.length + l1.length < 3518437208883 then ((some (ya ++ l1 : List (S90))).bind fun yb => ((some (([(⟨rd y222 t225, t214, (⟨t215, t216⟩ : S36), t217⟩ : S90)] : List (S90)) : List (S90))).bind fun yc => (if yb.length + yc.length < 3518437208883 then (some ((yb ++ yc), tp)) else (none)))) else (none)) = some (r1, r2) := Q75
  have Nya := Aside0.mk hya
  clear hya
  have c9 : ya.length + l1.length < 3518437208883 := Classical.byContradiction fun hn_ => by rw [if_neg hn_] at H; exact absurd H (by simp)
  rw [if_pos c9] at H
  have LMca := Aside0.mk c9
  clear c9
  obtain ⟨yb, hyb⟩ : ∃ y_ : List (S90), y_ = (ya ++ l1) := ⟨_, rfl⟩
  replace H : ((some (([(⟨rd y222 t225, t214, (⟨t215, t216⟩ : S36), t217⟩ : S90)] : List (S90)) : List (S90))).bind fun yc => (if yb.length + yc.length < 3518437208883 then (some ((yb ++ yc), tp)) else (none))) = some (r1, r2) := Q76
  have Nyb := Aside0.mk hyb
  clear hyb
  obtain ⟨yc, hyc⟩ : ∃ y_ : List (S90), y_ = (([(⟨rd y222 t225, t214, (⟨t215, t216⟩ : S36), t217⟩ : S90)] : List (S90))) := ⟨_, rfl⟩
  replace H : (if yb.length + yc.length < 3518437208883 then (some ((yb ++ yc), tp)) else (none)) = some (r1, r2) := Q77
  have Nyc := Aside0.mk hyc
  clear hyc
  have c10 : yb.length + yc.length < 3518437208883 := Classical.byContradiction fun hn_ => by rw [if_neg hn_] at H; exact absurd H (by simp)
  rw [if_pos c10] at H
  have LMcb := Aside0.mk c10
  clear c10
  obtain ⟨yd, hyd⟩ : ∃ y_ : List (S90), y_ = (yb ++ yc) := ⟨_, rfl⟩
  replace H : (some (yd, tp)) = some (r1, r2) := Q78
  have Nyd := Aside0.mk hyd
  clear hyd
  simp only [Option.some.injEq, Prod.mk.injEq] at H
  obtain ⟨rfl, rfl⟩ := H
  go_enter Try.func104, Try.ntmps104
  try go_wp2_with (first | ((with_reducible refine gate_callee (f := 125) rfl ?_); refine goesL_ (some 7) rfl rfl Try.func125 Q1 rfl #[.pointer (some ⟨g, 0, none⟩)] rfl Q37 ?_; (with_reducible refine (spec_l71Row.calls k g s0_0 s0_1 t213 t214 t215 t216 t217 t218 w0 _ ?side1 ?side2 A3.out).mono ?_); (case side1 => exact Q40); (case side2 => exact Q55); rintro e w11 ⟨rfl, hi, hb, hk⟩; refine ⟨_, rfl, ?_⟩; replace HK := am (KeepBut.trans Q39 hk (.inl rfl)); replace HB := am (hb); replace HI0 := am (hi); (try clear hb hk hi)) | ((with_reducible refine gate_dst (N := 5) rfl ?_); refine bE_ 5 #[.int .i64 0, .int .i64 0, .int .i64 0, .int .i64 0, .int .i64 0] 90 ?_; intro gb219 hg w12 hbox hb; replace HB := am (below_step Q55 hb); have BK219 := am (hbox); have GW219 := am ((Q83 : w.heap.size ≤ gb219)); have GE219 := am ((Nat.le_trans HW0.out (Q83 : w.heap.size ≤ gb219) : w0.heap.size ≤ gb219)); replace HK := am (KeepBut.trans Q39 (KeepBut.of_below hb g none) (.inl rfl)); have NB0_219 := am ((by rw [hg]; exact Nat.ne_of_lt (IsS112.lt (show IsS112 w0 _ g s0_0 t218 from by repeat (first | (with_reducible first | exact HI0.out | apply IsS112.alloc | apply IsS112.drewN | apply IsS112.drew | apply IsS112.set_1) | exact HI0.out))) : g ≠ gb219)); have NB219_0 := am ((by rw [hg]; exact Nat.ne_of_gt (IsS112.lt (show IsS112 w0 _ g s0_0 t218 from by repeat (first | (with_reducible first | exact HI0.out | apply IsS112.alloc | apply IsS112.drewN | apply IsS112.drew | apply IsS112.set_1) | exact HI0.out))) : gb219 ≠ g)); replace HI0 := am (IsS112.below Q40 hb); clear hb hbox hg; have hnb13 := NB219_0.out; have hnc13 := NB0_219.out; obtain ⟨hcz14_0, hcz14_1, hcz14_2, hcz14_3, hcz14_4, hfz14_0, hfz14_1, hfz14_2, hfz14_3, hfz14_4⟩ := bx5_ BK219) | ((with_reducible refine gate_callee (f := 67) rfl ?_); refine goesL_ (some 9) rfl rfl Try.func67 Q1 rfl #[.pointer (some ⟨g, 0, none⟩), .int .i64 5] rfl Q37 ?_; (with_reducible refine (spec_l6Rd_pick.calls k g s0_0 t218 5 t220 t221 w0 _ ?side1 ?side2 A4.out).mono ?_); (case side1 => exact Q64); (case side2 => exact Q70); rintro e w15 ⟨rfl, hi, hb, hk⟩; refine ⟨_, rfl, ?_⟩; replace BK219 := am (KeepBut.blk hk (g' := gb219) (o := .cells #[.int .i64 t213, .int .i64 t214, .int .i64 t215, .int .i64 t216, .int .i64 t217] 90 (0, 0)) Q80 NB219_0.out (by simp)); replace HK := am (KeepBut.trans Q60 hk (.inl rfl)); replace HB := am (hb); replace HI0 := am (hi); (try clear hb hk hi)) | ((with_reducible refine gate_dst (N := 14) rfl ?_); refine Kd.R_lit (Kd.int .i64) _ 3 ?hg (N := 14) ?hd (xs := ([(-1), 4] : List Int)) (inner := [.int .i64 (-1), .int .i64 4]) (ok := fun _ => True) (okp := fun _ => True) ?hr ?hp (fun _ hk => hk) trivial (Below.refl _ _) (Nat.le_refl _) (by simp) ?_; (case hd => rfl); (case hg => rfl); (case hr => first | (go_simp; done) | (go_simp; rfl)); (case hp => exact (Reps.one (show Kd.M (Kd.int .i64) _ _ _ (-1) [.int .i64 (-1)] from rfl) (Reps.one (show Kd.M (Kd.int .i64) _ _ _ 4 [.int .i64 4] from rfl) (Reps.none _ _)))); intro v223 w16 ho17 hb hg_ hnew_; clear hg_ hnew_; (first | rw [← Ny222.out] at ho17 | (simp only [Int.reduceToNat] at ho17; rw [← Ny222.out] at ho17)); have HO224 := am (Kd.R_lower ho17 (keep_size (w := w) (g := g) (row := none) Q60)); replace BK219 := am (blk_below (g := gb219) (o := .cells #[.int .i64 t213, .int .i64 t214, .int .i64 t215, .int .i64 t216, .int .i64 t217] 90 (0, 0)) Q31 hb); replace HK := am (KeepBut.trans Q60 (KeepBut.of_below hb g none) (.inl rfl)); replace HB := am (below_step Q70 hb); replace HI0 := am (IsS112.below Q64 hb); clear hb ho17) | ((with_reducible refine gate_callee (f := 67) rfl ?_); refine goesL_ (some 16) rfl rfl Try.func67 Q1 rfl #[.pointer (some ⟨g, 0, none⟩), .int .i64 2] rfl Q37 ?_; (with_reducible refine (spec_l6Rd_pick.calls k g s0_0 t221 2 t225 tp w0 _ ?side1 ?side2 A6.out).mono ?_); (case side1 => exact Q64); (case side2 => exact Q70); rintro e w18 ⟨rfl, hi, hb, hk⟩; refine ⟨_, rfl, ?_⟩; replace BK219 := am (KeepBut.blk hk (g' := gb219) (o := .cells #[.int .i64 t213, .int .i64 t214, .int .i64 t215, .int .i64 t216, .int .i64 t217] 90 (0, 0)) Q31 NB219_0.out (by simp)); replace HO224 := am (Kd.R_mono (Kd.R_keep (IsS112.apart (show IsS112 w0 _ g s0_0 t221 from by repeat (first | (with_reducible first | exact HI0.out | apply IsS112.alloc | apply IsS112.drewN | apply IsS112.drew | apply IsS112.set_1 | refine IsS112.far ?_ NB0_219.out _) | exact HI0.out)) (by (with_reducible repeat (first | apply Kd.R_alloc | apply Kd.R_drewN | apply Kd.R_drew)); exact HO224.out) Q0) hk (fun _ h => h.2)) (fun _ h => h.1)); replace HK := am (KeepBut.trans Q60 hk (.inl rfl)); replace HB := am (hb); replace HI0 := am (hi); (try clear hb hk hi); obtain ⟨Ao19, co19, eo19⟩ := Kd.R_slice HO224.out; subst eo19; have p227 : 0 ≤ (t225 : Int) := of_decide_eq_true Q5; have q227 : t225 < (y222.length : Int) := of_decide_eq_true Q5; obtain ⟨ad227, e227, hx227_0⟩ := Kd.at_int (Kd.R_reads' HO224.out).2.2 t225 p227 q227; cases e227; replace p227 := eq_true p227; replace q227 := eq_true q227; obtain ⟨hcz20_0, hcz20_1, hcz20_2, hcz20_3, hcz20_4, hfz20_0, hfz20_1, hfz20_2, hfz20_3, hfz20_4⟩ := bx5_ BK219))
  have n0_ : Aside0 (Kd.R (Kd.int .i64) 3 (w18.setCell ⟨gb219, 0, none⟩ (.int .i64 (rd y222 t225))) w.heap.size (fun _ => True) (.slice (some ad227) y222.length co19) y222) := ⟨by (with_reducible repeat (first | apply Kd.R_alloc | apply Kd.R_drewN | apply Kd.R_drew)); exact Kd.R_mono (Kd.R_far (p := ⟨gb219, 0, none⟩) (Kd.R_types HO224.out BK219.out Q0) (fun _ hk => hk.2) (.int .i64 (rd y222 t225))) (fun _ hk => trivial)⟩
  have n1_ : Aside0 ((w18.setCell ⟨gb219, 0, none⟩ (.int .i64 (rd y222 t225))).heap[gb219]? = some (.cells #[.int .i64 (rd y222 t225), .int .i64 t214, .int .i64 t215, .int .i64 t216, .int .i64 t217] 90 (0, 0))) := ⟨by (with_reducible repeat (first | refine blk_drewN ?_ _ | refine blk_drew ?_ | refine blk_alloc ?_ _)); refine blk_put (cs := #[.int .i64 t213, .int .i64 t214, .int .i64 t215, .int .i64 t216, .int .i64 t217]) ?_ 0 _ rfl; (with_reducible repeat (first | refine blk_drewN ?_ _ | refine blk_drew ?_ | refine blk_alloc ?_ _)); exact BK219.out⟩
  have n2_ : Aside0 (IsS112 w0 (w18.setCell ⟨gb219, 0, none⟩ (.int .i64 (rd y222 t225))) g s0_0 tp) := ⟨Q64⟩
  have n3_ : Aside0 (KeepBut w (w18.setCell ⟨gb219, 0, none⟩ (.int .i64 (rd y222 t225))) g none) := ⟨Q60⟩
  have n4_ : Aside0 (Below w0.heap.size w0 (w18.setCell ⟨gb219, 0, none⟩ (.int .i64 (rd y222 t225)))) := ⟨Q70⟩
  (try clear HO224)
  (try clear BK219)
  (try clear HI0)
  (try clear HK)
  (try clear HB)
  generalize (w18.setCell ⟨gb219, 0, none⟩ (.int .i64 (rd y222 t225))) = wT at n0_ n1_ n2_ n3_ n4_ ⊢
  have HO224 := n0_
  have BK219 := n1_
  have HI0 := n2_
  have HK := n3_
  have HB := n4_
  clear n0_ n1_ n2_ n3_ n4_
  clear HO224
  obtain ⟨e0, e1, e2, e3, e4, hE, BKE⟩ : ∃ e0 e1 e2 e3 e4 : Int, (⟨e0, e1, ⟨e2, e3⟩, e4⟩ : S90) = ⟨(rd y222 t225), t214, ⟨t215, t216⟩, t217⟩ ∧ Aside0 (wT.heap[gb219]? = some (.cells #[.int .i64 e0, .int .i64 e1, .int .i64 e2, .int .i64 e3, .int .i64 e4] 90 (0, 0))) := ⟨_, _, _, _, _, rfl, BK219⟩
  clear BK219; have BK219 := BKE; clear BKE
  have Ny_ := am (Nyc.out.trans (congrArg (fun z : S90 => [z]) hE.symm)); clear Nyc; have Nyc := Ny_; clear Ny_ hE
 case' neg =>
  rw [if_neg c5] at H
  have c5b0 : (t220 == 0) = false := beq_eq_false_iff_ne.mpr c5
  have c5b1 : (t220 != 0) = true := bne_iff_ne.mpr c5
  by_cases c31 : t220 = 1
  case' pos =>
   rw [if_pos c31] at H
   have c31b0 : (t220 == 1) = true := beq_iff_eq.mpr c31
   have c31b1 : (t220 != 1) = false := bne_eq_false_iff_eq.mpr c31
   clear c31
   obtain ⟨y240, hy_⟩ : ∃ y_ : List Int, y_ = (([(-1), 100] : List Int)) := ⟨_, rfl⟩
   replace H : ((spec_l6Rd_pick.f k s0_0 t221 2).bind fun bt243 => (if 0 ≤ bt243.1 then (if bt243.1 < (y240.length : Int) then ((some (([] : List (S90)) : List (S90))).bind fun ya => (if ya.length + l1.length < 3518437208883 then ((some (ya ++ l1 : List (S90))).bind fun yb => ((some (([(⟨t213, rd y240 bt243.1, (⟨t215, t216⟩ : S36), t217⟩ : S90)] : List (S90)) : List (S90))).bind fun yc => (if yb.length + yc.length < 3518437208883 then (some ((yb ++ yc), bt243.2)) else (none)))) else (none))) else (none)) else (none))) = some (r1, r2) := Q74
   have Ny240 := Aside0.mk hy_
   clear hy_
   replace H := Option.bind_eq_some_iff.mp H
   obtain ⟨⟨t243, tp⟩, A320, H⟩ := H
   replace H : (if 0 ≤ t243 then (if t243 < (y240.length : Int) then ((some (([] : List (S90)) : List (S90))).bind fun ya => (if ya.length + l1.length < 3518437208883 then ((some (ya ++ l1 : List (S90))).bind fun yb => ((some (([(⟨t213, rd y240 t243, (⟨t215, t216⟩ : S36), t217⟩ : S90)] : List (S90)) : List (S90))).bind fun yc => (if yb.length + yc.length < 3518437208883 then (some ((yb ++ yc), tp)) else (none)))) else (none))) else (none)) else (none)) = some (r1, r2) := H
   have A32 := Aside0.mk A320
   clear A320
   have c33 : 0 ≤ t243 := Classical.byContradiction fun hn_ => by rw [if_neg hn_] at H; exact absurd H (by simp)
   rw [if_pos c33] at H
   have c33b0 : decide (0 ≤ t243) = true := decide_eq_true c33
   clear c33
   have c34 : t243 < (y240.length : Int) := Classical.byContradiction fun hn_ => by rw [if_neg hn_] at H; exact absurd H (by simp)
   rw [if_pos c34] at H
   have c34b0 : decide (t243 < (y240.length : Int)) = true := decide_eq_true c34
   clear c34
   obtain ⟨ya, hya⟩ : ∃ y_ : List (S90), y_ = (([] : List (S90))) := ⟨_, rfl⟩
   replace H : (if ya.length + l1.length < 3518437208883 then ((some (ya ++ l1 : List (S90))).bind fun yb => ((some (([(⟨t213, rd y240 t243, (⟨t215, t216⟩ : S36), t217⟩ : S90)] : List (S90)) : List (S90))).bind fun yc => (if yb.length + yc.length < 3518437208883 then (some ((yb ++ yc), tp)) else (none)))) else (none)) = some (r1, r2) := Q75
   have Nya := Aside0.mk hya
   clear hya
   have c35 : ya.length + l1.length < 3518437208883 := Classical.byContradiction fun hn_ => by rw [if_neg hn_] at H; exact absurd H (by simp)
   rw [if_pos c35] at H
   have LMca := Aside0.mk c35
   clear c35
   obtain ⟨yb, hyb⟩ : ∃ y_ : List (S90), y_ = (ya ++ l1) := ⟨_, rfl⟩
   replace H : ((some (([(⟨t213, rd y240 t243, (⟨t215, t216⟩ : S36), t217⟩ : S90)] : List (S90)) : List (S90))).bind fun yc => (if yb.length + yc.length < 3518437208883 then (some ((yb ++ yc), tp)) else (none))) = some (r1, r2) := Q76
   have Nyb := Aside0.mk hyb
   clear hyb
   obtain ⟨yc, hyc⟩ : ∃ y_ : List (S90), y_ = (([(⟨t213, rd y240 t243, (⟨t215, t216⟩ : S36), t217⟩ : S90)] : List (S90))) := ⟨_, rfl⟩
   replace H : (if yb.length + yc.length < 3518437208883 then (some ((yb ++ yc), tp)) else (none)) = some (r1, r2) := Q77
   have Nyc := Aside0.mk hyc
   clear hyc
   have c36 : yb.length + yc.length < 3518437208883 := Classical.byContradiction fun hn_ => by rw [if_neg hn_] at H; exact absurd H (by simp)
   rw [if_pos c36] at H
   have LMcb := Aside0.mk c36
   clear c36
   obtain ⟨yd, hyd⟩ : ∃ y_ : List (S90), y_ = (yb ++ yc) := ⟨_, rfl⟩
   replace H : (some (yd, tp)) = some (r1, r2) := Q78
   have Nyd := Aside0.mk hyd
   clear hyd
   simp only [Option.some.injEq, Prod.mk.injEq] at H
   obtain ⟨rfl, rfl⟩ := H
   go_enter Try.func104, Try.ntmps104
   try go_wp2_with (first | ((with_reducible refine gate_callee (f := 125) rfl ?_); refine goesL_ (some 7) rfl rfl Try.func125 Q1 rfl #[.pointer (some ⟨g, 0, none⟩)] rfl Q37 ?_; (with_reducible refine (spec_l71Row.calls k g s0_0 s0_1 t213 t214 t215 t216 t217 t218 w0 _ ?side1 ?side2 A3.out).mono ?_); (case side1 => exact Q40); (case side2 => exact Q55); rintro e w37 ⟨rfl, hi, hb, hk⟩; refine ⟨_, rfl, ?_⟩; replace HK := am (KeepBut.trans Q39 hk (.inl rfl)); replace HB := am (hb); replace HI0 := am (hi); (try clear hb hk hi)) | ((with_reducible refine gate_dst (N := 5) rfl ?_); refine bE_ 5 #[.int .i64 0, .int .i64 0, .int .i64 0, .int .i64 0, .int .i64 0] 90 ?_; intro gb219 hg w38 hbox hb; replace HB := am (below_step Q55 hb); have BK219 := am (hbox); have GW219 := am ((Q83 : w.heap.size ≤ gb219)); have GE219 := am ((Nat.le_trans HW0.out (Q83 : w.heap.size ≤ gb219) : w0.heap.size ≤ gb219)); replace HK := am (KeepBut.trans Q39 (KeepBut.of_below hb g none) (.inl rfl)); have NB0_219 := am ((by rw [hg]; exact Nat.ne_of_lt (IsS112.lt (show IsS112 w0 _ g s0_0 t218 from by repeat (first | (with_reducible first | exact HI0.out | apply IsS112.alloc | apply IsS112.drewN | apply IsS112.drew | apply IsS112.set_1) | exact HI0.out))) : g ≠ gb219)); have NB219_0 := am ((by rw [hg]; exact Nat.ne_of_gt (IsS112.lt (show IsS112 w0 _ g s0_0 t218 from by repeat (first | (with_reducible first | exact HI0.out | apply IsS112.alloc | apply IsS112.drewN | apply IsS112.drew | apply IsS112.set_1) | exact HI0.out))) : gb219 ≠ g)); replace HI0 := am (IsS112.below Q40 hb); clear hb hbox hg; have hnb39 := NB219_0.out; have hnc39 := NB0_219.out; obtain ⟨hcz40_0, hcz40_1, hcz40_2, hcz40_3, hcz40_4, hfz40_0, hfz40_1, hfz40_2, hfz40_3, hfz40_4⟩ := bx5_ BK219) | ((with_reducible refine gate_callee (f := 67) rfl ?_); refine goesL_ (some 9) rfl rfl Try.func67 Q1 rfl #[.pointer (some ⟨g, 0, none⟩), .int .i64 5] rfl Q37 ?_; (with_reducible refine (spec_l6Rd_pick.calls k g s0_0 t218 5 t220 t221 w0 _ ?side1 ?side2 A4.out).mono ?_); (case side1 => exact Q64); (case side2 => exact Q70); rintro e w41 ⟨rfl, hi, hb, hk⟩; refine ⟨_, rfl, ?_⟩; replace BK219 := am (KeepBut.blk hk (g' := gb219) (o := .cells #[.int .i64 t213, .int .i64 t214, .int .i64 t215, .int .i64 t216, .int .i64 t217] 90 (0, 0)) Q80 NB219_0.out (by simp)); replace HK := am (KeepBut.trans Q60 hk (.inl rfl)); replace HB := am (hb); replace HI0 := am (hi); (try clear hb hk hi)) | ((with_reducible refine gate_dst (N := 22) rfl ?_); refine Kd.R_lit (Kd.int .i64) _ 3 ?hg (N := 22) ?hd (xs := ([(-1), 100] : List Int)) (inner := [.int .i64 (-1), .int .i64 100]) (ok := fun _ => True) (okp := fun _ => True) ?hr ?hp (fun _ hk => hk) trivial (Below.refl _ _) (Nat.le_refl _) (by simp) ?_; (case hd => rfl); (case hg => rfl); (case hr => first | (go_simp; done) | (go_simp; rfl)); (case hp => exact (Reps.one (show Kd.M (Kd.int .i64) _ _ _ (-1) [.int .i64 (-1)] from rfl) (Reps.one (show Kd.M (Kd.int .i64) _ _ _ 100 [.int .i64 100] from rfl) (Reps.none _ _)))); intro v241 w42 ho43 hb hg_ hnew_; clear hg_ hnew_; (first | rw [← Ny240.out] at ho43 | (simp only [Int.reduceToNat] at ho43; rw [← Ny240.out] at ho43)); have HO242 := am (Kd.R_lower ho43 (keep_size (w := w) (g := g) (row := none) Q60)); replace BK219 := am (blk_below (g := gb219) (o := .cells #[.int .i64 t213, .int .i64 t214, .int .i64 t215, .int .i64 t216, .int .i64 t217] 90 (0, 0)) Q31 hb); replace HK := am (KeepBut.trans Q60 (KeepBut.of_below hb g none) (.inl rfl)); replace HB := am (below_step Q70 hb); replace HI0 := am (IsS112.below Q64 hb); clear hb ho43) | ((with_reducible refine gate_callee (f := 67) rfl ?_); refine goesL_ (some 24) rfl rfl Try.func67 Q1 rfl #[.pointer (some ⟨g, 0, none⟩), .int .i64 2] rfl Q37 ?_; (with_reducible refine (spec_l6Rd_pick.calls k g s0_0 t221 2 t243 tp w0 _ ?side1 ?side2 A32.out).mono ?_); (case side1 => exact Q64); (case side2 => exact Q70); rintro e w44 ⟨rfl, hi, hb, hk⟩; refine ⟨_, rfl, ?_⟩; replace BK219 := am (KeepBut.blk hk (g' := gb219) (o := .cells #[.int .i64 t213, .int .i64 t214, .int .i64 t215, .int .i64 t216, .int .i64 t217] 90 (0, 0)) Q31 NB219_0.out (by simp)); replace HO242 := am (Kd.R_mono (Kd.R_keep (IsS112.apart (show IsS112 w0 _ g s0_0 t221 from by repeat (first | (with_reducible first | exact HI0.out | apply IsS112.alloc | apply IsS112.drewN | apply IsS112.drew | apply IsS112.set_1 | refine IsS112.far ?_ NB0_219.out _) | exact HI0.out)) (by (with_reducible repeat (first | apply Kd.R_alloc | apply Kd.R_drewN | apply Kd.R_drew)); exact HO242.out) Q0) hk (fun _ h => h.2)) (fun _ h => h.1)); replace HK := am (KeepBut.trans Q60 hk (.inl rfl)); replace HB := am (hb); replace HI0 := am (hi); (try clear hb hk hi); obtain ⟨Ao45, co45, eo45⟩ := Kd.R_slice HO242.out; subst eo45; have p245 : 0 ≤ (t243 : Int) := of_decide_eq_true Q5; have q245 : t243 < (y240.length : Int) := of_decide_eq_true Q5; obtain ⟨ad245, e245, hx245_0⟩ := Kd.at_int (Kd.R_reads' HO242.out).2.2 t243 p245 q245; cases e245; replace p245 := eq_true p245; replace q245 := eq_true q245; obtain ⟨hcz46_0, hcz46_1, hcz46_2, hcz46_3, hcz46_4, hfz46_0, hfz46_1, hfz46_2, hfz46_3, hfz46_4⟩ := bx5_ BK219))
   have n0_ : Aside0 (Kd.R (Kd.int .i64) 3 (w44.setCell ⟨gb219, 1, none⟩ (.int .i64 (rd y240 t243))) w.heap.size (fun _ => True) (.slice (some ad245) y240.length co45) y240) := ⟨by (with_reducible repeat (first | apply Kd.R_alloc | apply Kd.R_drewN | apply Kd.R_drew)); exact Kd.R_mono (Kd.R_far (p := ⟨gb219, 1, none⟩) (Kd.R_types HO242.out BK219.out Q0) (fun _ hk => hk.2) (.int .i64 (rd y240 t243))) (fun _ hk => trivial)⟩
   have n1_ : Aside0 ((w44.setCell ⟨gb219, 1, none⟩ (.int .i64 (rd y240 t243))).heap[gb219]? = some (.cells #[.int .i64 t213, .int .i64 (rd y240 t243), .int .i64 t215, .int .i64 t216, .int .i64 t217] 90 (0, 0))) := ⟨by (with_reducible repeat (first | refine blk_drewN ?_ _ | refine blk_drew ?_ | refine blk_alloc ?_ _)); refine blk_put (cs := #[.int .i64 t213, .int .i64 t214, .int .i64 t215, .int .i64 t216, .int .i64 t217]) ?_ 1 _ rfl; (with_reducible repeat (first | refine blk_drewN ?_ _ | refine blk_drew ?_ | refine blk_alloc ?_ _)); exact BK219.out⟩
   have n2_ : Aside0 (IsS112 w0 (w44.setCell ⟨gb219, 1, none⟩ (.int .i64 (rd y240 t243))) g s0_0 tp) := ⟨Q64⟩
   have n3_ : Aside0 (KeepBut w (w44.setCell ⟨gb219, 1, none⟩ (.int .i64 (rd y240 t243))) g none) := ⟨Q60⟩
   have n4_ : Aside0 (Below w0.heap.size w0 (w44.setCell ⟨gb219, 1, none⟩ (.int .i64 (rd y240 t243)))) := ⟨Q70⟩
   (try clear HO242)
   (try clear BK219)
   (try clear HI0)
   (try clear HK)
   (try clear HB)
   generalize (w44.setCell ⟨gb219, 1, none⟩ (.int .i64 (rd y240 t243))) = wT at n0_ n1_ n2_ n3_ n4_ ⊢
   have HO242 := n0_
   have BK219 := n1_
   have HI0 := n2_
   have HK := n3_
   have HB := n4_
   clear n0_ n1_ n2_ n3_ n4_
   clear HO242
   obtain ⟨e0, e1, e2, e3, e4, hE, BKE⟩ : ∃ e0 e1 e2 e3 e4 : Int, (⟨e0, e1, ⟨e2, e3⟩, e4⟩ : S90) = ⟨t213, (rd y240 t243), ⟨t215, t216⟩, t217⟩ ∧ Aside0 (wT.heap[gb219]? = some (.cells #[.int .i64 e0, .int .i64 e1, .int .i64 e2, .int .i64 e3, .int .i64 e4] 90 (0, 0))) := ⟨_, _, _, _, _, rfl, BK219⟩
   clear BK219; have BK219 := BKE; clear BKE
   have Ny_ := am (Nyc.out.trans (congrArg (fun z : S90 => [z]) hE.symm)); clear Nyc; have Nyc := Ny_; clear Ny_ hE
  case' neg =>
   rw [if_neg c31] at H
   have c31b0 : (t220 == 1) = false := beq_eq_false_iff_ne.mpr c31
   have c31b1 : (t220 != 1) = true := bne_iff_ne.mpr c31
   by_cases c57 : t220 = 2
   case' pos =>
    rw [if_pos c57] at H
    have c57b0 : (t220 == 2) = true := beq_iff_eq.mpr c57
    have c57b1 : (t220 != 2) = false := bne_eq_false_iff_eq.mpr c57
    clear c57
    obtain ⟨ya, hya⟩ : ∃ y_ : List (S90), y_ = (([] : List (S90))) := ⟨_, rfl⟩
    replace H : (if ya.length + l1.length < 3518437208883 then ((some (ya ++ l1 : List (S90))).bind fun yb => ((some (([(⟨t213, t214, (⟨(-1), 0⟩ : S36), t217⟩ : S90)] : List (S90)) : List (S90))).bind fun yc => (if yb.length + yc.length < 3518437208883 then (some ((yb ++ yc), t221)) else (none)))) else (none)) = some (r1, r2) := Q75
    have Nya := Aside0.mk hya
    clear hya
    have c58 : ya.length + l1.length < 3518437208883 := Classical.byContradiction fun hn_ => by rw [if_neg hn_] at H; exact absurd H (by simp)
    rw [if_pos c58] at H
    have LMca := Aside0.mk c58
    clear c58
    obtain ⟨yb, hyb⟩ : ∃ y_ : List (S90), y_ = (ya ++ l1) := ⟨_, rfl⟩
    replace H : ((some (([(⟨t213, t214, (⟨(-1), 0⟩ : S36), t217⟩ : S90)] : List (S90)) : List (S90))).bind fun yc => (if yb.length + yc.length < 3518437208883 then (some ((yb ++ yc), t221)) else (none))) = some (r1, r2) := Q76
    have Nyb := Aside0.mk hyb
    clear hyb
    obtain ⟨yc, hyc⟩ : ∃ y_ : List (S90), y_ = (([(⟨t213, t214, (⟨(-1), 0⟩ : S36), t217⟩ : S90)] : List (S90))) := ⟨_, rfl⟩
    replace H : (if yb.length + yc.length < 3518437208883 then (some ((yb ++ yc), t221)) else (none)) = some (r1, r2) := Q77
    have Nyc := Aside0.mk hyc
    clear hyc
    have c59 : yb.length + yc.length < 3518437208883 := Classical.byContradiction fun hn_ => by rw [if_neg hn_] at H; exact absurd H (by simp)
    rw [if_pos c59] at H
    have LMcb := Aside0.mk c59
    clear c59
    obtain ⟨yd, hyd⟩ : ∃ y_ : List (S90), y_ = (yb ++ yc) := ⟨_, rfl⟩
    replace H : (some (yd, t221)) = some (r1, r2) := Q78
    have Nyd := Aside0.mk hyd
    clear hyd
    simp only [Option.some.injEq, Prod.mk.injEq] at H
    obtain ⟨rfl, rfl⟩ := H
    go_enter Try.func104, Try.ntmps104
    try go_wp2_with (first | ((with_reducible refine gate_callee (f := 125) rfl ?_); refine goesL_ (some 7) rfl rfl Try.func125 Q1 rfl #[.pointer (some ⟨g, 0, none⟩)] rfl Q37 ?_; (with_reducible refine (spec_l71Row.calls k g s0_0 s0_1 t213 t214 t215 t216 t217 t218 w0 _ ?side1 ?side2 A3.out).mono ?_); (case side1 => exact Q40); (case side2 => exact Q55); rintro e w60 ⟨rfl, hi, hb, hk⟩; refine ⟨_, rfl, ?_⟩; replace HK := am (KeepBut.trans Q39 hk (.inl rfl)); replace HB := am (hb); replace HI0 := am (hi); (try clear hb hk hi)) | ((with_reducible refine gate_dst (N := 5) rfl ?_); refine bE_ 5 #[.int .i64 0, .int .i64 0, .int .i64 0, .int .i64 0, .int .i64 0] 90 ?_; intro gb219 hg w61 hbox hb; replace HB := am (below_step Q55 hb); have BK219 := am (hbox); have GW219 := am ((Q83 : w.heap.size ≤ gb219)); have GE219 := am ((Nat.le_trans HW0.out (Q83 : w.heap.size ≤ gb219) : w0.heap.size ≤ gb219)); replace HK := am (KeepBut.trans Q39 (KeepBut.of_below hb g none) (.inl rfl)); have NB0_219 := am ((by rw [hg]; exact Nat.ne_of_lt (IsS112.lt (show IsS112 w0 _ g s0_0 t218 from by repeat (first | (with_reducible first | exact HI0.out | apply IsS112.alloc | apply IsS112.drewN | apply IsS112.drew | apply IsS112.set_1) | exact HI0.out))) : g ≠ gb219)); have NB219_0 := am ((by rw [hg]; exact Nat.ne_of_gt (IsS112.lt (show IsS112 w0 _ g s0_0 t218 from by repeat (first | (with_reducible first | exact HI0.out | apply IsS112.alloc | apply IsS112.drewN | apply IsS112.drew | apply IsS112.set_1) | exact HI0.out))) : gb219 ≠ g)); replace HI0 := am (IsS112.below Q40 hb); clear hb hbox hg; have hnb62 := NB219_0.out; have hnc62 := NB0_219.out; obtain ⟨hcz63_0, hcz63_1, hcz63_2, hcz63_3, hcz63_4, hfz63_0, hfz63_1, hfz63_2, hfz63_3, hfz63_4⟩ := bx5_ BK219) | ((with_reducible refine gate_callee (f := 67) rfl ?_); refine goesL_ (some 9) rfl rfl Try.func67 Q1 rfl #[.pointer (some ⟨g, 0, none⟩), .int .i64 5] rfl Q37 ?_; (with_reducible refine (spec_l6Rd_pick.calls k g s0_0 t218 5 t220 t221 w0 _ ?side1 ?side2 A4.out).mono ?_); (case side1 => exact Q64); (case side2 => exact Q70); rintro e w64 ⟨rfl, hi, hb, hk⟩; refine ⟨_, rfl, ?_⟩; replace BK219 := am (KeepBut.blk hk (g' := gb219) (o := .cells #[.int .i64 t213, .int .i64 t214, .int .i64 t215, .int .i64 t216, .int .i64 t217] 90 (0, 0)) Q80 NB219_0.out (by simp)); replace HK := am (KeepBut.trans Q60 hk (.inl rfl)); replace HB := am (hb); replace HI0 := am (hi); (try clear hb hk hi); obtain ⟨hcz65_0, hcz65_1, hcz65_2, hcz65_3, hcz65_4, hfz65_0, hfz65_1, hfz65_2, hfz65_3, hfz65_4⟩ := bx5_ BK219))
    have n0_ : Aside0 (((w64.setCell ⟨gb219, 2, none⟩ (.int .i64 (-1))).setCell ⟨gb219, 3, none⟩ (.int .i64 0)).heap[gb219]? = some (.cells #[.int .i64 t213, .int .i64 t214, .int .i64 (-1), .int .i64 0, .int .i64 t217] 90 (0, 0))) := ⟨by (with_reducible repeat (first | refine blk_drewN ?_ _ | refine blk_drew ?_ | refine blk_alloc ?_ _)); refine blk_put (cs := #[.int .i64 t213, .int .i64 t214, .int .i64 (-1), .int .i64 t216, .int .i64 t217]) ?_ 3 _ rfl; (with_reducible repeat (first | refine blk_drewN ?_ _ | refine blk_drew ?_ | refine blk_alloc ?_ _)); refine blk_put (cs := #[.int .i64 t213, .int .i64 t214, .int .i64 t215, .int .i64 t216, .int .i64 t217]) ?_ 2 _ rfl; (with_reducible repeat (first | refine blk_drewN ?_ _ | refine blk_drew ?_ | refine blk_alloc ?_ _)); exact BK219.out⟩
    have n1_ : Aside0 (IsS112 w0 ((w64.setCell ⟨gb219, 2, none⟩ (.int .i64 (-1))).setCell ⟨gb219, 3, none⟩ (.int .i64 0)) g s0_0 t221) := ⟨Q64⟩
    have n2_ : Aside0 (KeepBut w ((w64.setCell ⟨gb219, 2, none⟩ (.int .i64 (-1))).setCell ⟨gb219, 3, none⟩ (.int .i64 0)) g none) := ⟨Q60⟩
    have n3_ : Aside0 (Below w0.heap.size w0 ((w64.setCell ⟨gb219, 2, none⟩ (.int .i64 (-1))).setCell ⟨gb219, 3, none⟩ (.int .i64 0))) := ⟨Q70⟩
    (try clear BK219)
    (try clear HI0)
    (try clear HK)
    (try clear HB)
    generalize ((w64.setCell ⟨gb219, 2, none⟩ (.int .i64 (-1))).setCell ⟨gb219, 3, none⟩ (.int .i64 0)) = wT at n0_ n1_ n2_ n3_ ⊢
    have BK219 := n0_
    have HI0 := n1_
    have HK := n2_
    have HB := n3_
    clear n0_ n1_ n2_ n3_
    obtain ⟨tp, hT_⟩ : ∃ tp, tp = t221 := ⟨_, rfl⟩; subst hT_
    obtain ⟨e0, e1, e2, e3, e4, hE, BKE⟩ : ∃ e0 e1 e2 e3 e4 : Int, (⟨e0, e1, ⟨e2, e3⟩, e4⟩ : S90) = ⟨t213, t214, ⟨(-1), 0⟩, t217⟩ ∧ Aside0 (wT.heap[gb219]? = some (.cells #[.int .i64 e0, .int .i64 e1, .int .i64 e2, .int .i64 e3, .int .i64 e4] 90 (0, 0))) := ⟨_, _, _, _, _, rfl, BK219⟩
    clear BK219; have BK219 := BKE; clear BKE
    have Ny_ := am (Nyc.out.trans (congrArg (fun z : S90 => [z]) hE.symm)); clear Nyc; have Nyc := Ny_; clear Ny_ hE
   case' neg =>
    rw [if_neg c57] at H
    have c57b0 : (t220 == 2) = false := beq_eq_false_iff_ne.mpr c57
    have c57b1 : (t220 != 2) = true := bne_iff_ne.mpr c57
    by_cases c76 : t220 = 3
    case' pos =>
     rw [if_pos c76] at H
     have c76b0 : (t220 == 3) = true := beq_iff_eq.mpr c76
     have c76b1 : (t220 != 3) = false := bne_eq_false_iff_eq.mpr c76
     clear c76
     obtain ⟨y270, hy_⟩ : ∃ y_ : List Int, y_ = (([(-100000), 100000] : List Int)) := ⟨_, rfl⟩
     replace H : ((spec_l6Rd_pick.f k s0_0 t221 2).bind fun bt273 => (if 0 ≤ bt273.1 then (if bt273.1 < (y270.length : Int) then ((some (([] : List (S90)) : List (S90))).bind fun ya => (if ya.length + l1.length < 3518437208883 then ((some (ya ++ l1 : List (S90))).bind fun yb => ((some (([(⟨t213, t214, (⟨t215, t216⟩ : S36), rd y270 bt273.1⟩ : S90)] : List (S90)) : List (S90))).bind fun yc => (if yb.length + yc.length < 3518437208883 then (some ((yb ++ yc), bt273.2)) else (none)))) else (none))) else (none)) else (none))) = some (r1, r2) := Q74
     have Ny270 := Aside0.mk hy_
     clear hy_
     replace H := Option.bind_eq_some_iff.mp H
     obtain ⟨⟨t273, tp⟩, A770, H⟩ := H
     replace H : (if 0 ≤ t273 then (if t273 < (y270.length : Int) then ((some (([] : List (S90)) : List (S90))).bind fun ya => (if ya.length + l1.length < 3518437208883 then ((some (ya ++ l1 : List (S90))).bind fun yb => ((some (([(⟨t213, t214, (⟨t215, t216⟩ : S36), rd y270 t273⟩ : S90)] : List (S90)) : List (S90))).bind fun yc => (if yb.length + yc.length < 3518437208883 then (some ((yb ++ yc), tp)) else (none)))) else (none))) else (none)) else (none)) = some (r1, r2) := H
     have A77 := Aside0.mk A770
     clear A770
     have c78 : 0 ≤ t273 := Classical.byContradiction fun hn_ => by rw [if_neg hn_] at H; exact absurd H (by simp)
     rw [if_pos c78] at H
     have c78b0 : decide (0 ≤ t273) = true := decide_eq_true c78
     clear c78
     have c79 : t273 < (y270.length : Int) := Classical.byContradiction fun hn_ => by rw [if_neg hn_] at H; exact absurd H (by simp)
     rw [if_pos c79] at H
     have c79b0 : decide (t273 < (y270.length : Int)) = true := decide_eq_true c79
     clear c79
     obtain ⟨ya, hya⟩ : ∃ y_ : List (S90), y_ = (([] : List (S90))) := ⟨_, rfl⟩
     replace H : (if ya.length + l1.length < 3518437208883 then ((some (ya ++ l1 : List (S90))).bind fun yb => ((some (([(⟨t213, t214, (⟨t215, t216⟩ : S36), rd y270 t273⟩ : S90)] : List (S90)) : List (S90))).bind fun yc => (if yb.length + yc.length < 3518437208883 then (some ((yb ++ yc), tp)) else (none)))) else (none)) = some (r1, r2) := Q75
     have Nya := Aside0.mk hya
     clear hya
     have c80 : ya.length + l1.length < 3518437208883 := Classical.byContradiction fun hn_ => by rw [if_neg hn_] at H; exact absurd H (by simp)
     rw [if_pos c80] at H
     have LMca := Aside0.mk c80
     clear c80
     obtain ⟨yb, hyb⟩ : ∃ y_ : List (S90), y_ = (ya ++ l1) := ⟨_, rfl⟩
     replace H : ((some (([(⟨t213, t214, (⟨t215, t216⟩ : S36), rd y270 t273⟩ : S90)] : List (S90)) : List (S90))).bind fun yc => (if yb.length + yc.length < 3518437208883 then (some ((yb ++ yc), tp)) else (none))) = some (r1, r2) := Q76
     have Nyb := Aside0.mk hyb
     clear hyb
     obtain ⟨yc, hyc⟩ : ∃ y_ : List (S90), y_ = (([(⟨t213, t214, (⟨t215, t216⟩ : S36), rd y270 t273⟩ : S90)] : List (S90))) := ⟨_, rfl⟩
     replace H : (if yb.length + yc.length < 3518437208883 then (some ((yb ++ yc), tp)) else (none)) = some (r1, r2) := Q77
     have Nyc := Aside0.mk hyc
     clear hyc
     have c81 : yb.length + yc.length < 3518437208883 := Classical.byContradiction fun hn_ => by rw [if_neg hn_] at H; exact absurd H (by simp)
     rw [if_pos c81] at H
     have LMcb := Aside0.mk c81
     clear c81
     obtain ⟨yd, hyd⟩ : ∃ y_ : List (S90), y_ = (yb ++ yc) := ⟨_, rfl⟩
     replace H : (some (yd, tp)) = some (r1, r2) := Q78
     have Nyd := Aside0.mk hyd
     clear hyd
     simp only [Option.some.injEq, Prod.mk.injEq] at H
     obtain ⟨rfl, rfl⟩ := H
     go_enter Try.func104, Try.ntmps104
     try go_wp2_with (first | ((with_reducible refine gate_callee (f := 125) rfl ?_); refine goesL_ (some 7) rfl rfl Try.func125 Q1 rfl #[.pointer (some ⟨g, 0, none⟩)] rfl Q37 ?_; (with_reducible refine (spec_l71Row.calls k g s0_0 s0_1 t213 t214 t215 t216 t217 t218 w0 _ ?side1 ?side2 A3.out).mono ?_); (case side1 => exact Q40); (case side2 => exact Q55); rintro e w82 ⟨rfl, hi, hb, hk⟩; refine ⟨_, rfl, ?_⟩; replace HK := am (KeepBut.trans Q39 hk (.inl rfl)); replace HB := am (hb); replace HI0 := am (hi); (try clear hb hk hi)) | ((with_reducible refine gate_dst (N := 5) rfl ?_); refine bE_ 5 #[.int .i64 0, .int .i64 0, .int .i64 0, .int .i64 0, .int .i64 0] 90 ?_; intro gb219 hg w83 hbox hb; replace HB := am (below_step Q55 hb); have BK219 := am (hbox); have GW219 := am ((Q83 : w.heap.size ≤ gb219)); have GE219 := am ((Nat.le_trans HW0.out (Q83 : w.heap.size ≤ gb219) : w0.heap.size ≤ gb219)); replace HK := am (KeepBut.trans Q39 (KeepBut.of_below hb g none) (.inl rfl)); have NB0_219 := am ((by rw [hg]; exact Nat.ne_of_lt (IsS112.lt (show IsS112 w0 _ g s0_0 t218 from by repeat (first | (with_reducible first | exact HI0.out | apply IsS112.alloc | apply IsS112.drewN | apply IsS112.drew | apply IsS112.set_1) | exact HI0.out))) : g ≠ gb219)); have NB219_0 := am ((by rw [hg]; exact Nat.ne_of_gt (IsS112.lt (show IsS112 w0 _ g s0_0 t218 from by repeat (first | (with_reducible first | exact HI0.out | apply IsS112.alloc | apply IsS112.drewN | apply IsS112.drew | apply IsS112.set_1) | exact HI0.out))) : gb219 ≠ g)); replace HI0 := am (IsS112.below Q40 hb); clear hb hbox hg; have hnb84 := NB219_0.out; have hnc84 := NB0_219.out; obtain ⟨hcz85_0, hcz85_1, hcz85_2, hcz85_3, hcz85_4, hfz85_0, hfz85_1, hfz85_2, hfz85_3, hfz85_4⟩ := bx5_ BK219) | ((with_reducible refine gate_callee (f := 67) rfl ?_); refine goesL_ (some 9) rfl rfl Try.func67 Q1 rfl #[.pointer (some ⟨g, 0, none⟩), .int .i64 5] rfl Q37 ?_; (with_reducible refine (spec_l6Rd_pick.calls k g s0_0 t218 5 t220 t221 w0 _ ?side1 ?side2 A4.out).mono ?_); (case side1 => exact Q64); (case side2 => exact Q70); rintro e w86 ⟨rfl, hi, hb, hk⟩; refine ⟨_, rfl, ?_⟩; replace BK219 := am (KeepBut.blk hk (g' := gb219) (o := .cells #[.int .i64 t213, .int .i64 t214, .int .i64 t215, .int .i64 t216, .int .i64 t217] 90 (0, 0)) Q80 NB219_0.out (by simp)); replace HK := am (KeepBut.trans Q60 hk (.inl rfl)); replace HB := am (hb); replace HI0 := am (hi); (try clear hb hk hi)) | ((with_reducible refine gate_dst (N := 34) rfl ?_); refine Kd.R_lit (Kd.int .i64) _ 3 ?hg (N := 34) ?hd (xs := ([(-100000), 100000] : List Int)) (inner := [.int .i64 (-100000), .int .i64 100000]) (ok := fun _ => True) (okp := fun _ => True) ?hr ?hp (fun _ hk => hk) trivial (Below.refl _ _) (Nat.le_refl _) (by simp) ?_; (case hd => rfl); (case hg => rfl); (case hr => first | (go_simp; done) | (go_simp; rfl)); (case hp => exact (Reps.one (show Kd.M (Kd.int .i64) _ _ _ (-100000) [.int .i64 (-100000)] from rfl) (Reps.one (show Kd.M (Kd.int .i64) _ _ _ 100000 [.int .i64 100000] from rfl) (Reps.none _ _)))); intro v271 w87 ho88 hb hg_ hnew_; clear hg_ hnew_; (first | rw [← Ny270.out] at ho88 | (simp only [Int.reduceToNat] at ho88; rw [← Ny270.out] at ho88)); have HO272 := am (Kd.R_lower ho88 (keep_size (w := w) (g := g) (row := none) Q60)); replace BK219 := am (blk_below (g := gb219) (o := .cells #[.int .i64 t213, .int .i64 t214, .int .i64 t215, .int .i64 t216, .int .i64 t217] 90 (0, 0)) Q31 hb); replace HK := am (KeepBut.trans Q60 (KeepBut.of_below hb g none) (.inl rfl)); replace HB := am (below_step Q70 hb); replace HI0 := am (IsS112.below Q64 hb); clear hb ho88) | ((with_reducible refine gate_callee (f := 67) rfl ?_); refine goesL_ (some 36) rfl rfl Try.func67 Q1 rfl #[.pointer (some ⟨g, 0, none⟩), .int .i64 2] rfl Q37 ?_; (with_reducible refine (spec_l6Rd_pick.calls k g s0_0 t221 2 t273 tp w0 _ ?side1 ?side2 A77.out).mono ?_); (case side1 => exact Q64); (case side2 => exact Q70); rintro e w89 ⟨rfl, hi, hb, hk⟩; refine ⟨_, rfl, ?_⟩; replace BK219 := am (KeepBut.blk hk (g' := gb219) (o := .cells #[.int .i64 t213, .int .i64 t214, .int .i64 t215, .int .i64 t216, .int .i64 t217] 90 (0, 0)) Q31 NB219_0.out (by simp)); replace HO272 := am (Kd.R_mono (Kd.R_keep (IsS112.apart (show IsS112 w0 _ g s0_0 t221 from by repeat (first | (with_reducible first | exact HI0.out | apply IsS112.alloc | apply IsS112.drewN | apply IsS112.drew | apply IsS112.set_1 | refine IsS112.far ?_ NB0_219.out _) | exact HI0.out)) (by (with_reducible repeat (first | apply Kd.R_alloc | apply Kd.R_drewN | apply Kd.R_drew)); exact HO272.out) Q0) hk (fun _ h => h.2)) (fun _ h => h.1)); replace HK := am (KeepBut.trans Q60 hk (.inl rfl)); replace HB := am (hb); replace HI0 := am (hi); (try clear hb hk hi); obtain ⟨Ao90, co90, eo90⟩ := Kd.R_slice HO272.out; subst eo90; have p275 : 0 ≤ (t273 : Int) := of_decide_eq_true Q5; have q275 : t273 < (y270.length : Int) := of_decide_eq_true Q5; obtain ⟨ad275, e275, hx275_0⟩ := Kd.at_int (Kd.R_reads' HO272.out).2.2 t273 p275 q275; cases e275; replace p275 := eq_true p275; replace q275 := eq_true q275; obtain ⟨hcz91_0, hcz91_1, hcz91_2, hcz91_3, hcz91_4, hfz91_0, hfz91_1, hfz91_2, hfz91_3, hfz91_4⟩ := bx5_ BK219))
     have n0_ : Aside0 (Kd.R (Kd.int .i64) 3 (w89.setCell ⟨gb219, 4, none⟩ (.int .i64 (rd y270 t273))) w.heap.size (fun _ => True) (.slice (some ad275) y270.length co90) y270) := ⟨by (with_reducible repeat (first | apply Kd.R_alloc | apply Kd.R_drewN | apply Kd.R_drew)); exact Kd.R_mono (Kd.R_far (p := ⟨gb219, 4, none⟩) (Kd.R_types HO272.out BK219.out Q0) (fun _ hk => hk.2) (.int .i64 (rd y270 t273))) (fun _ hk => trivial)⟩
     have n1_ : Aside0 ((w89.setCell ⟨gb219, 4, none⟩ (.int .i64 (rd y270 t273))).heap[gb219]? = some (.cells #[.int .i64 t213, .int .i64 t214, .int .i64 t215, .int .i64 t216, .int .i64 (rd y270 t273)] 90 (0, 0))) := ⟨by (with_reducible repeat (first | refine blk_drewN ?_ _ | refine blk_drew ?_ | refine blk_alloc ?_ _)); refine blk_put (cs := #[.int .i64 t213, .int .i64 t214, .int .i64 t215, .int .i64 t216, .int .i64 t217]) ?_ 4 _ rfl; (with_reducible repeat (first | refine blk_drewN ?_ _ | refine blk_drew ?_ | refine blk_alloc ?_ _)); exact BK219.out⟩
     have n2_ : Aside0 (IsS112 w0 (w89.setCell ⟨gb219, 4, none⟩ (.int .i64 (rd y270 t273))) g s0_0 tp) := ⟨Q64⟩
     have n3_ : Aside0 (KeepBut w (w89.setCell ⟨gb219, 4, none⟩ (.int .i64 (rd y270 t273))) g none) := ⟨Q60⟩
     have n4_ : Aside0 (Below w0.heap.size w0 (w89.setCell ⟨gb219, 4, none⟩ (.int .i64 (rd y270 t273)))) := ⟨Q70⟩
     (try clear HO272)
     (try clear BK219)
     (try clear HI0)
     (try clear HK)
     (try clear HB)
     generalize (w89.setCell ⟨gb219, 4, none⟩ (.int .i64 (rd y270 t273))) = wT at n0_ n1_ n2_ n3_ n4_ ⊢
     have HO272 := n0_
     have BK219 := n1_
     have HI0 := n2_
     have HK := n3_
     have HB := n4_
     clear n0_ n1_ n2_ n3_ n4_
     clear HO272
     obtain ⟨e0, e1, e2, e3, e4, hE, BKE⟩ : ∃ e0 e1 e2 e3 e4 : Int, (⟨e0, e1, ⟨e2, e3⟩, e4⟩ : S90) = ⟨t213, t214, ⟨t215, t216⟩, (rd y270 t273)⟩ ∧ Aside0 (wT.heap[gb219]? = some (.cells #[.int .i64 e0, .int .i64 e1, .int .i64 e2, .int .i64 e3, .int .i64 e4] 90 (0, 0))) := ⟨_, _, _, _, _, rfl, BK219⟩
     clear BK219; have BK219 := BKE; clear BKE
     have Ny_ := am (Nyc.out.trans (congrArg (fun z : S90 => [z]) hE.symm)); clear Nyc; have Nyc := Ny_; clear Ny_ hE
    case' neg =>
     rw [if_neg c76] at H
     have c76b0 : (t220 == 3) = false := beq_eq_false_iff_ne.mpr c76
     have c76b1 : (t220 != 3) = true := bne_iff_ne.mpr c76
     obtain ⟨ya, hya⟩ : ∃ y_ : List (S90), y_ = (([] : List (S90))) := ⟨_, rfl⟩
     replace H : (if ya.length + l1.length < 3518437208883 then ((some (ya ++ l1 : List (S90))).bind fun yb => ((some (([(⟨t213, t214, (⟨t215, 8⟩ : S36), t217⟩ : S90)] : List (S90)) : List (S90))).bind fun yc => (if yb.length + yc.length < 3518437208883 then (some ((yb ++ yc), t221)) else (none)))) else (none)) = some (r1, r2) := Q75
     have Nya := Aside0.mk hya
     clear hya
     have c102 : ya.length + l1.length < 3518437208883 := Classical.byContradiction fun hn_ => by rw [if_neg hn_] at H; exact absurd H (by simp)
     rw [if_pos c102] at H
     have LMca := Aside0.mk c102
     clear c102
     obtain ⟨yb, hyb⟩ : ∃ y_ : List (S90), y_ = (ya ++ l1) := ⟨_, rfl⟩
     replace H : ((some (([(⟨t213, t214, (⟨t215, 8⟩ : S36), t217⟩ : S90)] : List (S90)) : List (S90))).bind fun yc => (if yb.length + yc.length < 3518437208883 then (some ((yb ++ yc), t221)) else (none))) = some (r1, r2) := Q76
     have Nyb := Aside0.mk hyb
     clear hyb
     obtain ⟨yc, hyc⟩ : ∃ y_ : List (S90), y_ = (([(⟨t213, t214, (⟨t215, 8⟩ : S36), t217⟩ : S90)] : List (S90))) := ⟨_, rfl⟩
     replace H : (if yb.length + yc.length < 3518437208883 then (some ((yb ++ yc), t221)) else (none)) = some (r1, r2) := Q77
     have Nyc := Aside0.mk hyc
     clear hyc
     have c103 : yb.length + yc.length < 3518437208883 := Classical.byContradiction fun hn_ => by rw [if_neg hn_] at H; exact absurd H (by simp)
     rw [if_pos c103] at H
     have LMcb := Aside0.mk c103
     clear c103
     obtain ⟨yd, hyd⟩ : ∃ y_ : List (S90), y_ = (yb ++ yc) := ⟨_, rfl⟩
     replace H : (some (yd, t221)) = some (r1, r2) := Q78
     have Nyd := Aside0.mk hyd
     clear hyd
     simp only [Option.some.injEq, Prod.mk.injEq] at H
     obtain ⟨rfl, rfl⟩ := H
     go_enter Try.func104, Try.ntmps104
     try go_wp2_with (first | ((with_reducible refine gate_callee (f := 125) rfl ?_); refine goesL_ (some 7) rfl rfl Try.func125 Q1 rfl #[.pointer (some ⟨g, 0, none⟩)] rfl Q37 ?_; (with_reducible refine (spec_l71Row.calls k g s0_0 s0_1 t213 t214 t215 t216 t217 t218 w0 _ ?side1 ?side2 A3.out).mono ?_); (case side1 => exact Q40); (case side2 => exact Q55); rintro e w104 ⟨rfl, hi, hb, hk⟩; refine ⟨_, rfl, ?_⟩; replace HK := am (KeepBut.trans Q39 hk (.inl rfl)); replace HB := am (hb); replace HI0 := am (hi); (try clear hb hk hi)) | ((with_reducible refine gate_dst (N := 5) rfl ?_); refine bE_ 5 #[.int .i64 0, .int .i64 0, .int .i64 0, .int .i64 0, .int .i64 0] 90 ?_; intro gb219 hg w105 hbox hb; replace HB := am (below_step Q55 hb); have BK219 := am (hbox); have GW219 := am ((Q83 : w.heap.size ≤ gb219)); have GE219 := am ((Nat.le_trans HW0.out (Q83 : w.heap.size ≤ gb219) : w0.heap.size ≤ gb219)); replace HK := am (KeepBut.trans Q39 (KeepBut.of_below hb g none) (.inl rfl)); have NB0_219 := am ((by rw [hg]; exact Nat.ne_of_lt (IsS112.lt (show IsS112 w0 _ g s0_0 t218 from by repeat (first | (with_reducible first | exact HI0.out | apply IsS112.alloc | apply IsS112.drewN | apply IsS112.drew | apply IsS112.set_1) | exact HI0.out))) : g ≠ gb219)); have NB219_0 := am ((by rw [hg]; exact Nat.ne_of_gt (IsS112.lt (show IsS112 w0 _ g s0_0 t218 from by repeat (first | (with_reducible first | exact HI0.out | apply IsS112.alloc | apply IsS112.drewN | apply IsS112.drew | apply IsS112.set_1) | exact HI0.out))) : gb219 ≠ g)); replace HI0 := am (IsS112.below Q40 hb); clear hb hbox hg; have hnb106 := NB219_0.out; have hnc106 := NB0_219.out; obtain ⟨hcz107_0, hcz107_1, hcz107_2, hcz107_3, hcz107_4, hfz107_0, hfz107_1, hfz107_2, hfz107_3, hfz107_4⟩ := bx5_ BK219) | ((with_reducible refine gate_callee (f := 67) rfl ?_); refine goesL_ (some 9) rfl rfl Try.func67 Q1 rfl #[.pointer (some ⟨g, 0, none⟩), .int .i64 5] rfl Q37 ?_; (with_reducible refine (spec_l6Rd_pick.calls k g s0_0 t218 5 t220 t221 w0 _ ?side1 ?side2 A4.out).mono ?_); (case side1 => exact Q64); (case side2 => exact Q70); rintro e w108 ⟨rfl, hi, hb, hk⟩; refine ⟨_, rfl, ?_⟩; replace BK219 := am (KeepBut.blk hk (g' := gb219) (o := .cells #[.int .i64 t213, .int .i64 t214, .int .i64 t215, .int .i64 t216, .int .i64 t217] 90 (0, 0)) Q80 NB219_0.out (by simp)); replace HK := am (KeepBut.trans Q60 hk (.inl rfl)); replace HB := am (hb); replace HI0 := am (hi); (try clear hb hk hi); obtain ⟨hcz109_0, hcz109_1, hcz109_2, hcz109_3, hcz109_4, hfz109_0, hfz109_1, hfz109_2, hfz109_3, hfz109_4⟩ := bx5_ BK219))
     have n0_ : Aside0 ((w108.setCell ⟨gb219, 3, none⟩ (.int .i64 8)).heap[gb219]? = some (.cells #[.int .i64 t213, .int .i64 t214, .int .i64 t215, .int .i64 8, .int .i64 t217] 90 (0, 0))) := ⟨by (with_reducible repeat (first | refine blk_drewN ?_ _ | refine blk_drew ?_ | refine blk_alloc ?_ _)); refine blk_put (cs := #[.int .i64 t213, .int .i64 t214, .int .i64 t215, .int .i64 t216, .int .i64 t217]) ?_ 3 _ rfl; (with_reducible repeat (first | refine blk_drewN ?_ _ | refine blk_drew ?_ | refine blk_alloc ?_ _)); exact BK219.out⟩
     have n1_ : Aside0 (IsS112 w0 (w108.setCell ⟨gb219, 3, none⟩ (.int .i64 8)) g s0_0 t221) := ⟨Q64⟩
     have n2_ : Aside0 (KeepBut w (w108.setCell ⟨gb219, 3, none⟩ (.int .i64 8)) g none) := ⟨Q60⟩
     have n3_ : Aside0 (Below w0.heap.size w0 (w108.setCell ⟨gb219, 3, none⟩ (.int .i64 8))) := ⟨Q70⟩
     (try clear BK219)
     (try clear HI0)
     (try clear HK)
     (try clear HB)
     generalize (w108.setCell ⟨gb219, 3, none⟩ (.int .i64 8)) = wT at n0_ n1_ n2_ n3_ ⊢
     have BK219 := n0_
     have HI0 := n1_
     have HK := n2_
     have HB := n3_
     clear n0_ n1_ n2_ n3_
     obtain ⟨tp, hT_⟩ : ∃ tp, tp = t221 := ⟨_, rfl⟩; subst hT_
     obtain ⟨e0, e1, e2, e3, e4, hE, BKE⟩ : ∃ e0 e1 e2 e3 e4 : Int, (⟨e0, e1, ⟨e2, e3⟩, e4⟩ : S90) = ⟨t213, t214, ⟨t215, 8⟩, t217⟩ ∧ Aside0 (wT.heap[gb219]? = some (.cells #[.int .i64 e0, .int .i64 e1, .int .i64 e2, .int .i64 e3, .int .i64 e4] 90 (0, 0))) := ⟨_, _, _, _, _, rfl, BK219⟩
     clear BK219; have BK219 := BKE; clear BKE
     have Ny_ := am (Nyc.out.trans (congrArg (fun z : S90 => [z]) hE.symm)); clear Nyc; have Nyc := Ny_; clear Ny_ hE
 all_goals
  replace BK219 := am (blk_drew BK219.out)
  replace HI0 := am (IsS112.drew HI0.out)
  replace HK := am (keep_drew HK.out)
  replace HB := am (below_drew1 HB.out)
  refine start_ (n := 7) (S := fun w' => w'.cell? ⟨gb219, 0, none⟩ = some (.int .i64 e0) ∧ w'.cell? ⟨gb219, 1, none⟩ = some (.int .i64 e1) ∧ w'.cell? ⟨gb219, 2, none⟩ = some (.int .i64 e2) ∧ w'.cell? ⟨gb219, 3, none⟩ = some (.int .i64 e3) ∧ w'.cell? ⟨gb219, 4, none⟩ = some (.int .i64 e4)) (ds := []) b7_0 Q1 rfl rfl ⟨(blk_cell BK219.out 0).trans rfl, (blk_cell BK219.out 1).trans rfl, (blk_cell BK219.out 2).trans rfl, (blk_cell BK219.out 3).trans rfl, (blk_cell BK219.out 4).trans rfl⟩ (fun hHeld => ?_)
  generalize wT.drew = w111 at BK219 HI0 HK HB hHeld ⊢
  refine pU_ 1 41 c38 ?_
  refine tU_ 3 43 c39 hHeld ?_
  refine join_ (σ := Value × Value × Value) 2 b7_5 (fun s_ => [(40, s_.1), (42, s_.2.1), (44, s_.2.2)]) (fun s_ w' => (w'.cell? ⟨gb219, 0, none⟩ = some (.int .i64 e0) ∧ w'.cell? ⟨gb219, 1, none⟩ = some (.int .i64 e1) ∧ w'.cell? ⟨gb219, 2, none⟩ = some (.int .i64 e2) ∧ w'.cell? ⟨gb219, 3, none⟩ = some (.int .i64 e3) ∧ w'.cell? ⟨gb219, 4, none⟩ = some (.int .i64 e4)) ∧ (Kd.R k90 90 w' w.heap.size (fun k_ => some k_ ≠ (s_.2.2 : Value).ownBlock ∧ k_ ≠ gb219) s_.2.1 yb) ∧ (Kd.R k90 90 w' w.heap.size (fun k_ => some k_ ≠ (s_.2.1 : Value).ownBlock ∧ k_ ≠ gb219) s_.2.2 yc) ∧ (w'.heap[gb219]? = some (.cells #[.int .i64 e0, .int .i64 e1, .int .i64 e2, .int .i64 e3, .int .i64 e4] 90 (0, 0))) ∧ (IsS112 w0 w' g s0_0 tp) ∧ (KeepBut w w' g none) ∧ (Below w0.heap.size w0 w')) ?_ ?_
  rotate_left
  ·intro hCont
   refine two_ (i := 0) (j := 4) (Ni := some 40) (Nj := some 44) c41 c42 rfl rfl rfl rfl Q1 Q0 Q0 (fun K hK => ?_) (fun K hK => ?_)
   ·skip
    refine Kd.R_lit_step k90 _ 90 ?hg (N := 40) ?hd (xs := ([] : List (S90))) (inner := []) (ok := fun _ => True) (okp := fun _ => True) ?hr ?hp (fun _ hk => hk) trivial (Below.refl _ _) (Nat.le_refl _) (by simp) ?_; (case hd => rfl); (case hg => rfl); (case hr => first | (go_simp; done) | (go_simp; rfl)); (case hp => exact (Reps.none _ _))
    intro v289 w112 ho113 hb hg_ hnew_
    clear hg_ hnew_
    (first | rw [← Nya.out] at ho113 | (simp only [Int.reduceToNat] at ho113; rw [← Nya.out] at ho113))
    have HO290 := am (Kd.R_lower (Kd.R_newB ho113 (g := gb219) (o := .cells #[.int .i64 e0, .int .i64 e1, .int .i64 e2, .int .i64 e3, .int .i64 e4] 90 (0, 0)) Q31) (keep_size (w := w) (g := g) (row := none) Q60))
    replace BK219 := am (blk_below (g := gb219) (o := .cells #[.int .i64 e0, .int .i64 e1, .int .i64 e2, .int .i64 e3, .int .i64 e4] 90 (0, 0)) Q31 hb)
    replace HK := am (KeepBut.trans Q60 (KeepBut.of_below hb g none) (.inl rfl))
    replace HB := am (below_step Q70 hb)
    replace HI0 := am (IsS112.below Q64 hb)
    clear hb ho113
    refine hK.out _ _ ⟨(blk_cell BK219.out 0).trans rfl, (blk_cell BK219.out 1).trans rfl, (blk_cell BK219.out 2).trans rfl, (blk_cell BK219.out 3).trans rfl, (blk_cell BK219.out 4).trans rfl⟩ (fun hHeld => ?_)
    clear hK K
    refine norm_ (a' := ?_) ?_ ?_
    rotate_left
    ·show Act.put _ (some 40) _ = _
     simp only [Act.put, List.setIfInBounds_toArray, List.set_cons_zero, List.set_cons_succ, i64_w, i32_w]
     rfl
    refine two_ (i := 2) (j := 4) (Ni := some 42) (Nj := some 44) b7_4 c44 rfl rfl rfl rfl Q1 Q0 Q0 (fun K hK => ?_) (fun K hK => ?_)
    ·skip
     refine Kd.R_append_rows_step k90 w.heap.size (by rfl) (.tmp 40) (.tmp 41) 59 90 (.agg #[(.int .i64 0), (.int .i64 0), (.int .i64 0), (.int .i64 0), (.int .i64 0)]) 40 rfl Try.underlying59 info90 rfl Q0 (by omega) v289 ya l1 _ _ _ (fun k_ => k_ ≠ gb219) (fun _ => False) rfl rfl ?aO ?aR (fun _ _ h => h) (fun _ h => h.elim) ?aF (Below.refl _ _) ?aS ?aL ?_
     (case aR => exact Kd.C_foot_now HR1.out Q60)
     (case aF => exact (fun k_ hk => Kd.freshB (g := gb219) (o := .cells #[.int .i64 e0, .int .i64 e1, .int .i64 e2, .int .i64 e3, .int .i64 e4] 90 (0, 0)) Q31 k_ hk))
     (case aO => exact (by (with_reducible repeat (first | apply Kd.R_alloc | apply Kd.R_drewN | apply Kd.R_drew)); exact Kd.R_mono HO290.out (fun _ hk => hk.2)))
     (case aS => exact (keep_size (w := w) (g := g) (row := none) Q60))
     (case aL => have := LMca.out; omega)
     intro v292 w114 ho hb hg hat
     rw [← Nyb.out] at ho
     replace BK219 := am (blk_grown (g := gb219) (o := .cells #[.int .i64 e0, .int .i64 e1, .int .i64 e2, .int .i64 e3, .int .i64 e4] 90 (0, 0)) Q31 hg (Kd.R_away HO290.out (fun _ hk => hk.2)))
     replace HB := am (below_weaken Q70 HL.out hb)
     replace HI0 := am (IsS112.grown (show IsS112 w0 _ g s0_0 tp from by repeat (first | (with_reducible first | exact HI0.out | apply IsS112.alloc | apply IsS112.drewN | apply IsS112.drew | apply IsS112.set_1 | refine IsS112.far ?_ NB0_219.out _) | exact HI0.out)) hg (IsS112.own_ne HI0.out HO290.out Q0))
     replace HK := am (KeepBut.trans Q60 (KeepBut.of_grown hg g) (Kd.R_base2 HO290.out))
     have HO293 := am (ho)
     clear HO290
     clear ho hb hg hat
     refine hK.out _ _ ⟨(blk_cell BK219.out 0).trans rfl, (blk_cell BK219.out 1).trans rfl, (blk_cell BK219.out 2).trans rfl, (blk_cell BK219.out 3).trans rfl, (blk_cell BK219.out 4).trans rfl⟩ (fun hHeld => ?_)
     clear hK K
     refine norm_ (a' := ?_) ?_ ?_
     rotate_left
     ·show Act.put _ (some 42) _ = _
      simp only [Act.put, List.setIfInBounds_toArray, List.set_cons_zero, List.set_cons_succ, i64_w, i32_w]
      rfl
     refine one_ (i := 4) (N := some 44) b7_5 rfl rfl Q1 Q0 (fun K hK => ?_)
     refine Kd.R_lit_step k90 _ 90 ?hg (N := 44) ?hd (xs := ([(⟨e0, e1, (⟨e2, e3⟩ : S36), e4⟩ : S90)] : List (S90))) (inner := [.int .i64 e0, .int .i64 e1, .int .i64 e2, .int .i64 e3, .int .i64 e4]) (ok := fun _ => True) (okp := fun _ => True) ?hr ?hp (fun _ hk => hk) trivial (Below.refl _ _) (Nat.le_refl _) (by simp) ?_; (case hd => rfl); (case hg => rfl); (case hr => first | (go_simp; done) | (go_simp; rfl)); (case hp => exact (Reps.c5 (show Kd.M k90 _ _ _ (⟨e0, e1, (⟨e2, e3⟩ : S36), e4⟩ : S90) [.int .i64 e0, .int .i64 e1, .int .i64 e2, .int .i64 e3, .int .i64 e4] from (k90_mkM _ _ _ (⟨e0, e1, (⟨e2, e3⟩ : S36), e4⟩ : S90) )) (Reps.none _ _)))
     intro v295 w115 ho116 hb hg_ hnew_
     clear hg_ hnew_
     (first | rw [← Nyc.out] at ho116 | (simp only [Int.reduceToNat] at ho116; rw [← Nyc.out] at ho116))
     have HO296 := am (Kd.R_lower (Kd.R_newB (Kd.R_new' ho116 (Kd.R_lt Q16)) (g := gb219) (o := .cells #[.int .i64 e0, .int .i64 e1, .int .i64 e2, .int .i64 e3, .int .i64 e4] 90 (0, 0)) Q31) (keep_size (w := w) (g := g) (row := none) Q60))
     replace HO293 := am (Kd.R_elder' Q16 (Kd.R_base ho116) hb)
     replace BK219 := am (blk_below (g := gb219) (o := .cells #[.int .i64 e0, .int .i64 e1, .int .i64 e2, .int .i64 e3, .int .i64 e4] 90 (0, 0)) Q31 hb)
     replace HK := am (KeepBut.trans Q60 (KeepBut.of_below hb g none) (.inl rfl))
     replace HB := am (below_step Q70 hb)
     replace HI0 := am (IsS112.below Q64 hb)
     clear hb ho116
     refine hK.out _ _ ⟨(blk_cell BK219.out 0).trans rfl, (blk_cell BK219.out 1).trans rfl, (blk_cell BK219.out 2).trans rfl, (blk_cell BK219.out 3).trans rfl, (blk_cell BK219.out 4).trans rfl⟩ (fun hHeld => ?_)
     clear hK K
     refine norm_ (a' := ?_) ?_ ?_
     rotate_left
     ·show Act.put _ (some 44) _ = _
      simp only [Act.put, List.setIfInBounds_toArray, List.set_cons_zero, List.set_cons_succ, i64_w, i32_w]
      rfl
     exact norm_ Q10 (hCont (v289, v292, v295) _ ⟨hHeld, (by (with_reducible repeat (first | apply Kd.R_alloc | apply Kd.R_drewN | apply Kd.R_drew)); exact Kd.R_mono HO293.out (fun _ hk => ⟨hk.2, hk.1⟩)), (by (with_reducible repeat (first | apply Kd.R_alloc | apply Kd.R_drewN | apply Kd.R_drew)); exact Kd.R_mono HO296.out (fun _ hk => ⟨hk.1.2, hk.2⟩)), Q31, Q64, Q60, Q70⟩)
    ·skip
     refine Kd.R_lit_step k90 _ 90 ?hg (N := 44) ?hd (xs := ([(⟨e0, e1, (⟨e2, e3⟩ : S36), e4⟩ : S90)] : List (S90))) (inner := [.int .i64 e0, .int .i64 e1, .int .i64 e2, .int .i64 e3, .int .i64 e4]) (ok := fun _ => True) (okp := fun _ => True) ?hr ?hp (fun _ hk => hk) trivial (Below.refl _ _) (Nat.le_refl _) (by simp) ?_; (case hd => rfl); (case hg => rfl); (case hr => first | (go_simp; done) | (go_simp; rfl)); (case hp => exact (Reps.c5 (show Kd.M k90 _ _ _ (⟨e0, e1, (⟨e2, e3⟩ : S36), e4⟩ : S90) [.int .i64 e0, .int .i64 e1, .int .i64 e2, .int .i64 e3, .int .i64 e4] from (k90_mkM _ _ _ (⟨e0, e1, (⟨e2, e3⟩ : S36), e4⟩ : S90) )) (Reps.none _ _)))
     intro v295 w114 ho115 hb hg_ hnew_
     clear hg_ hnew_
     (first | rw [← Nyc.out] at ho115 | (simp only [Int.reduceToNat] at ho115; rw [← Nyc.out] at ho115))
     have HO296 := am (Kd.R_lower (Kd.R_newB (Kd.R_new' ho115 (Kd.R_lt (by (with_reducible repeat (first | apply Kd.R_alloc | apply Kd.R_drewN | apply Kd.R_drew)); exact HO290.out))) (g := gb219) (o := .cells #[.int .i64 e0, .int .i64 e1, .int .i64 e2, .int .i64 e3, .int .i64 e4] 90 (0, 0)) Q31) (keep_size (w := w) (g := g) (row := none) Q60))
     replace HO290 := am (Kd.R_elder' (by (with_reducible repeat (first | apply Kd.R_alloc | apply Kd.R_drewN | apply Kd.R_drew)); exact HO290.out) (Kd.R_base ho115) hb)
     replace BK219 := am (blk_below (g := gb219) (o := .cells #[.int .i64 e0, .int .i64 e1, .int .i64 e2, .int .i64 e3, .int .i64 e4] 90 (0, 0)) Q31 hb)
     replace HK := am (KeepBut.trans Q60 (KeepBut.of_below hb g none) (.inl rfl))
     replace HB := am (below_step Q70 hb)
     replace HI0 := am (IsS112.below Q64 hb)
     clear hb ho115
     refine hK.out _ _ ⟨(blk_cell BK219.out 0).trans rfl, (blk_cell BK219.out 1).trans rfl, (blk_cell BK219.out 2).trans rfl, (blk_cell BK219.out 3).trans rfl, (blk_cell BK219.out 4).trans rfl⟩ (fun hHeld => ?_)
     clear hK K
     refine norm_ (a' := ?_) ?_ ?_
     rotate_left
     ·show Act.put _ (some 44) _ = _
      simp only [Act.put, List.setIfInBounds_toArray, List.set_cons_zero, List.set_cons_succ, i64_w, i32_w]
      rfl
     refine one_ (i := 2) (N := some 42) b7_5 rfl rfl Q1 Q0 (fun K hK => ?_)
     refine Kd.R_append_rows_step k90 w.heap.size (by rfl) (.tmp 40) (.tmp 41) 59 90 (.agg #[(.int .i64 0), (.int .i64 0), (.int .i64 0), (.int .i64 0), (.int .i64 0)]) 40 rfl Try.underlying59 info90 rfl Q0 (by omega) v289 ya l1 _ _ _ (fun k_ => some k_ ≠ (v295 : Value).ownBlock ∧ k_ ≠ gb219) (fun _ => False) rfl rfl ?aO ?aR (fun _ _ h => h) (fun _ h => h.elim) ?aF (Below.refl _ _) ?aS ?aL ?_
     (case aR => exact Kd.C_foot_now HR1.out Q60)
     (case aF => exact (fun k_ hk => ⟨Kd.fresh' (Kd.R_lt Q17) k_ hk, Kd.freshB (g := gb219) (o := .cells #[.int .i64 e0, .int .i64 e1, .int .i64 e2, .int .i64 e3, .int .i64 e4] 90 (0, 0)) Q31 k_ hk⟩))
     (case aO => exact (by (with_reducible repeat (first | apply Kd.R_alloc | apply Kd.R_drewN | apply Kd.R_drew)); exact Kd.R_mono HO290.out (fun _ hk => ⟨hk.2, hk.1.2⟩)))
     (case aS => exact (keep_size (w := w) (g := g) (row := none) Q60))
     (case aL => have := LMca.out; omega)
     intro v292 w116 ho hb hg hat
     rw [← Nyb.out] at ho
     replace BK219 := am (blk_grown (g := gb219) (o := .cells #[.int .i64 e0, .int .i64 e1, .int .i64 e2, .int .i64 e3, .int .i64 e4] 90 (0, 0)) Q31 hg (Kd.R_away HO290.out (fun _ hk => hk.1.2)))
     replace HO296 := am (Kd.R_after (ok := (fun k_ => k_ ≠ gb219)) (by (with_reducible repeat (first | apply Kd.R_alloc | apply Kd.R_drewN | apply Kd.R_drew)); exact Kd.R_mono HO296.out (fun _ hk => ⟨hk.2, hk.1.2⟩)) hg hat)
     replace HB := am (below_weaken Q70 HL.out hb)
     replace HI0 := am (IsS112.grown (show IsS112 w0 _ g s0_0 tp from by repeat (first | (with_reducible first | exact HI0.out | apply IsS112.alloc | apply IsS112.drewN | apply IsS112.drew | apply IsS112.set_1 | refine IsS112.far ?_ NB0_219.out _) | exact HI0.out)) hg (IsS112.own_ne HI0.out HO290.out Q0))
     replace HK := am (KeepBut.trans Q60 (KeepBut.of_grown hg g) (Kd.R_base2 HO290.out))
     have HO293 := am (ho)
     clear HO290
     clear ho hb hg hat
     refine hK.out _ _ ⟨(blk_cell BK219.out 0).trans rfl, (blk_cell BK219.out 1).trans rfl, (blk_cell BK219.out 2).trans rfl, (blk_cell BK219.out 3).trans rfl, (blk_cell BK219.out 4).trans rfl⟩ (fun hHeld => ?_)
     clear hK K
     refine norm_ (a' := ?_) ?_ ?_
     rotate_left
     ·show Act.put _ (some 42) _ = _
      simp only [Act.put, List.setIfInBounds_toArray, List.set_cons_zero, List.set_cons_succ, i64_w, i32_w]
      rfl
     exact norm_ Q10 (hCont (v289, v292, v295) _ ⟨hHeld, Q16, Q38, Q31, Q64, Q60, Q70⟩)
   ·skip
    refine Kd.R_lit_step k90 _ 90 ?hg (N := 44) ?hd (xs := ([(⟨e0, e1, (⟨e2, e3⟩ : S36), e4⟩ : S90)] : List (S90))) (inner := [.int .i64 e0, .int .i64 e1, .int .i64 e2, .int .i64 e3, .int .i64 e4]) (ok := fun _ => True) (okp := fun _ => True) ?hr ?hp (fun _ hk => hk) trivial (Below.refl _ _) (Nat.le_refl _) (by simp) ?_; (case hd => rfl); (case hg => rfl); (case hr => first | (go_simp; done) | (go_simp; rfl)); (case hp => exact (Reps.c5 (show Kd.M k90 _ _ _ (⟨e0, e1, (⟨e2, e3⟩ : S36), e4⟩ : S90) [.int .i64 e0, .int .i64 e1, .int .i64 e2, .int .i64 e3, .int .i64 e4] from (k90_mkM _ _ _ (⟨e0, e1, (⟨e2, e3⟩ : S36), e4⟩ : S90) )) (Reps.none _ _)))
    intro v295 w112 ho113 hb hg_ hnew_
    clear hg_ hnew_
    (first | rw [← Nyc.out] at ho113 | (simp only [Int.reduceToNat] at ho113; rw [← Nyc.out] at ho113))
    have HO296 := am (Kd.R_lower (Kd.R_newB ho113 (g := gb219) (o := .cells #[.int .i64 e0, .int .i64 e1, .int .i64 e2, .int .i64 e3, .int .i64 e4] 90 (0, 0)) Q31) (keep_size (w := w) (g := g) (row := none) Q60))
    replace BK219 := am (blk_below (g := gb219) (o := .cells #[.int .i64 e0, .int .i64 e1, .int .i64 e2, .int .i64 e3, .int .i64 e4] 90 (0, 0)) Q31 hb)
    replace HK := am (KeepBut.trans Q60 (KeepBut.of_below hb g none) (.inl rfl))
    replace HB := am (below_step Q70 hb)
    replace HI0 := am (IsS112.below Q64 hb)
    clear hb ho113
    refine hK.out _ _ ⟨(blk_cell BK219.out 0).trans rfl, (blk_cell BK219.out 1).trans rfl, (blk_cell BK219.out 2).trans rfl, (blk_cell BK219.out 3).trans rfl, (blk_cell BK219.out 4).trans rfl⟩ (fun hHeld => ?_)
    clear hK K
    refine norm_ (a' := ?_) ?_ ?_
    rotate_left
    ·show Act.put _ (some 44) _ = _
     simp only [Act.put, List.setIfInBounds_toArray, List.set_cons_zero, List.set_cons_succ, i64_w, i32_w]
     rfl
    refine one_ (i := 0) (N := some 40) c44 rfl rfl Q1 Q0 (fun K hK => ?_)
    refine Kd.R_lit_step k90 _ 90 ?hg (N := 40) ?hd (xs := ([] : List (S90))) (inner := []) (ok := fun _ => True) (okp := fun _ => True) ?hr ?hp (fun _ hk => hk) trivial (Below.refl _ _) (Nat.le_refl _) (by simp) ?_; (case hd => rfl); (case hg => rfl); (case hr => first | (go_simp; done) | (go_simp; rfl)); (case hp => exact (Reps.none _ _))
    intro v289 w114 ho115 hb hg_ hnew_
    clear hg_ hnew_
    (first | rw [← Nya.out] at ho115 | (simp only [Int.reduceToNat] at ho115; rw [← Nya.out] at ho115))
    have HO290 := am (Kd.R_lower (Kd.R_newB (Kd.R_new' ho115 (Kd.R_lt Q17)) (g := gb219) (o := .cells #[.int .i64 e0, .int .i64 e1, .int .i64 e2, .int .i64 e3, .int .i64 e4] 90 (0, 0)) Q31) (keep_size (w := w) (g := g) (row := none) Q60))
    replace HO296 := am (Kd.R_elder' Q17 (Kd.R_base ho115) hb)
    replace BK219 := am (blk_below (g := gb219) (o := .cells #[.int .i64 e0, .int .i64 e1, .int .i64 e2, .int .i64 e3, .int .i64 e4] 90 (0, 0)) Q31 hb)
    replace HK := am (KeepBut.trans Q60 (KeepBut.of_below hb g none) (.inl rfl))
    replace HB := am (below_step Q70 hb)
    replace HI0 := am (IsS112.below Q64 hb)
    clear hb ho115
    refine hK.out _ _ ⟨(blk_cell BK219.out 0).trans rfl, (blk_cell BK219.out 1).trans rfl, (blk_cell BK219.out 2).trans rfl, (blk_cell BK219.out 3).trans rfl, (blk_cell BK219.out 4).trans rfl⟩ (fun hHeld => ?_)
    clear hK K
    refine norm_ (a' := ?_) ?_ ?_
    rotate_left
    ·show Act.put _ (some 40) _ = _
     simp only [Act.put, List.setIfInBounds_toArray, List.set_cons_zero, List.set_cons_succ, i64_w, i32_w]
     rfl
    refine one_ (i := 2) (N := some 42) b7_5 rfl rfl Q1 Q0 (fun K hK => ?_)
    refine Kd.R_append_rows_step k90 w.heap.size (by rfl) (.tmp 40) (.tmp 41) 59 90 (.agg #[(.int .i64 0), (.int .i64 0), (.int .i64 0), (.int .i64 0), (.int .i64 0)]) 40 rfl Try.underlying59 info90 rfl Q0 (by omega) v289 ya l1 _ _ _ (fun k_ => some k_ ≠ (v295 : Value).ownBlock ∧ k_ ≠ gb219) (fun _ => False) rfl rfl ?aO ?aR (fun _ _ h => h) (fun _ h => h.elim) ?aF (Below.refl _ _) ?aS ?aL ?_
    (case aR => exact Kd.C_foot_now HR1.out Q60)
    (case aF => exact (fun k_ hk => ⟨Kd.fresh' (Kd.R_lt Q17) k_ hk, Kd.freshB (g := gb219) (o := .cells #[.int .i64 e0, .int .i64 e1, .int .i64 e2, .int .i64 e3, .int .i64 e4] 90 (0, 0)) Q31 k_ hk⟩))
    (case aO => exact (by (with_reducible repeat (first | apply Kd.R_alloc | apply Kd.R_drewN | apply Kd.R_drew)); exact Kd.R_mono HO290.out (fun _ hk => ⟨hk.1.2, hk.2⟩)))
    (case aS => exact (keep_size (w := w) (g := g) (row := none) Q60))
    (case aL => have := LMca.out; omega)
    intro v292 w116 ho hb hg hat
    rw [← Nyb.out] at ho
    replace BK219 := am (blk_grown (g := gb219) (o := .cells #[.int .i64 e0, .int .i64 e1, .int .i64 e2, .int .i64 e3, .int .i64 e4] 90 (0, 0)) Q31 hg (Kd.R_away HO290.out (fun _ hk => hk.2)))
    replace HO296 := am (Kd.R_after (ok := (fun k_ => k_ ≠ gb219)) (by (with_reducible repeat (first | apply Kd.R_alloc | apply Kd.R_drewN | apply Kd.R_drew)); exact Kd.R_mono HO296.out (fun _ hk => ⟨hk.1.2, hk.2⟩)) hg hat)
    replace HB := am (below_weaken Q70 HL.out hb)
    replace HI0 := am (IsS112.grown (show IsS112 w0 _ g s0_0 tp from by repeat (first | (with_reducible first | exact HI0.out | apply IsS112.alloc | apply IsS112.drewN | apply IsS112.drew | apply IsS112.set_1 | refine IsS112.far ?_ NB0_219.out _) | exact HI0.out)) hg (IsS112.own_ne HI0.out HO290.out Q0))
    replace HK := am (KeepBut.trans Q60 (KeepBut.of_grown hg g) (Kd.R_base2 HO290.out))
    have HO293 := am (ho)
    clear HO290
    clear ho hb hg hat
    refine hK.out _ _ ⟨(blk_cell BK219.out 0).trans rfl, (blk_cell BK219.out 1).trans rfl, (blk_cell BK219.out 2).trans rfl, (blk_cell BK219.out 3).trans rfl, (blk_cell BK219.out 4).trans rfl⟩ (fun hHeld => ?_)
    clear hK K
    refine norm_ (a' := ?_) ?_ ?_
    rotate_left
    ·show Act.put _ (some 42) _ = _
     simp only [Act.put, List.setIfInBounds_toArray, List.set_cons_zero, List.set_cons_succ, i64_w, i32_w]
     rfl
    exact norm_ Q10 (hCont (v289, v292, v295) _ ⟨hHeld, Q16, Q38, Q31, Q64, Q60, Q70⟩)
  rintro ⟨v289, v292, v295⟩ w117 ⟨hS_, h0_, h1_, h2_, h3_, h4_, h5_⟩
  have n0_ : Aside0 (Kd.R k90 90 w117 w.heap.size (fun k_ => some k_ ≠ (v295 : Value).ownBlock ∧ k_ ≠ gb219) v292 yb) := ⟨h0_⟩
  have n1_ : Aside0 (Kd.R k90 90 w117 w.heap.size (fun k_ => some k_ ≠ (v292 : Value).ownBlock ∧ k_ ≠ gb219) v295 yc) := ⟨h1_⟩
  have n2_ : Aside0 (w117.heap[gb219]? = some (.cells #[.int .i64 e0, .int .i64 e1, .int .i64 e2, .int .i64 e3, .int .i64 e4] 90 (0, 0))) := ⟨h2_⟩
  have n3_ : Aside0 (IsS112 w0 w117 g s0_0 tp) := ⟨h3_⟩
  have n4_ : Aside0 (KeepBut w w117 g none) := ⟨h4_⟩
  have n5_ : Aside0 (Below w0.heap.size w0 w117) := ⟨h5_⟩
  clear BK219
  clear HI0
  clear HK
  clear HB
  clear h0_ h1_ h2_ h3_ h4_ h5_
  have HO293 := n0_
  have HO296 := n1_
  have BK219 := n2_
  have HI0 := n3_
  have HK := n4_
  have HB := n5_
  clear n0_ n1_ n2_ n3_ n4_ n5_
  have hHeld : w117.cell? ⟨gb219, 0, none⟩ = some (.int .i64 e0) ∧ w117.cell? ⟨gb219, 1, none⟩ = some (.int .i64 e1) ∧ w117.cell? ⟨gb219, 2, none⟩ = some (.int .i64 e2) ∧ w117.cell? ⟨gb219, 3, none⟩ = some (.int .i64 e3) ∧ w117.cell? ⟨gb219, 4, none⟩ = some (.int .i64 e4) := hS_
  obtain ⟨Ao119, co119, eo119⟩ := Kd.R_slice HO296.out
  (first | subst eo119 | (injection eo119 with f1_ f2_ f3_; have f4_ := f1_.symm; have f5_ := f3_.symm; clear f1_ f2_ f3_; subst f4_; subst f5_))
  refine norm_ (a' := ?_) ?_ ?_
  rotate_left
  ·simp only [putAll, Act.put, List.setIfInBounds_toArray, List.set_cons_zero, List.set_cons_succ]
   rfl
  refine one_ (i := 5) (N := some 45) b7_6 rfl rfl Q1 Q0 (fun K hK => ?_)
  refine Kd.R_append_rows_step k90 w.heap.size (by rfl) (.tmp 42) (.tmp 44) 59 90 (.agg #[(.int .i64 0), (.int .i64 0), (.int .i64 0), (.int .i64 0), (.int .i64 0)]) 40 rfl Try.underlying59 info90 rfl Q0 (by omega) v292 yb yc _ _ _ (fun k_ => some k_ ≠ (.slice Ao119 yc.length co119 : Value).ownBlock ∧ k_ ≠ gb219) (fun _ => False) rfl rfl ?aO ?aR (fun _ _ h => h) (fun _ h => h.elim) ?aF (Below.refl _ _) ?aS ?aL ?_
  (case aR => exact (by repeat (first | exact (Kd.R_reads' HO296.out).2.2 | (with_reducible refine Kd.C_alloc ?_ _) | (with_reducible refine Kd.C_drewN ?_ _) | (with_reducible refine Kd.C_drew ?_))))
  (case aF => exact (fun k_ hk => ⟨Kd.fresh' (Kd.R_lt Q17) k_ hk, Kd.freshB (g := gb219) (o := .cells #[.int .i64 e0, .int .i64 e1, .int .i64 e2, .int .i64 e3, .int .i64 e4] 90 (0, 0)) Q31 k_ hk⟩))
  (case aO => exact Q16)
  (case aS => exact (keep_size (w := w) (g := g) (row := none) Q60))
  (case aL => have := LMcb.out; omega)
  intro v298 w118 ho hb hg hat
  rw [← Nyd.out] at ho
  replace BK219 := am (blk_grown (g := gb219) (o := .cells #[.int .i64 e0, .int .i64 e1, .int .i64 e2, .int .i64 e3, .int .i64 e4] 90 (0, 0)) Q31 hg (Kd.R_away HO293.out (fun _ hk => hk.2)))
  replace HO296 := am (Kd.R_after (ok := (fun k_ => k_ ≠ gb219)) Q38 hg hat)
  replace HB := am (below_weaken Q70 HL.out hb)
  replace HI0 := am (IsS112.grown (show IsS112 w0 _ g s0_0 tp from by repeat (first | (with_reducible first | exact HI0.out | apply IsS112.alloc | apply IsS112.drewN | apply IsS112.drew | apply IsS112.set_1 | refine IsS112.far ?_ NB0_219.out _) | exact HI0.out)) hg (IsS112.own_ne HI0.out HO293.out Q0))
  replace HK := am (KeepBut.trans Q60 (KeepBut.of_grown hg g) (Kd.R_base2 HO293.out))
  have HO299 := am (ho)
  clear HO293
  clear ho hb hg hat
  refine hK.out _ _ ⟨(blk_cell BK219.out 0).trans rfl, (blk_cell BK219.out 1).trans rfl, (blk_cell BK219.out 2).trans rfl, (blk_cell BK219.out 3).trans rfl, (blk_cell BK219.out 4).trans rfl⟩ (fun hHeld => ?_)
  clear hK K
  refine norm_ (a' := ?_) ?_ ?_
  rotate_left
  ·show Act.put _ (some 45) _ = _
   simp only [Act.put, List.setIfInBounds_toArray, List.set_cons_zero, List.set_cons_succ, i64_w, i32_w]
   rfl
  refine pU_ 6 4 b7_7 ?_
  refine done_ Q1 ?_
  try go_wp2
  go_ret
  exact ⟨_, Q9, by (with_reducible repeat (first | apply Kd.R_alloc | apply Kd.R_drewN | apply Kd.R_drew)); exact Kd.R_mono HO299.out (fun _ hk => trivial), Q64, Q70, Q60⟩
def spec_l71Any.f (k : Nat) (s0_0 : List Int) (s0_1 : Int) : Option ((List (S90)) × Int) := (spec_l71Rows.f k s0_0 s0_1 10).bind fun bt300 => ((spec_l6Rd_pick.f k s0_0 bt300.2 14).bind fun bt304 => (if bt304.1 = 0 then ((spec_l71Spoil.f k s0_0 bt304.2 bt300.1).bind fun bt306 => (some (bt306.1, bt306.2))) else (some (bt300.1, bt304.2))))
set_option maxHeartbeats 8000000 in
set_option maxRecDepth 100000 in
theorem spec_l71Any.calls (k : Nat) (g : Nat) (s0_0 : List Int) (s0_1 : Int) (r1 : List (S90)) (r2 : Int) (w0 w : World) (hI : IsS112 w0 w g s0_0 s0_1) (hB : Below w0.heap.size w0 w) (h : spec_l71Any.f k s0_0 s0_1 = some (r1, r2)) :
  Calls Try.prog 90 #[.pointer (some ⟨g, 0, none⟩)] w fun e w' => ∃ v0_ : Value, e = .returned (v0_) ∧ Kd.R k90 90 w' w.heap.size (fun _ => True) v0_ r1 ∧ IsS112 w0 w' g s0_0 r2 ∧ Below w0.heap.size w0 w' ∧ KeepBut w w' g none := by
 have HI0 := Aside0.mk hI
 have HK := am (KeepBut.refl w g none)
 have HL := Aside0.mk hB.size
 clear hI
 have HW0 := Aside0.mk hB.size
 have HB := Aside0.mk hB
 clear hB
 have H : ((spec_l71Rows.f k s0_0 s0_1 10).bind fun bt300 => ((spec_l6Rd_pick.f k s0_0 bt300.2 14).bind fun bt304 => (if bt304.1 = 0 then ((spec_l71Spoil.f k s0_0 bt304.2 bt300.1).bind fun bt306 => (some (bt306.1, bt306.2))) else (some (bt300.1, bt304.2))))) = some (r1, r2) := h
 clear h
 replace H := Option.bind_eq_some_iff.mp H
 obtain ⟨⟨t300, t303⟩, A20, H⟩ := H
 replace H : ((spec_l6Rd_pick.f k s0_0 t303 14).bind fun bt304 => (if bt304.1 = 0 then ((spec_l71Spoil.f k s0_0 bt304.2 t300).bind fun bt306 => (some (bt306.1, bt306.2))) else (some (t300, bt304.2)))) = some (r1, r2) := H
 have A2 := Aside0.mk A20
 clear A20
 replace H := Option.bind_eq_some_iff.mp H
 obtain ⟨⟨t304, t305⟩, A30, H⟩ := H
 replace H : (if t304 = 0 then ((spec_l71Spoil.f k s0_0 t305 t300).bind fun bt306 => (some (bt306.1, bt306.2))) else (some (t300, t305))) = some (r1, r2) := H
 have A3 := Aside0.mk A30
 clear A30
 by_cases c4 : t304 = 0
 ·rw [if_pos c4] at H
  have c4b0 : (t304 == 0) = true := beq_iff_eq.mpr c4
  have c4b1 : (t304 != 0) = false := bne_eq_false_iff_eq.mpr c4
  clear c4
  replace H := Option.bind_eq_some_iff.mp H
  obtain ⟨⟨t306, t309⟩, A50, H⟩ := H
  replace H : (some (t306, t309)) = some (r1, r2) := H
  have A5 := Aside0.mk A50
  clear A50
  simp only [Option.some.injEq, Prod.mk.injEq] at H
  obtain ⟨rfl, rfl⟩ := H
  go_enter Try.func90, Try.ntmps90
  go_wp2_with (first | ((with_reducible refine gate_callee (f := 103) rfl ?_); refine goesL_ (some 5) rfl rfl Try.func103 Q1 rfl #[.pointer (some ⟨g, 0, none⟩), .int .i64 10] rfl Q37 ?_; (with_reducible refine (spec_l71Rows.calls k g s0_0 s0_1 10 t300 t303 w0 _ ?side1 ?side2 A2.out).mono ?_); (case side1 => exact Q40); (case side2 => exact Q55); rintro e w6 ⟨v301, rfl, ho0, hi, hb, hk⟩; refine ⟨_, rfl, ?_⟩; have HO302 := am (Kd.R_lower ho0 (keep_size (w := w) (g := g) (row := none) Q39)); replace HK := am (KeepBut.trans Q39 hk (.inl rfl)); replace HB := am (hb); replace HI0 := am (hi); (try clear hb hk hi ho0)) | ((with_reducible refine gate_callee (f := 67) rfl ?_); refine goesL_ (some 7) rfl rfl Try.func67 Q1 rfl #[.pointer (some ⟨g, 0, none⟩), .int .i64 14] rfl Q37 ?_; (with_reducible refine (spec_l6Rd_pick.calls k g s0_0 t303 14 t304 t305 w0 _ ?side1 ?side2 A3.out).mono ?_); (case side1 => exact Q40); (case side2 => exact Q55); rintro e w7 ⟨rfl, hi, hb, hk⟩; refine ⟨_, rfl, ?_⟩; replace HO302 := am (Kd.R_mono (Kd.R_keep (IsS112.apart (show IsS112 w0 _ g s0_0 t303 from by repeat (first | (with_reducible first | exact HI0.out | apply IsS112.alloc | apply IsS112.drewN | apply IsS112.drew | apply IsS112.set_1) | exact HI0.out)) Q18 Q0) hk (fun _ h => h.2)) (fun _ h => h.1)); replace HK := am (KeepBut.trans Q39 hk (.inl rfl)); replace HB := am (hb); replace HI0 := am (hi); (try clear hb hk hi); obtain ⟨Ao8, co8, eo8⟩ := Kd.R_slice HO302.out; subst eo8) | ((with_reducible refine gate_callee (f := 104) rfl ?_); refine goesL_ (some 11) rfl rfl Try.func104 Q1 rfl #[.pointer (some ⟨g, 0, none⟩), .slice Ao8 t300.length co8] rfl Q37 ?_; (with_reducible refine (spec_l71Spoil.calls k g s0_0 t305 _ _ t300 t306 t309 w0 _ ?side1 ?side2 ?side3 ?side4 A5.out).mono ?_); (case side1 => exact Q40); (case side2 => exact Q55); (case side3 => exact Kd.C_foot_own (IsS112.apart (show IsS112 w0 _ g s0_0 t305 from by repeat (first | (with_reducible first | exact HI0.out | apply IsS112.alloc | apply IsS112.drewN | apply IsS112.drew | apply IsS112.set_1) | exact HI0.out)) Q18 Q0) (fun _ h_ => h_.2)); (case side4 => exact (Kd.R_reads' HO302.out).2.1); rintro e w9 ⟨v307, rfl, ho0, hi, hb, hk⟩; refine ⟨_, rfl, ?_⟩; have HO308 := am (Kd.R_lower (Kd.R_new' ho0 (Kd.R_lt Q18)) (keep_size (w := w) (g := g) (row := none) Q39)); replace HO302 := am (Kd.R_mono (Kd.R_told (Kd.R_oldK (IsS112.apart (show IsS112 w0 _ g s0_0 t305 from by repeat (first | (with_reducible first | exact HI0.out | apply IsS112.alloc | apply IsS112.drewN | apply IsS112.drew | apply IsS112.set_1) | exact HI0.out)) Q18 Q0) hk) (Kd.R_base ho0)) (fun _ h_ => h_.1)); replace HK := am (KeepBut.trans Q39 hk (.inl rfl)); replace HB := am (hb); replace HI0 := am (hi); (try clear hb hk hi ho0)))
  go_ret
  exact ⟨_, Q9, by (with_reducible repeat (first | apply Kd.R_alloc | apply Kd.R_drewN | apply Kd.R_drew)); exact Kd.R_mono HO308.out (fun _ hk => trivial), Q40, Q55, Q39⟩
 ·rw [if_neg c4] at H
  have c4b0 : (t304 == 0) = false := beq_eq_false_iff_ne.mpr c4
  have c4b1 : (t304 != 0) = true := bne_iff_ne.mpr c4
  simp only [Option.some.injEq, Prod.mk.injEq] at H
  obtain ⟨rfl, rfl⟩ := H
  go_enter Try.func90, Try.ntmps90
  go_wp2_with (first | ((with_reducible refine gate_callee (f := 103) rfl ?_); refine goesL_ (some 5) rfl rfl Try.func103 Q1 rfl #[.pointer (some ⟨g, 0, none⟩), .int .i64 10] rfl Q37 ?_; (with_reducible refine (spec_l71Rows.calls k g s0_0 s0_1 10 t300 t303 w0 _ ?side1 ?side2 A2.out).mono ?_); (case side1 => exact Q40); (case side2 => exact Q55); rintro e w10 ⟨v301, rfl, ho0, hi, hb, hk⟩; refine ⟨_, rfl, ?_⟩; have HO302 := am (Kd.R_lower ho0 (keep_size (w := w) (g := g) (row := none) Q39)); replace HK := am (KeepBut.trans Q39 hk (.inl rfl)); replace HB := am (hb); replace HI0 := am (hi); (try clear hb hk hi ho0)) | ((with_reducible refine gate_callee (f := 67) rfl ?_); refine goesL_ (some 7) rfl rfl Try.func67 Q1 rfl #[.pointer (some ⟨g, 0, none⟩), .int .i64 14] rfl Q37 ?_; (with_reducible refine (spec_l6Rd_pick.calls k g s0_0 t303 14 t304 t305 w0 _ ?side1 ?side2 A3.out).mono ?_); (case side1 => exact Q40); (case side2 => exact Q55); rintro e w11 ⟨rfl, hi, hb, hk⟩; refine ⟨_, rfl, ?_⟩; replace HO302 := am (Kd.R_mono (Kd.R_keep (IsS112.apart (show IsS112 w0 _ g s0_0 t303 from by repeat (first | (with_reducible first | exact HI0.out | apply IsS112.alloc | apply IsS112.drewN | apply IsS112.drew | apply IsS112.set_1) | exact HI0.out)) Q18 Q0) hk (fun _ h => h.2)) (fun _ h => h.1)); replace HK := am (KeepBut.trans Q39 hk (.inl rfl)); replace HB := am (hb); replace HI0 := am (hi); (try clear hb hk hi)))
  go_ret
  exact ⟨_, Q9, Q18, Q40, Q55, Q39⟩
def spec_DrawBatchTimes.f (k : Nat) (l0 : List Int) : Option ((List (S90))) := (spec_l6Open.f l0).bind fun bt310 => ((spec_l71Any.f k bt310.1 bt310.2).bind fun bt313 => (some bt313.1))
set_option maxHeartbeats 8000000 in
set_option maxRecDepth 100000 in
theorem spec_DrawBatchTimes.calls (k : Nat) (A0 : Option Addr) (c0 : Nat) (l0 : List Int) (r : List (S90)) (w : World) (hr0 : Kd.C (Kd.int .u8) w A0 l0.length l0) (hc0 : l0.length ≤ c0) (h : spec_DrawBatchTimes.f k l0 = some r) :
  Calls Try.prog 55 #[.slice A0 l0.length c0] w fun e w' => ∃ v0_ : Value, e = .returned (v0_) ∧ Kd.R k90 90 w' w.heap.size (fun _ => True) v0_ r ∧ Below w.heap.size w w' := by
 have HR0 := Aside0.mk hr0
 have HC0 := Aside0.mk hc0
 clear hr0 hc0
 have HB := am (Below.refl w.heap.size w)
 have H : ((spec_l6Open.f l0).bind fun bt310 => ((spec_l71Any.f k bt310.1 bt310.2).bind fun bt313 => (some bt313.1))) = some r := h
 clear h
 replace H := Option.bind_eq_some_iff.mp H
 obtain ⟨⟨t310, t311⟩, A20, H⟩ := H
 replace H : ((spec_l71Any.f k t310 t311).bind fun bt313 => (some bt313.1)) = some r := H
 have A2 := Aside0.mk A20
 clear A20
 replace H := Option.bind_eq_some_iff.mp H
 obtain ⟨⟨t313, t316⟩, A30, H⟩ := H
 replace H : (some t313) = some r := H
 have A3 := Aside0.mk A30
 clear A30
 obtain rfl := Option.some.inj H
 go_enter Try.func55, Try.ntmps55
 go_wp2_with (first | ((with_reducible refine gate_callee (f := 66) rfl ?_); refine goesL_ (some 4) rfl rfl Try.func66 Q1 rfl #[.slice A0 l0.length c0] rfl Q37 ?_; (with_reducible refine (spec_l6Open.calls _ _ l0 t310 t311 w _ ?side1 ?side2 ?side3 A2.out).mono ?_); (case side1 => exact Q35); (case side2 => exact HR0.out); (case side3 => exact HC0.out); rintro e w4 ⟨g312, rfl, hi, hb, hb2⟩; refine ⟨_, rfl, ?_⟩; replace HB := am (hb); have HI312 := am (hi); (try clear hb hb2 hi)) | ((with_reducible refine gate_callee (f := 90) rfl ?_); refine goesL_ (some 5) rfl rfl Try.func90 Q1 rfl #[.pointer (some ⟨g312, 0, none⟩)] rfl Q37 ?_; (with_reducible refine (spec_l71Any.calls k g312 t310 t311 t313 t316 w _ ?side1 ?side2 A3.out).mono ?_); (case side1 => exact (by repeat (first | (with_reducible first | exact HI312.out | apply IsS112.alloc | apply IsS112.drewN | apply IsS112.drew | apply IsS112.set_1) | exact HI312.out))); (case side2 => exact Q56); rintro e w5 ⟨v314, rfl, ho0, hi, hb, hk⟩; refine ⟨_, rfl, ?_⟩; have HO315 := am (Kd.R_lower ho0 (below_size Q56)); replace HB := am (hb); replace HI312 := am (hi); (try clear hb hk hi ho0)))
 go_ret
 exact ⟨_, Q9, by (with_reducible repeat (first | apply Kd.R_alloc | apply Kd.R_drewN | apply Kd.R_drew)); exact HO315.out, Q56⟩
def impl_present.l0 : Nat → List (S80) → List (S90) → Int → Int → Int → Int → Option ((List (S80)))
 | 0, _, _, _, _, _, _ => none
 | k + 1, x5, x9, x10, x11, x318000, x318001 => if x11 < x10 then (if 0 ≤ x11 then (if x11 < (x9.length : Int) then ((impl_below.f ((rd_T90 x9 x11).f2.f0) ((rd_T90 x9 x11).f2.f1) x318000 x318001).bind fun t323 => (if t323 = true then (if x5.length < 5864062014805 then (impl_present.l0 k (x5 ++ [(⟨(rd_T90 x9 x11).f0, (rd_T90 x9 x11).f1, (rd_T90 x9 x11).f3⟩ : S80)]) x9 x10 (wrap64 (x11 + 1)) x318000 x318001) else (none)) else (impl_present.l0 k x5 x9 x10 (wrap64 (x11 + 1)) x318000 x318001))) else (none)) else (none)) else ((impl_gathered.f x5).bind fun t327 => (some t327))
def impl_present.f (k : Nat) (l0 : List (S90)) (a1_0 : Int) (a1_1 : Int) : Option ((List (S80))) := impl_present.l0 k (([] : List (S80))) l0 (l0.length : Int) 0 a1_0 a1_1
end Go.Proofs.Ytpggfdjnebccnaa.PFnBatchTimes
