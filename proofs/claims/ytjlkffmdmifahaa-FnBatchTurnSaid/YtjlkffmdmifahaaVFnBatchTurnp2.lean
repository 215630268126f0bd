/- Functions that the law comes to: each as a plain Lean function, with the contract of the Go function. -/
import Derived.Test.YtjlkffmdmifahaaVFnBatchTurnw
import Derived.Test.YtjlkffmdmifahaaVFnBatchTurnp0
import Derived.Test.YtjlkffmdmifahaaVFnBatchTurnp1
namespace Go.Proofs.Ytjlkffmdmifahaa.PFnBatchTurn
open Go.RowKit Go.Proofs.YtjlkffmdmifahaaW.PrintWords Go.Proofs.YtjlkffmdmifahaaW.PrintLast Go.Proofs.YtjlkffmdmifahaaW.PrintMore
attribute [local go_sem] max2_int min2_int max_two min_two max_three min_three max_four min_four
set_option linter.unusedVariables false
set_option linter.unusedSimpArgs false
attribute [local go_sem high] eqA38
set_option maxHeartbeats 8000000 in
set_option maxRecDepth 100000 in
theorem spec_l71Row.calls (k : Nat) (g : Nat) (s0_0 : List Int) (s0_1 : Int) (r1 : Int) (r2 : Int) (r3 : Int) (r4 : Int) (r5 : Int) (r6 : Int) (w0 w : World) (hI : IsS87 w0 w g s0_0 s0_1) (hB : Below w0.heap.size w0 w) (h : spec_l71Row.f k s0_0 s0_1 = some (r1, r2, r3, r4, r5, r6)) :
  Calls Try.prog 70 #[.pointer (some ⟨g, 0, none⟩)] w fun e w' => e = .returned (.agg #[.int .i64 r1, .int .i64 r2, .int .i64 r3, .int .i64 r4, .int .i64 r5]) ∧ IsS87 w0 w' g s0_0 r6 ∧ Below w0.heap.size w0 w' ∧ KeepBut w w' g none := by
 have hu38 := Try.underlying38
 have HI0 := Aside0.mk hI
 have HK := Aside0.mk (KeepBut.refl w g none)
 have HL := Aside0.mk hB.size
 clear hI
 have HW0 := Aside0.mk hB.size
 have HB := Aside0.mk hB
 clear hB
 have H : ((spec_l6Rd_pick.f k s0_0 s0_1 4).bind fun bt164 => ((some (([0, 1, 2, 3, 4, 9, 10, 57, 99] : List Int) : List Int)).bind fun y166 => ((spec_l6Rd_pick.f k s0_0 bt164.2 9).bind fun bt169 => (if 0 ≤ bt169.1 then (if bt169.1 < (y166.length : Int) then ((spec_l71Time.f k s0_0 bt169.2).bind fun bt172 => ((some (([1, 1, 1, 2, (-1), (-1), 3, 0] : List Int) : List Int)).bind fun y175 => ((spec_l6Rd_pick.f k s0_0 bt172.2.2 8).bind fun bt178 => (if 0 ≤ bt178.1 then (if bt178.1 < (y175.length : Int) then (some (bt164.1, rd y166 bt169.1, bt172.1, bt172.2.1, rd y175 bt178.1, bt178.2)) else (none)) else (none))))) else (none)) else (none))))) = some (r1, r2, r3, r4, r5, r6) := h
 clear h
 replace H := Option.bind_eq_some_iff.mp H
 obtain ⟨⟨t164, t165⟩, A20, H⟩ := H
 replace H : ((some (([0, 1, 2, 3, 4, 9, 10, 57, 99] : List Int) : List Int)).bind fun y166 => ((spec_l6Rd_pick.f k s0_0 t165 9).bind fun bt169 => (if 0 ≤ bt169.1 then (if bt169.1 < (y166.length : Int) then ((spec_l71Time.f k s0_0 bt169.2).bind fun bt172 => ((some (([1, 1, 1, 2, (-1), (-1), 3, 0] : List Int) : List Int)).bind fun y175 => ((spec_l6Rd_pick.f k s0_0 bt172.2.2 8).bind fun bt178 => (if 0 ≤ bt178.1 then (if bt178.1 < (y175.length : Int) then (some (t164, rd y166 bt169.1, bt172.1, bt172.2.1, rd y175 bt178.1, bt178.2)) else (none)) else (none))))) else (none)) else (none)))) = some (r1, r2, r3, r4, r5, r6) := H
 have A2 := Aside0.mk A20
 clear A20
 obtain ⟨y166, hy_⟩ : ∃ y_ : List Int, y_ = (([0, 1, 2, 3, 4, 9, 10, 57, 99] : List Int)) := ⟨_, rfl⟩
 replace H : ((spec_l6Rd_pick.f k s0_0 t165 9).bind fun bt169 => (if 0 ≤ bt169.1 then (if bt169.1 < (y166.length : Int) then ((spec_l71Time.f k s0_0 bt169.2).bind fun bt172 => ((some (([1, 1, 1, 2, (-1), (-1), 3, 0] : List Int) : List Int)).bind fun y175 => ((spec_l6Rd_pick.f k s0_0 bt172.2.2 8).bind fun bt178 => (if 0 ≤ bt178.1 then (if bt178.1 < (y175.length : Int) then (some (t164, rd y166 bt169.1, bt172.1, bt172.2.1, rd y175 bt178.1, bt178.2)) else (none)) else (none))))) else (none)) else (none))) = some (r1, r2, r3, r4, r5, r6) := Q78
 have Ny166 := Aside0.mk hy_
 clear hy_
 replace H := Option.bind_eq_some_iff.mp H
 obtain ⟨⟨t169, t170⟩, A30, H⟩ := H
 replace H : (if 0 ≤ t169 then (if t169 < (y166.length : Int) then ((spec_l71Time.f k s0_0 t170).bind fun bt172 => ((some (([1, 1, 1, 2, (-1), (-1), 3, 0] : List Int) : List Int)).bind fun y175 => ((spec_l6Rd_pick.f k s0_0 bt172.2.2 8).bind fun bt178 => (if 0 ≤ bt178.1 then (if bt178.1 < (y175.length : Int) then (some (t164, rd y166 t169, bt172.1, bt172.2.1, rd y175 bt178.1, bt178.2)) else (none)) else (none))))) else (none)) else (none)) = some (r1, r2, r3, r4, r5, r6) := H
 have A3 := Aside0.mk A30
 clear A30
 by_cases c4 : 0 ≤ t169
 ·rw [if_pos c4] at H
  have c4b0 : decide (0 ≤ t169) = true := decide_eq_true c4
  clear c4
  by_cases c5 : t169 < (y166.length : Int)
  ·rw [if_pos c5] at H
   have c5b0 : decide (t169 < (y166.length : Int)) = true := decide_eq_true c5
   clear c5
   replace H := Option.bind_eq_some_iff.mp H
   obtain ⟨⟨t172, t173, t174⟩, A60, H⟩ := H
   replace H : ((some (([1, 1, 1, 2, (-1), (-1), 3, 0] : List Int) : List Int)).bind fun y175 => ((spec_l6Rd_pick.f k s0_0 t174 8).bind fun bt178 => (if 0 ≤ bt178.1 then (if bt178.1 < (y175.length : Int) then (some (t164, rd y166 t169, t172, t173, rd y175 bt178.1, bt178.2)) else (none)) else (none)))) = some (r1, r2, r3, r4, r5, r6) := H
   have A6 := Aside0.mk A60
   clear A60
   obtain ⟨y175, hy_⟩ : ∃ y_ : List Int, y_ = (([1, 1, 1, 2, (-1), (-1), 3, 0] : List Int)) := ⟨_, rfl⟩
   replace H : ((spec_l6Rd_pick.f k s0_0 t174 8).bind fun bt178 => (if 0 ≤ bt178.1 then (if bt178.1 < (y175.length : Int) then (some (t164, rd y166 t169, t172, t173, rd y175 bt178.1, bt178.2)) else (none)) else (none))) = some (r1, r2, r3, r4, r5, r6) := Q78
   have Ny175 := Aside0.mk hy_
   clear hy_
   replace H := Option.bind_eq_some_iff.mp H
   obtain ⟨⟨t178, t179⟩, A70, H⟩ := H
   replace H : (if 0 ≤ t178 then (if t178 < (y175.length : Int) then (some (t164, rd y166 t169, t172, t173, rd y175 t178, t179)) else (none)) else (none)) = some (r1, r2, r3, r4, r5, r6) := H
   have A7 := Aside0.mk A70
   clear A70
   by_cases c8 : 0 ≤ t178
   ·rw [if_pos c8] at H
    have c8b0 : decide (0 ≤ t178) = true := decide_eq_true c8
    clear c8
    by_cases c9 : t178 < (y175.length : Int)
    ·rw [if_pos c9] at H
     have c9b0 : decide (t178 < (y175.length : Int)) = true := decide_eq_true c9
     clear c9
     simp only [Option.some.injEq, Prod.mk.injEq] at H
     obtain ⟨rfl, rfl, rfl, rfl, rfl, rfl⟩ := H
     go_enter Try.func70, Try.ntmps70
     try go_wp2_with (first | ((with_reducible refine gate_dst (N := 2) rfl ?_); refine box_event ?hg (N := 2) ?hd (cs := #[.int .i64 0, .int .i64 0, .int .i64 0, .int .i64 0, .int .i64 0]) (t := 38) ?hr ?_; (case hd => rfl); (case hg => rfl); (case hr => first | (go_simp; done) | (go_simp; rfl)); intro gb163 hg w10 hbox hb; have n0_ := Aside0.mk (IsS87.below Q43 hb); have n1_ := Aside0.mk (KeepBut.trans Q42 (KeepBut.of_below hb g none) (.inl rfl)); have n2_ := Aside0.mk (below_step Q56 hb); have n3_ := Aside0.mk (hbox); have n4_ := Aside0.mk ((Q87 : w.heap.size ≤ gb163)); have n5_ := Aside0.mk ((Nat.le_trans HW0.out (Q87 : w.heap.size ≤ gb163) : w0.heap.size ≤ gb163)); have n6_ := Aside0.mk ((by rw [hg]; exact Nat.ne_of_lt (IsS87.lt (show IsS87 w0 _ g s0_0 s0_1 from by repeat (first | (with_reducible first | exact HI0.out | apply IsS87.alloc | apply IsS87.drewN | apply IsS87.drew | apply IsS87.set_1) | exact HI0.out))) : g ≠ gb163)); have n7_ := Aside0.mk ((by rw [hg]; exact Nat.ne_of_gt (IsS87.lt (show IsS87 w0 _ g s0_0 s0_1 from by repeat (first | (with_reducible first | exact HI0.out | apply IsS87.alloc | apply IsS87.drewN | apply IsS87.drew | apply IsS87.set_1) | exact HI0.out))) : gb163 ≠ g)); clear HI0; clear HK; clear HB; have HI0 := n0_; have HK := n1_; have HB := n2_; have BK163 := n3_; have GW163 := n4_; have GE163 := n5_; have NB0_163 := n6_; have NB163_0 := n7_; clear n0_ n1_ n2_ n3_ n4_ n5_ n6_ n7_; clear hb hbox hg))
     have pi171 : (0 ≤ (t169 : Int)) = True := eq_true (of_decide_eq_true Q7)
     have qi171 : (t169 < (y166.length : Int)) = True := eq_true (of_decide_eq_true Q7)
     have pi180 : (0 ≤ (t178 : Int)) = True := eq_true (of_decide_eq_true Q7)
     have qi180 : (t178 < (y175.length : Int)) = True := eq_true (of_decide_eq_true Q7)
     have n0_ := Aside0.mk (blk_drew BK163.out)
     have n1_ := Aside0.mk (IsS87.drew HI0.out)
     have n2_ := Aside0.mk (keep_drew HK.out)
     have n3_ := Aside0.mk (below_drew1 HB.out)
     clear BK163
     clear HI0
     clear HK
     clear HB
     have BK163 := n0_
     have HI0 := n1_
     have HK := n2_
     have HB := n3_
     clear n0_ n1_ n2_ n3_
     refine start_ (n := 16) (S := fun w' => True) (ds := []) b16_0 Q2 rfl rfl trivial (fun hHeld => ?_); refine with_tabW spec_l71Row.tab1 spec_l71Row.bits1 (fun HT_ HW_ => ?_)
     generalize w10.drew = w11 at BK163 HI0 HK HB hHeld ⊢
     refine pU_ 0 3 b16_1 ?_
     refine pU_ 3 6 c20 ?_
     refine pU_ 7 10 c21 ?_
     refine pU_ 10 13 c22 ?_
     refine inv_at [1, 2, 4, 5, 6, 8, 9, 11, 12, 13, 14, 15] (fun a0_ b a w' => ∃ (v167 : Value) (adz_v167 : Addr) (v176 : Value) (adz_v176 : Addr) (m5_ : Value) (m12_ : Value), a = putSel a0_ b [(1, 4, .int .i64 t164), (2, 5, v167), (4, 7, .int .i64 t169), (5, 8, m5_), (6, 9, .int .i64 (rd y166 t169)), (8, 11, .agg #[.int .i64 t172, .int .i64 t173]), (9, 12, v176), (11, 14, .int .i64 t178), (12, 15, m12_), (13, 16, .int .i64 (rd y175 t178)), (14, 17, .agg #[.int .i64 t164, .int .i64 (rd y166 t169), .int .i64 t172, .int .i64 t173, .int .i64 (rd y175 t178)])] ∧ (b 15 = false → w'.heap[gb163]? = some (.cells #[.int .i64 0, .int .i64 0, .int .i64 0, .int .i64 0, .int .i64 0] 38 (0, 0))) ∧ (b 1 = false → IsS87 w0 w' g s0_0 s0_1) ∧ (KeepBut w w' g none) ∧ (Below w0.heap.size w0 w') ∧ (b 1 = true → b 4 = false → IsS87 w0 w' g s0_0 t165) ∧ (b 2 = true → Kd.R (Kd.int .i64) 3 w' w.heap.size (fun _ => True) v167 y166) ∧ (b 2 = true → ∃ c_, (v167 : Value) = .slice (some adz_v167) y166.length c_) ∧ (b 4 = true → b 8 = false → IsS87 w0 w' g s0_0 t170) ∧ (b 8 = true → b 11 = false → IsS87 w0 w' g s0_0 t174) ∧ (b 9 = true → Kd.R (Kd.int .i64) 3 w' w.heap.size (fun _ => True) v176 y175) ∧ (b 9 = true → ∃ c_, (v176 : Value) = .slice (some adz_v176) y175.length c_) ∧ (b 11 = true → IsS87 w0 w' g s0_0 t179) ∧ (b 15 = true → w'.heap[gb163]? = some (.cells #[.int .i64 t164, .int .i64 (rd y166 t169), .int .i64 t172, .int .i64 t173, .int .i64 (rd y175 t178)] 38 (0, 0))) ∧ (b 5 = true → (m5_ : Value) = .pointer (some (adz_v167.add (t169).toNat))) ∧ (b 12 = true → (m12_ : Value) = .pointer (some (adz_v176.add (t178).toNat)))) HT_.out HW_.out Q2 Q2 ?_ ?_ ?_
     ·exact ⟨.bool false, ⟨0, 0, none⟩, .bool false, ⟨0, 0, none⟩, .bool false, .bool false, by simp only [putSel, Bool.false_eq_true, if_false], fun _ => BK163.out, fun _ => HI0.out, HK.out, HB.out, fun h_ => absurd h_ Q1, fun h_ => absurd h_ Q1, fun h_ => absurd h_ Q1, fun h_ => absurd h_ Q1, fun h_ => absurd h_ Q1, fun h_ => absurd h_ Q1, fun h_ => absurd h_ Q1, fun h_ => absurd h_ Q1, fun h_ => absurd h_ Q1, fun h_ => absurd h_ Q1, fun h_ => absurd h_ Q1⟩
     ·skip
      clear BK163 HB HI0 HK
      refine steps_cons ?_ ?_
      ·rintro b a w' ⟨v167, adz_v167, v176, adz_v176, m5_, m12_, ha, Q_BK163, Q_HI0, Q_HK, Q_HB, Q_HI0_e1, Q_HO168, Q_HA_HO168, Q_HI0_e4, Q_HI0_e8, Q_HO177, Q_HA_HO177, Q_HI0_e11, Q_BK163_e15, Q_X5_, Q_X12_⟩ hb_ hon hoff
       refine ⟨_, rfl, fun K hK => ?_⟩
       have e3 : a.tmps[3]? = some (.pointer (some ⟨g, 0, none⟩)) := by rw [ha]; exact (putSel_off rfl).trans rfl
       replace ha := Aside0.mk ha
       have BK163 := Aside0.mk (Q_BK163 (hoff 15 Q2))
       have HI0 := Aside0.mk (Q_HI0 hb_)
       have HK := Aside0.mk Q_HK
       have HB := Aside0.mk Q_HB
       refine goes_ Try.func68 Q2 rfl #[.pointer (some ⟨g, 0, none⟩), .int .i64 4] (by rfl) rfl rfl (by first | (simp only [List.map_toArray, List.map_cons, List.map_nil, Act.eval, Array.getD_eq_getD_getElem?, Option.getD_some, e3]; done) | (simp only [List.map_toArray, List.map_cons, List.map_nil, Act.eval, Array.getD_eq_getD_getElem?, Option.getD_some, e3]; rfl)) ?_
       with_reducible refine (spec_l6Rd_pick.calls k g s0_0 s0_1 4 t164 t165 w0 _ ?side1 ?side2 A2.out).mono ?_
       (case side1 => exact Q65)
       (case side2 => exact Q72)
       rintro e w12 ⟨rfl, hi, hb, hk⟩
       refine ⟨_, rfl, ?_⟩
       have n0_ := Aside0.mk (KeepBut.blk hk (g' := gb163) (o := .cells #[.int .i64 0, .int .i64 0, .int .i64 0, .int .i64 0, .int .i64 0] 38 (0, 0)) Q30 NB163_0.out Q0)
       have n1_ := Aside0.mk (KeepBut.trans Q61 hk (.inl rfl))
       have n2_ := Aside0.mk (hb)
       have n3_ := Aside0.mk (hi)
       have z_HO168 := fun (h0_ : b 2 = true) => (show Kd.R (Kd.int .i64) 3 w12 w.heap.size (fun _ => True) v167 y166 from by first | exact (Kd.R_mono (Kd.R_keep (IsS87.apart (show IsS87 w0 _ g s0_0 s0_1 from by repeat (first | (with_reducible first | exact HI0.out | apply IsS87.alloc | apply IsS87.drewN | apply IsS87.drew | apply IsS87.set_1 | refine IsS87.far ?_ NB0_163.out _) | exact HI0.out)) Q25 Q1) hk (fun _ h => h.2)) (fun _ h => h.1)) | exact Kd.R_mono (Kd.R_mono (Kd.R_keep (IsS87.apart (show IsS87 w0 _ g s0_0 s0_1 from by repeat (first | (with_reducible first | exact HI0.out | apply IsS87.alloc | apply IsS87.drewN | apply IsS87.drew | apply IsS87.set_1 | refine IsS87.far ?_ NB0_163.out _) | exact HI0.out)) Q25 Q1) hk (fun _ h => h.2)) (fun _ h => h.1)) (fun _ h_ => by first | trivial | exact h_ | exact h_.1))
       have z_HO177 := fun (h0_ : b 9 = true) => (show Kd.R (Kd.int .i64) 3 w12 w.heap.size (fun _ => True) v176 y175 from by first | exact (Kd.R_mono (Kd.R_keep (IsS87.apart (show IsS87 w0 _ g s0_0 s0_1 from by repeat (first | (with_reducible first | exact HI0.out | apply IsS87.alloc | apply IsS87.drewN | apply IsS87.drew | apply IsS87.set_1 | refine IsS87.far ?_ NB0_163.out _) | exact HI0.out)) Q26 Q1) hk (fun _ h => h.2)) (fun _ h => h.1)) | exact Kd.R_mono (Kd.R_mono (Kd.R_keep (IsS87.apart (show IsS87 w0 _ g s0_0 s0_1 from by repeat (first | (with_reducible first | exact HI0.out | apply IsS87.alloc | apply IsS87.drewN | apply IsS87.drew | apply IsS87.set_1 | refine IsS87.far ?_ NB0_163.out _) | exact HI0.out)) Q26 Q1) hk (fun _ h => h.2)) (fun _ h => h.1)) (fun _ h_ => by first | trivial | exact h_ | exact h_.1))
       clear BK163
       clear HK
       clear HB
       clear HI0
       have BK163 := n0_
       have HK := n1_
       have HB := n2_
       have HI0 := n3_
       clear n0_ n1_ n2_ n3_
       (try clear hb)
       (try clear hb2)
       (try clear hk)
       (try clear hi)
       refine hK.out _ _ ⟨v167, adz_v167, v176, adz_v176, m5_, m12_, (by rw [ha.out]; exact putSel_upk 0 hb_ rfl rfl rfl), fun _ => Q30, fun h0_ => absurd ((up_self b 1).symm.trans h0_) Q1, Q61, Q72, fun _ _ => Q65, z_HO168, Q_HA_HO168, fun h0_ _ => absurd ((hoff 4 Q2).symm.trans h0_) Q1, fun h0_ _ => absurd ((hoff 8 Q2).symm.trans h0_) Q1, z_HO177, Q_HA_HO177, fun h0_ => absurd ((hoff 11 Q2).symm.trans h0_) Q1, fun h0_ => absurd ((hoff 15 Q2).symm.trans h0_) Q1, fun h0_ => absurd ((hoff 5 Q2).symm.trans h0_) Q1, fun h0_ => absurd ((hoff 12 Q2).symm.trans h0_) Q1⟩
      refine steps_cons ?_ ?_
      ·rintro b a w' ⟨v167, adz_v167, v176, adz_v176, m5_, m12_, ha, Q_BK163, Q_HI0, Q_HK, Q_HB, Q_HI0_e1, Q_HO168, Q_HA_HO168, Q_HI0_e4, Q_HI0_e8, Q_HO177, Q_HA_HO177, Q_HI0_e11, Q_BK163_e15, Q_X5_, Q_X12_⟩ hb_ hon hoff
       refine ⟨_, rfl, fun K hK => ?_⟩
       replace ha := Aside0.mk ha
       have BK163 := Aside0.mk (Q_BK163 (hoff 15 Q2))
       have HK := Aside0.mk Q_HK
       have HB := Aside0.mk Q_HB
       refine Kd.R_lit_step (Kd.int .i64) _ 3 ?hg (N := 5) ?hd (xs := ([0, 1, 2, 3, 4, 9, 10, 57, 99] : List Int)) (inner := [.int .i64 0, .int .i64 1, .int .i64 2, .int .i64 3, .int .i64 4, .int .i64 9, .int .i64 10, .int .i64 57, .int .i64 99]) (ok := fun _ => True) (okp := fun _ => True) ?hr ?hp (fun _ hk => hk) trivial (Below.refl _ _) (Nat.le_refl _) Q0 ?_; (case hd => rfl); (case hg => rfl); (case hr => first | (go_simp; done) | (go_simp; rfl)); (case hp => exact (Reps.one (show Kd.M (Kd.int .i64) _ _ _ 0 [.int .i64 0] from rfl) (Reps.one (show Kd.M (Kd.int .i64) _ _ _ 1 [.int .i64 1] from rfl) (Reps.one (show Kd.M (Kd.int .i64) _ _ _ 2 [.int .i64 2] from rfl) (Reps.one (show Kd.M (Kd.int .i64) _ _ _ 3 [.int .i64 3] from rfl) (Reps.one (show Kd.M (Kd.int .i64) _ _ _ 4 [.int .i64 4] from rfl) (Reps.one (show Kd.M (Kd.int .i64) _ _ _ 9 [.int .i64 9] from rfl) (Reps.one (show Kd.M (Kd.int .i64) _ _ _ 10 [.int .i64 10] from rfl) (Reps.one (show Kd.M (Kd.int .i64) _ _ _ 57 [.int .i64 57] from rfl) (Reps.one (show Kd.M (Kd.int .i64) _ _ _ 99 [.int .i64 99] from rfl) (Reps.none _ _)))))))))))
       intro v167 w12 ho13 hb hg_ hnew_
       clear hg_ hnew_
       (first | rw [← Ny166.out] at ho13 | (simp only [Int.reduceToNat] at ho13; rw [← Ny166.out] at ho13))
       have n0_ := Aside0.mk (Kd.R_lower ho13 (keep_size (w := w) (g := g) (row := none) Q61))
       have n2_ := Aside0.mk (blk_below (g := gb163) (o := .cells #[.int .i64 0, .int .i64 0, .int .i64 0, .int .i64 0, .int .i64 0] 38 (0, 0)) Q30 hb)
       have n3_ := Aside0.mk (KeepBut.trans Q61 (KeepBut.of_below hb g none) (.inl rfl))
       have n4_ := Aside0.mk (below_step Q50 hb)
       have z_HI0 := fun (h0_ : b 1 = false) => (show IsS87 w0 w12 g s0_0 s0_1 from by first | exact (IsS87.below (by repeat (first | (with_reducible first | exact (Q_HI0 h0_) | apply IsS87.alloc | apply IsS87.drewN | apply IsS87.drew | apply IsS87.set_1 | refine IsS87.far ?_ NB0_163.out _) | exact (Q_HI0 h0_))) hb))
       have z_HI0_e1 := fun (h0_ : b 1 = true) (h1_ : b 4 = false) => (show IsS87 w0 w12 g s0_0 t165 from by first | exact (IsS87.below (by repeat (first | (with_reducible first | exact (Q_HI0_e1 h0_ h1_) | apply IsS87.alloc | apply IsS87.drewN | apply IsS87.drew | apply IsS87.set_1 | refine IsS87.far ?_ NB0_163.out _) | exact (Q_HI0_e1 h0_ h1_))) hb))
       have z_HI0_e4 := fun (h0_ : b 4 = true) (h1_ : b 8 = false) => (show IsS87 w0 w12 g s0_0 t170 from by first | exact (IsS87.below (by repeat (first | (with_reducible first | exact (Q_HI0_e4 h0_ h1_) | apply IsS87.alloc | apply IsS87.drewN | apply IsS87.drew | apply IsS87.set_1 | refine IsS87.far ?_ NB0_163.out _) | exact (Q_HI0_e4 h0_ h1_))) hb))
       have z_HI0_e8 := fun (h0_ : b 8 = true) (h1_ : b 11 = false) => (show IsS87 w0 w12 g s0_0 t174 from by first | exact (IsS87.below (by repeat (first | (with_reducible first | exact (Q_HI0_e8 h0_ h1_) | apply IsS87.alloc | apply IsS87.drewN | apply IsS87.drew | apply IsS87.set_1 | refine IsS87.far ?_ NB0_163.out _) | exact (Q_HI0_e8 h0_ h1_))) hb))
       have z_HO177 := fun (h0_ : b 9 = true) => (show Kd.R (Kd.int .i64) 3 w12 w.heap.size (fun _ => True) v176 y175 from by first | exact (Kd.R_elder' Q26 (Kd.R_base ho13) hb) | exact Kd.R_mono (Kd.R_elder' Q26 (Kd.R_base ho13) hb) (fun _ h_ => by first | trivial | exact h_ | exact h_.1))
       have z_HI0_e11 := fun (h0_ : b 11 = true) => (show IsS87 w0 w12 g s0_0 t179 from by first | exact (IsS87.below (by repeat (first | (with_reducible first | exact (Q_HI0_e11 h0_) | apply IsS87.alloc | apply IsS87.drewN | apply IsS87.drew | apply IsS87.set_1 | refine IsS87.far ?_ NB0_163.out _) | exact (Q_HI0_e11 h0_))) hb))
       clear BK163
       clear HK
       clear HB
       have HO168 := n0_
       have BK163 := n2_
       have HK := n3_
       have HB := n4_
       clear n0_ n2_ n3_ n4_
       clear hb ho13
       obtain ⟨Ao14, co14, eo14⟩ := Kd.R_slice HO168.out
       subst eo14
       obtain ⟨ado14, fo14, _⟩ := Kd.at_int (Kd.R_reads' HO168.out).2.2 0 Q1 (by rw [Ny166.out]; simp)
       cases fo14
       refine hK.out _ _ ⟨.slice (some ado14) y166.length co14, ado14, v176, adz_v176, m5_, m12_, (by rw [ha.out]; exact putSel_upk 1 hb_ rfl rfl rfl), fun _ => Q30, z_HI0, Q61, Q50, z_HI0_e1, fun _ => (by (with_reducible repeat (first | apply Kd.R_alloc | apply Kd.R_drewN | apply Kd.R_drew)); exact HO168.out), fun _ => ⟨_, rfl⟩, z_HI0_e4, z_HI0_e8, z_HO177, Q_HA_HO177, z_HI0_e11, fun h0_ => absurd ((hoff 15 Q2).symm.trans h0_) Q1, fun h0_ => absurd ((hoff 5 Q2).symm.trans h0_) Q1, Q_X12_⟩
      refine steps_cons ?_ ?_
      ·rintro b a w' ⟨v167, adz_v167, v176, adz_v176, m5_, m12_, ha, Q_BK163, Q_HI0, Q_HK, Q_HB, Q_HI0_e1, Q_HO168, Q_HA_HO168, Q_HI0_e4, Q_HI0_e8, Q_HO177, Q_HA_HO177, Q_HI0_e11, Q_BK163_e15, Q_X5_, Q_X12_⟩ hb_ hon hoff
       refine ⟨_, rfl, fun K hK => ?_⟩
       have e6 : a.tmps[6]? = some (.pointer (some ⟨g, 0, none⟩)) := by rw [ha]; exact (putSel_off rfl).trans rfl
       replace ha := Aside0.mk ha
       have BK163 := Aside0.mk (Q_BK163 (hoff 15 Q2))
       have HK := Aside0.mk Q_HK
       have HB := Aside0.mk Q_HB
       have HI0 := Aside0.mk (Q_HI0_e1 (hon 1 Q2) hb_)
       refine goes_ Try.func68 Q2 rfl #[.pointer (some ⟨g, 0, none⟩), .int .i64 9] (by rfl) rfl rfl (by first | (simp only [List.map_toArray, List.map_cons, List.map_nil, Act.eval, Array.getD_eq_getD_getElem?, Option.getD_some, e6]; done) | (simp only [List.map_toArray, List.map_cons, List.map_nil, Act.eval, Array.getD_eq_getD_getElem?, Option.getD_some, e6]; rfl)) ?_
       with_reducible refine (spec_l6Rd_pick.calls k g s0_0 t165 9 t169 t170 w0 _ ?side1 ?side2 A3.out).mono ?_
       (case side1 => exact Q65)
       (case side2 => exact Q72)
       rintro e w14 ⟨rfl, hi, hb, hk⟩
       refine ⟨_, rfl, ?_⟩
       have n0_ := Aside0.mk (KeepBut.blk hk (g' := gb163) (o := .cells #[.int .i64 0, .int .i64 0, .int .i64 0, .int .i64 0, .int .i64 0] 38 (0, 0)) Q30 NB163_0.out Q0)
       have n1_ := Aside0.mk (KeepBut.trans Q61 hk (.inl rfl))
       have n2_ := Aside0.mk (hb)
       have n3_ := Aside0.mk (hi)
       have z_HO168 := fun (h0_ : b 2 = true) => (show Kd.R (Kd.int .i64) 3 w14 w.heap.size (fun _ => True) v167 y166 from by first | exact (Kd.R_mono (Kd.R_keep (IsS87.apart (show IsS87 w0 _ g s0_0 t165 from by repeat (first | (with_reducible first | exact HI0.out | apply IsS87.alloc | apply IsS87.drewN | apply IsS87.drew | apply IsS87.set_1 | refine IsS87.far ?_ NB0_163.out _) | exact HI0.out)) Q25 Q1) hk (fun _ h => h.2)) (fun _ h => h.1)) | exact Kd.R_mono (Kd.R_mono (Kd.R_keep (IsS87.apart (show IsS87 w0 _ g s0_0 t165 from by repeat (first | (with_reducible first | exact HI0.out | apply IsS87.alloc | apply IsS87.drewN | apply IsS87.drew | apply IsS87.set_1 | refine IsS87.far ?_ NB0_163.out _) | exact HI0.out)) Q25 Q1) hk (fun _ h => h.2)) (fun _ h => h.1)) (fun _ h_ => by first | trivial | exact h_ | exact h_.1))
       have z_HO177 := fun (h0_ : b 9 = true) => (show Kd.R (Kd.int .i64) 3 w14 w.heap.size (fun _ => True) v176 y175 from by first | exact (Kd.R_mono (Kd.R_keep (IsS87.apart (show IsS87 w0 _ g s0_0 t165 from by repeat (first | (with_reducible first | exact HI0.out | apply IsS87.alloc | apply IsS87.drewN | apply IsS87.drew | apply IsS87.set_1 | refine IsS87.far ?_ NB0_163.out _) | exact HI0.out)) Q26 Q1) hk (fun _ h => h.2)) (fun _ h => h.1)) | exact Kd.R_mono (Kd.R_mono (Kd.R_keep (IsS87.apart (show IsS87 w0 _ g s0_0 t165 from by repeat (first | (with_reducible first | exact HI0.out | apply IsS87.alloc | apply IsS87.drewN | apply IsS87.drew | apply IsS87.set_1 | refine IsS87.far ?_ NB0_163.out _) | exact HI0.out)) Q26 Q1) hk (fun _ h => h.2)) (fun _ h => h.1)) (fun _ h_ => by first | trivial | exact h_ | exact h_.1))
       clear BK163
       clear HK
       clear HB
       clear HI0
       have BK163 := n0_
       have HK := n1_
       have HB := n2_
       have HI0 := n3_
       clear n0_ n1_ n2_ n3_
       (try clear hb)
       (try clear hb2)
       (try clear hk)
       (try clear hi)
       refine hK.out _ _ ⟨v167, adz_v167, v176, adz_v176, m5_, m12_, (by rw [ha.out]; exact putSel_upk 2 hb_ rfl rfl rfl), fun _ => Q30, fun h0_ => absurd ((hon 1 Q2).symm.trans h0_) Q1, Q61, Q72, fun _ h1_ => absurd ((up_self b 4).symm.trans h1_) Q1, z_HO168, Q_HA_HO168, fun _ _ => Q65, fun h0_ _ => absurd ((hoff 8 Q2).symm.trans h0_) Q1, z_HO177, Q_HA_HO177, fun h0_ => absurd ((hoff 11 Q2).symm.trans h0_) Q1, fun h0_ => absurd ((hoff 15 Q2).symm.trans h0_) Q1, fun h0_ => absurd ((hoff 5 Q2).symm.trans h0_) Q1, fun h0_ => absurd ((hoff 12 Q2).symm.trans h0_) Q1⟩
      refine steps_cons ?_ ?_
      ·rintro b a w' ⟨v167, adz_v167, v176, adz_v176, m5_, m12_, ha, Q_BK163, Q_HI0, Q_HK, Q_HB, Q_HI0_e1, Q_HO168, Q_HA_HO168, Q_HI0_e4, Q_HI0_e8, Q_HO177, Q_HA_HO177, Q_HI0_e11, Q_BK163_e15, Q_X5_, Q_X12_⟩ hb_ hon hoff
       refine ⟨_, rfl, fun K hK => ?_⟩
       have e5 : a.tmps[5]? = some (v167) := by rw [ha]; exact putSel_on (e := (2, 5, v167)) 1 rfl rfl (hon 2 Q2) rfl
       have e7 : a.tmps[7]? = some (.int .i64 t169) := by rw [ha]; exact putSel_on (e := (4, 7, .int .i64 t169)) 2 rfl rfl (hon 4 Q2) rfl
       replace ha := Aside0.mk ha
       have BK163 := Aside0.mk (Q_BK163 (hoff 15 Q2))
       have HK := Aside0.mk Q_HK
       have HB := Aside0.mk Q_HB
       have HO168 := Aside0.mk (Q_HO168 (hon 2 Q2))
       have HA_HO168 := Aside0.mk (Q_HA_HO168 (hon 2 Q2))
       obtain ⟨c_, hv_⟩ := HA_HO168.out
       rw [hv_] at e5
       refine value_ (w1 := w') (v := .pointer (some (adz_v167.add (t169).toNat))) (by rfl) rfl ?_ ?_
       ·go_simp
        (try simp only [i64_w])
        try rfl
       refine hK.out _ _ ⟨v167, adz_v167, v176, adz_v176, (.pointer (some (adz_v167.add (t169).toNat))), m12_, (by rw [ha.out]; exact putSel_upk 3 hb_ rfl rfl rfl), Q_BK163, fun h0_ => absurd ((hon 1 Q2).symm.trans h0_) Q1, Q_HK, Q_HB, fun _ h1_ => absurd ((hon 4 Q2).symm.trans h1_) Q1, Q_HO168, Q_HA_HO168, Q_HI0_e4, Q_HI0_e8, Q_HO177, Q_HA_HO177, Q_HI0_e11, fun h0_ => absurd ((hoff 15 Q2).symm.trans h0_) Q1, fun _ => rfl, Q_X12_⟩
      refine steps_cons ?_ ?_
      ·rintro b a w' ⟨v167, adz_v167, v176, adz_v176, m5_, m12_, ha, Q_BK163, Q_HI0, Q_HK, Q_HB, Q_HI0_e1, Q_HO168, Q_HA_HO168, Q_HI0_e4, Q_HI0_e8, Q_HO177, Q_HA_HO177, Q_HI0_e11, Q_BK163_e15, Q_X5_, Q_X12_⟩ hb_ hon hoff
       refine ⟨_, rfl, fun K hK => ?_⟩
       have e8 : a.tmps[8]? = some (m5_) := by rw [ha]; exact putSel_on (e := (5, 8, m5_)) 3 rfl rfl (hon 5 Q2) rfl
       rw [Q_X5_ (hon 5 Q2)] at e8
       replace ha := Aside0.mk ha
       have BK163 := Aside0.mk (Q_BK163 (hoff 15 Q2))
       have HK := Aside0.mk Q_HK
       have HB := Aside0.mk Q_HB
       have HO168 := Aside0.mk (Q_HO168 (hon 2 Q2))
       have HA_HO168 := Aside0.mk (Q_HA_HO168 (hon 2 Q2))
       obtain ⟨c_, hv_⟩ := HA_HO168.out
       have hF_ := HO168.out
       rw [hv_] at hF_
       obtain ⟨ad_, ea_, hx_⟩ := Kd.at_int (Kd.R_reads' hF_).2.2 t169 (of_eq_true pi171) (of_eq_true qi171)
       cases ea_
       refine value_ (w1 := w') (v := .int .i64 (rd y166 t169)) (by rfl) rfl ?_ ?_
       ·go_simp
        (try simp only [i64_w])
        try rfl
       refine hK.out _ _ ⟨v167, adz_v167, v176, adz_v176, m5_, m12_, (by rw [ha.out]; exact putSel_upk 4 hb_ rfl rfl rfl), Q_BK163, fun h0_ => absurd ((hon 1 Q2).symm.trans h0_) Q1, Q_HK, Q_HB, fun _ h1_ => absurd ((hon 4 Q2).symm.trans h1_) Q1, Q_HO168, Q_HA_HO168, Q_HI0_e4, Q_HI0_e8, Q_HO177, Q_HA_HO177, Q_HI0_e11, fun h0_ => absurd ((hoff 15 Q2).symm.trans h0_) Q1, Q_X5_, Q_X12_⟩
      refine steps_cons ?_ ?_
      ·rintro b a w' ⟨v167, adz_v167, v176, adz_v176, m5_, m12_, ha, Q_BK163, Q_HI0, Q_HK, Q_HB, Q_HI0_e1, Q_HO168, Q_HA_HO168, Q_HI0_e4, Q_HI0_e8, Q_HO177, Q_HA_HO177, Q_HI0_e11, Q_BK163_e15, Q_X5_, Q_X12_⟩ hb_ hon hoff
       refine ⟨_, rfl, fun K hK => ?_⟩
       have e10 : a.tmps[10]? = some (.pointer (some ⟨g, 0, none⟩)) := by rw [ha]; exact (putSel_off rfl).trans rfl
       replace ha := Aside0.mk ha
       have BK163 := Aside0.mk (Q_BK163 (hoff 15 Q2))
       have HK := Aside0.mk Q_HK
       have HB := Aside0.mk Q_HB
       have HI0 := Aside0.mk (Q_HI0_e4 (hon 4 Q2) hb_)
       refine goes_ Try.func92 Q2 rfl #[.pointer (some ⟨g, 0, none⟩)] (by rfl) rfl rfl (by first | (simp only [List.map_toArray, List.map_cons, List.map_nil, Act.eval, Array.getD_eq_getD_getElem?, Option.getD_some, e10]; done) | (simp only [List.map_toArray, List.map_cons, List.map_nil, Act.eval, Array.getD_eq_getD_getElem?, Option.getD_some, e10]; rfl)) ?_
       with_reducible refine (spec_l71Time.calls k g s0_0 t170 t172 t173 t174 w0 _ ?side1 ?side2 A6.out).mono ?_
       (case side1 => exact Q65)
       (case side2 => exact Q72)
       rintro e w15 ⟨rfl, hi, hb, hk⟩
       refine ⟨_, rfl, ?_⟩
       have n0_ := Aside0.mk (KeepBut.blk hk (g' := gb163) (o := .cells #[.int .i64 0, .int .i64 0, .int .i64 0, .int .i64 0, .int .i64 0] 38 (0, 0)) Q30 NB163_0.out Q0)
       have n1_ := Aside0.mk (KeepBut.trans Q61 hk (.inl rfl))
       have n2_ := Aside0.mk (hb)
       have n3_ := Aside0.mk (hi)
       have z_HO168 := fun (h0_ : b 2 = true) => (show Kd.R (Kd.int .i64) 3 w15 w.heap.size (fun _ => True) v167 y166 from by first | exact (Kd.R_mono (Kd.R_keep (IsS87.apart (show IsS87 w0 _ g s0_0 t170 from by repeat (first | (with_reducible first | exact HI0.out | apply IsS87.alloc | apply IsS87.drewN | apply IsS87.drew | apply IsS87.set_1 | refine IsS87.far ?_ NB0_163.out _) | exact HI0.out)) Q25 Q1) hk (fun _ h => h.2)) (fun _ h => h.1)) | exact Kd.R_mono (Kd.R_mono (Kd.R_keep (IsS87.apart (show IsS87 w0 _ g s0_0 t170 from by repeat (first | (with_reducible first | exact HI0.out | apply IsS87.alloc | apply IsS87.drewN | apply IsS87.drew | apply IsS87.set_1 | refine IsS87.far ?_ NB0_163.out _) | exact HI0.out)) Q25 Q1) hk (fun _ h => h.2)) (fun _ h => h.1)) (fun _ h_ => by first | trivial | exact h_ | exact h_.1))
       have z_HO177 := fun (h0_ : b 9 = true) => (show Kd.R (Kd.int .i64) 3 w15 w.heap.size (fun _ => True) v176 y175 from by first | exact (Kd.R_mono (Kd.R_keep (IsS87.apart (show IsS87 w0 _ g s0_0 t170 from by repeat (first | (with_reducible first | exact HI0.out | apply IsS87.alloc | apply IsS87.drewN | apply IsS87.drew | apply IsS87.set_1 | refine IsS87.far ?_ NB0_163.out _) | exact HI0.out)) Q26 Q1) hk (fun _ h => h.2)) (fun _ h => h.1)) | exact Kd.R_mono (Kd.R_mono (Kd.R_keep (IsS87.apart (show IsS87 w0 _ g s0_0 t170 from by repeat (first | (with_reducible first | exact HI0.out | apply IsS87.alloc | apply IsS87.drewN | apply IsS87.drew | apply IsS87.set_1 | refine IsS87.far ?_ NB0_163.out _) | exact HI0.out)) Q26 Q1) hk (fun _ h => h.2)) (fun _ h => h.1)) (fun _ h_ => by first | trivial | exact h_ | exact h_.1))
       clear BK163
       clear HK
       clear HB
       clear HI0
       have BK163 := n0_
       have HK := n1_
       have HB := n2_
       have HI0 := n3_
       clear n0_ n1_ n2_ n3_
       (try clear hb)
       (try clear hb2)
       (try clear hk)
       (try clear hi)
       refine hK.out _ _ ⟨v167, adz_v167, v176, adz_v176, m5_, m12_, (by rw [ha.out]; exact putSel_upk 5 hb_ rfl rfl rfl), fun _ => Q30, fun h0_ => absurd ((hon 1 Q2).symm.trans h0_) Q1, Q61, Q72, fun _ h1_ => absurd ((hon 4 Q2).symm.trans h1_) Q1, z_HO168, Q_HA_HO168, fun _ h1_ => absurd ((up_self b 8).symm.trans h1_) Q1, fun _ _ => Q65, z_HO177, Q_HA_HO177, fun h0_ => absurd ((hoff 11 Q2).symm.trans h0_) Q1, fun h0_ => absurd ((hoff 15 Q2).symm.trans h0_) Q1, Q_X5_, fun h0_ => absurd ((hoff 12 Q2).symm.trans h0_) Q1⟩
      refine steps_cons ?_ ?_
      ·rintro b a w' ⟨v167, adz_v167, v176, adz_v176, m5_, m12_, ha, Q_BK163, Q_HI0, Q_HK, Q_HB, Q_HI0_e1, Q_HO168, Q_HA_HO168, Q_HI0_e4, Q_HI0_e8, Q_HO177, Q_HA_HO177, Q_HI0_e11, Q_BK163_e15, Q_X5_, Q_X12_⟩ hb_ hon hoff
       refine ⟨_, rfl, fun K hK => ?_⟩
       replace ha := Aside0.mk ha
       have BK163 := Aside0.mk (Q_BK163 (hoff 15 Q2))
       have HK := Aside0.mk Q_HK
       have HB := Aside0.mk Q_HB
       refine Kd.R_lit_step (Kd.int .i64) _ 3 ?hg (N := 12) ?hd (xs := ([1, 1, 1, 2, (-1), (-1), 3, 0] : List Int)) (inner := [.int .i64 1, .int .i64 1, .int .i64 1, .int .i64 2, .int .i64 (-1), .int .i64 (-1), .int .i64 3, .int .i64 0]) (ok := fun _ => True) (okp := fun _ => True) ?hr ?hp (fun _ hk => hk) trivial (Below.refl _ _) (Nat.le_refl _) Q0 ?_; (case hd => rfl); (case hg => rfl); (case hr => first | (go_simp; done) | (go_simp; rfl)); (case hp => exact (Reps.one (show Kd.M (Kd.int .i64) _ _ _ 1 [.int .i64 1] from rfl) (Reps.one (show Kd.M (Kd.int .i64) _ _ _ 1 [.int .i64 1] from rfl) (Reps.one (show Kd.M (Kd.int .i64) _ _ _ 1 [.int .i64 1] from rfl) (Reps.one (show Kd.M (Kd.int .i64) _ _ _ 2 [.int .i64 2] from rfl) (Reps.one (show Kd.M (Kd.int .i64) _ _ _ (-1) [.int .i64 (-1)] from rfl) (Reps.one (show Kd.M (Kd.int .i64) _ _ _ (-1) [.int .i64 (-1)] from rfl) (Reps.one (show Kd.M (Kd.int .i64) _ _ _ 3 [.int .i64 3] from rfl) (Reps.one (show Kd.M (Kd.int .i64) _ _ _ 0 [.int .i64 0] from rfl) (Reps.none _ _))))))))))
       intro v176 w12 ho13 hb hg_ hnew_
       clear hg_ hnew_
       (first | rw [← Ny175.out] at ho13 | (simp only [Int.reduceToNat] at ho13; rw [← Ny175.out] at ho13))
       have n0_ := Aside0.mk (Kd.R_lower ho13 (keep_size (w := w) (g := g) (row := none) Q61))
       have n2_ := Aside0.mk (blk_below (g := gb163) (o := .cells #[.int .i64 0, .int .i64 0, .int .i64 0, .int .i64 0, .int .i64 0] 38 (0, 0)) Q30 hb)
       have n3_ := Aside0.mk (KeepBut.trans Q61 (KeepBut.of_below hb g none) (.inl rfl))
       have n4_ := Aside0.mk (below_step Q50 hb)
       have z_HI0 := fun (h0_ : b 1 = false) => (show IsS87 w0 w12 g s0_0 s0_1 from by first | exact (IsS87.below (by repeat (first | (with_reducible first | exact (Q_HI0 h0_) | apply IsS87.alloc | apply IsS87.drewN | apply IsS87.drew | apply IsS87.set_1 | refine IsS87.far ?_ NB0_163.out _) | exact (Q_HI0 h0_))) hb))
       have z_HI0_e1 := fun (h0_ : b 1 = true) (h1_ : b 4 = false) => (show IsS87 w0 w12 g s0_0 t165 from by first | exact (IsS87.below (by repeat (first | (with_reducible first | exact (Q_HI0_e1 h0_ h1_) | apply IsS87.alloc | apply IsS87.drewN | apply IsS87.drew | apply IsS87.set_1 | refine IsS87.far ?_ NB0_163.out _) | exact (Q_HI0_e1 h0_ h1_))) hb))
       have z_HO168 := fun (h0_ : b 2 = true) => (show Kd.R (Kd.int .i64) 3 w12 w.heap.size (fun _ => True) v167 y166 from by first | exact (Kd.R_elder' Q25 (Kd.R_base ho13) hb) | exact Kd.R_mono (Kd.R_elder' Q25 (Kd.R_base ho13) hb) (fun _ h_ => by first | trivial | exact h_ | exact h_.1))
       have z_HI0_e4 := fun (h0_ : b 4 = true) (h1_ : b 8 = false) => (show IsS87 w0 w12 g s0_0 t170 from by first | exact (IsS87.below (by repeat (first | (with_reducible first | exact (Q_HI0_e4 h0_ h1_) | apply IsS87.alloc | apply IsS87.drewN | apply IsS87.drew | apply IsS87.set_1 | refine IsS87.far ?_ NB0_163.out _) | exact (Q_HI0_e4 h0_ h1_))) hb))
       have z_HI0_e8 := fun (h0_ : b 8 = true) (h1_ : b 11 = false) => (show IsS87 w0 w12 g s0_0 t174 from by first | exact (IsS87.below (by repeat (first | (with_reducible first | exact (Q_HI0_e8 h0_ h1_) | apply IsS87.alloc | apply IsS87.drewN | apply IsS87.drew | apply IsS87.set_1 | refine IsS87.far ?_ NB0_163.out _) | exact (Q_HI0_e8 h0_ h1_))) hb))
       have z_HI0_e11 := fun (h0_ : b 11 = true) => (show IsS87 w0 w12 g s0_0 t179 from by first | exact (IsS87.below (by repeat (first | (with_reducible first | exact (Q_HI0_e11 h0_) | apply IsS87.alloc | apply IsS87.drewN | apply IsS87.drew | apply IsS87.set_1 | refine IsS87.far ?_ NB0_163.out _) | exact (Q_HI0_e11 h0_))) hb))
       clear BK163
       clear HK
       clear HB
       have HO177 := n0_
       have BK163 := n2_
       have HK := n3_
       have HB := n4_
       clear n0_ n2_ n3_ n4_
       clear hb ho13
       obtain ⟨Ao14, co14, eo14⟩ := Kd.R_slice HO177.out
       subst eo14
       obtain ⟨ado14, fo14, _⟩ := Kd.at_int (Kd.R_reads' HO177.out).2.2 0 Q1 (by rw [Ny175.out]; simp)
       cases fo14
       refine hK.out _ _ ⟨v167, adz_v167, .slice (some ado14) y175.length co14, ado14, m5_, m12_, (by rw [ha.out]; exact putSel_upk 6 hb_ rfl rfl rfl), fun _ => Q30, z_HI0, Q61, Q50, z_HI0_e1, z_HO168, Q_HA_HO168, z_HI0_e4, z_HI0_e8, fun _ => (by (with_reducible repeat (first | apply Kd.R_alloc | apply Kd.R_drewN | apply Kd.R_drew)); exact HO177.out), fun _ => ⟨_, rfl⟩, z_HI0_e11, fun h0_ => absurd ((hoff 15 Q2).symm.trans h0_) Q1, Q_X5_, fun h0_ => absurd ((hoff 12 Q2).symm.trans h0_) Q1⟩
      refine steps_cons ?_ ?_
      ·rintro b a w' ⟨v167, adz_v167, v176, adz_v176, m5_, m12_, ha, Q_BK163, Q_HI0, Q_HK, Q_HB, Q_HI0_e1, Q_HO168, Q_HA_HO168, Q_HI0_e4, Q_HI0_e8, Q_HO177, Q_HA_HO177, Q_HI0_e11, Q_BK163_e15, Q_X5_, Q_X12_⟩ hb_ hon hoff
       refine ⟨_, rfl, fun K hK => ?_⟩
       have e13 : a.tmps[13]? = some (.pointer (some ⟨g, 0, none⟩)) := by rw [ha]; exact (putSel_off rfl).trans rfl
       replace ha := Aside0.mk ha
       have BK163 := Aside0.mk (Q_BK163 (hoff 15 Q2))
       have HK := Aside0.mk Q_HK
       have HB := Aside0.mk Q_HB
       have HI0 := Aside0.mk (Q_HI0_e8 (hon 8 Q2) hb_)
       refine goes_ Try.func68 Q2 rfl #[.pointer (some ⟨g, 0, none⟩), .int .i64 8] (by rfl) rfl rfl (by first | (simp only [List.map_toArray, List.map_cons, List.map_nil, Act.eval, Array.getD_eq_getD_getElem?, Option.getD_some, e13]; done) | (simp only [List.map_toArray, List.map_cons, List.map_nil, Act.eval, Array.getD_eq_getD_getElem?, Option.getD_some, e13]; rfl)) ?_
       with_reducible refine (spec_l6Rd_pick.calls k g s0_0 t174 8 t178 t179 w0 _ ?side1 ?side2 A7.out).mono ?_
       (case side1 => exact Q65)
       (case side2 => exact Q72)
       rintro e w16 ⟨rfl, hi, hb, hk⟩
       refine ⟨_, rfl, ?_⟩
       have n0_ := Aside0.mk (KeepBut.blk hk (g' := gb163) (o := .cells #[.int .i64 0, .int .i64 0, .int .i64 0, .int .i64 0, .int .i64 0] 38 (0, 0)) Q30 NB163_0.out Q0)
       have n1_ := Aside0.mk (KeepBut.trans Q61 hk (.inl rfl))
       have n2_ := Aside0.mk (hb)
       have n3_ := Aside0.mk (hi)
       have z_HO168 := fun (h0_ : b 2 = true) => (show Kd.R (Kd.int .i64) 3 w16 w.heap.size (fun _ => True) v167 y166 from by first | exact (Kd.R_mono (Kd.R_keep (IsS87.apart (show IsS87 w0 _ g s0_0 t174 from by repeat (first | (with_reducible first | exact HI0.out | apply IsS87.alloc | apply IsS87.drewN | apply IsS87.drew | apply IsS87.set_1 | refine IsS87.far ?_ NB0_163.out _) | exact HI0.out)) Q25 Q1) hk (fun _ h => h.2)) (fun _ h => h.1)) | exact Kd.R_mono (Kd.R_mono (Kd.R_keep (IsS87.apart (show IsS87 w0 _ g s0_0 t174 from by repeat (first | (with_reducible first | exact HI0.out | apply IsS87.alloc | apply IsS87.drewN | apply IsS87.drew | apply IsS87.set_1 | refine IsS87.far ?_ NB0_163.out _) | exact HI0.out)) Q25 Q1) hk (fun _ h => h.2)) (fun _ h => h.1)) (fun _ h_ => by first | trivial | exact h_ | exact h_.1))
       have z_HO177 := fun (h0_ : b 9 = true) => (show Kd.R (Kd.int .i64) 3 w16 w.heap.size (fun _ => True) v176 y175 from by first | exact (Kd.R_mono (Kd.R_keep (IsS87.apart (show IsS87 w0 _ g s0_0 t174 from by repeat (first | (with_reducible first | exact HI0.out | apply IsS87.alloc | apply IsS87.drewN | apply IsS87.drew | apply IsS87.set_1 | refine IsS87.far ?_ NB0_163.out _) | exact HI0.out)) Q26 Q1) hk (fun _ h => h.2)) (fun _ h => h.1)) | exact Kd.R_mono (Kd.R_mono (Kd.R_keep (IsS87.apart (show IsS87 w0 _ g s0_0 t174 from by repeat (first | (with_reducible first | exact HI0.out | apply IsS87.alloc | apply IsS87.drewN | apply IsS87.drew | apply IsS87.set_1 | refine IsS87.far ?_ NB0_163.out _) | exact HI0.out)) Q26 Q1) hk (fun _ h => h.2)) (fun _ h => h.1)) (fun _ h_ => by first | trivial | exact h_ | exact h_.1))
       clear BK163
       clear HK
       clear HB
       clear HI0
       have BK163 := n0_
       have HK := n1_
       have HB := n2_
       have HI0 := n3_
       clear n0_ n1_ n2_ n3_
       (try clear hb)
       (try clear hb2)
       (try clear hk)
       (try clear hi)
       refine hK.out _ _ ⟨v167, adz_v167, v176, adz_v176, m5_, m12_, (by rw [ha.out]; exact putSel_upk 7 hb_ rfl rfl rfl), fun _ => Q30, fun h0_ => absurd ((hon 1 Q2).symm.trans h0_) Q1, Q61, Q72, fun _ h1_ => absurd ((hon 4 Q2).symm.trans h1_) Q1, z_HO168, Q_HA_HO168, fun _ h1_ => absurd ((hon 8 Q2).symm.trans h1_) Q1, fun _ h1_ => absurd ((up_self b 11).symm.trans h1_) Q1, z_HO177, Q_HA_HO177, fun _ => Q65, fun h0_ => absurd ((hoff 15 Q2).symm.trans h0_) Q1, Q_X5_, fun h0_ => absurd ((hoff 12 Q2).symm.trans h0_) Q1⟩
      refine steps_cons ?_ ?_
      ·rintro b a w' ⟨v167, adz_v167, v176, adz_v176, m5_, m12_, ha, Q_BK163, Q_HI0, Q_HK, Q_HB, Q_HI0_e1, Q_HO168, Q_HA_HO168, Q_HI0_e4, Q_HI0_e8, Q_HO177, Q_HA_HO177, Q_HI0_e11, Q_BK163_e15, Q_X5_, Q_X12_⟩ hb_ hon hoff
       refine ⟨_, rfl, fun K hK => ?_⟩
       have e12 : a.tmps[12]? = some (v176) := by rw [ha]; exact putSel_on (e := (9, 12, v176)) 6 rfl rfl (hon 9 Q2) rfl
       have e14 : a.tmps[14]? = some (.int .i64 t178) := by rw [ha]; exact putSel_on (e := (11, 14, .int .i64 t178)) 7 rfl rfl (hon 11 Q2) rfl
       replace ha := Aside0.mk ha
       have BK163 := Aside0.mk (Q_BK163 (hoff 15 Q2))
       have HK := Aside0.mk Q_HK
       have HB := Aside0.mk Q_HB
       have HO177 := Aside0.mk (Q_HO177 (hon 9 Q2))
       have HA_HO177 := Aside0.mk (Q_HA_HO177 (hon 9 Q2))
       have HI0 := Aside0.mk (Q_HI0_e11 (hon 11 Q2))
       obtain ⟨c_, hv_⟩ := HA_HO177.out
       rw [hv_] at e12
       refine value_ (w1 := w') (v := .pointer (some (adz_v176.add (t178).toNat))) (by rfl) rfl ?_ ?_
       ·go_simp
        (try simp only [i64_w])
        try rfl
       refine hK.out _ _ ⟨v167, adz_v167, v176, adz_v176, m5_, (.pointer (some (adz_v176.add (t178).toNat))), (by rw [ha.out]; exact putSel_upk 8 hb_ rfl rfl rfl), Q_BK163, fun h0_ => absurd ((hon 1 Q2).symm.trans h0_) Q1, Q_HK, Q_HB, fun _ h1_ => absurd ((hon 4 Q2).symm.trans h1_) Q1, Q_HO168, Q_HA_HO168, fun _ h1_ => absurd ((hon 8 Q2).symm.trans h1_) Q1, fun _ h1_ => absurd ((hon 11 Q2).symm.trans h1_) Q1, Q_HO177, Q_HA_HO177, Q_HI0_e11, fun h0_ => absurd ((hoff 15 Q2).symm.trans h0_) Q1, Q_X5_, fun _ => rfl⟩
      refine steps_cons ?_ ?_
      ·rintro b a w' ⟨v167, adz_v167, v176, adz_v176, m5_, m12_, ha, Q_BK163, Q_HI0, Q_HK, Q_HB, Q_HI0_e1, Q_HO168, Q_HA_HO168, Q_HI0_e4, Q_HI0_e8, Q_HO177, Q_HA_HO177, Q_HI0_e11, Q_BK163_e15, Q_X5_, Q_X12_⟩ hb_ hon hoff
       refine ⟨_, rfl, fun K hK => ?_⟩
       have e15 : a.tmps[15]? = some (m12_) := by rw [ha]; exact putSel_on (e := (12, 15, m12_)) 8 rfl rfl (hon 12 Q2) rfl
       rw [Q_X12_ (hon 12 Q2)] at e15
       replace ha := Aside0.mk ha
       have BK163 := Aside0.mk (Q_BK163 (hoff 15 Q2))
       have HK := Aside0.mk Q_HK
       have HB := Aside0.mk Q_HB
       have HO177 := Aside0.mk (Q_HO177 (hon 9 Q2))
       have HA_HO177 := Aside0.mk (Q_HA_HO177 (hon 9 Q2))
       have HI0 := Aside0.mk (Q_HI0_e11 (hon 11 Q2))
       obtain ⟨c_, hv_⟩ := HA_HO177.out
       have hF_ := HO177.out
       rw [hv_] at hF_
       obtain ⟨ad_, ea_, hx_⟩ := Kd.at_int (Kd.R_reads' hF_).2.2 t178 (of_eq_true pi180) (of_eq_true qi180)
       cases ea_
       refine value_ (w1 := w') (v := .int .i64 (rd y175 t178)) (by rfl) rfl ?_ ?_
       ·go_simp
        (try simp only [i64_w])
        try rfl
       refine hK.out _ _ ⟨v167, adz_v167, v176, adz_v176, m5_, m12_, (by rw [ha.out]; exact putSel_upk 9 hb_ rfl rfl rfl), Q_BK163, fun h0_ => absurd ((hon 1 Q2).symm.trans h0_) Q1, Q_HK, Q_HB, fun _ h1_ => absurd ((hon 4 Q2).symm.trans h1_) Q1, Q_HO168, Q_HA_HO168, fun _ h1_ => absurd ((hon 8 Q2).symm.trans h1_) Q1, fun _ h1_ => absurd ((hon 11 Q2).symm.trans h1_) Q1, Q_HO177, Q_HA_HO177, Q_HI0_e11, fun h0_ => absurd ((hoff 15 Q2).symm.trans h0_) Q1, Q_X5_, Q_X12_⟩
      refine steps_cons ?_ ?_
      ·rintro b a w' ⟨v167, adz_v167, v176, adz_v176, m5_, m12_, ha, Q_BK163, Q_HI0, Q_HK, Q_HB, Q_HI0_e1, Q_HO168, Q_HA_HO168, Q_HI0_e4, Q_HI0_e8, Q_HO177, Q_HA_HO177, Q_HI0_e11, Q_BK163_e15, Q_X5_, Q_X12_⟩ hb_ hon hoff
       refine ⟨_, rfl, fun K hK => ?_⟩
       have e4 : a.tmps[4]? = some (.int .i64 t164) := by rw [ha]; exact putSel_on (e := (1, 4, .int .i64 t164)) 0 rfl rfl (hon 1 Q2) rfl
       have e9 : a.tmps[9]? = some (.int .i64 (rd y166 t169)) := by rw [ha]; exact putSel_on (e := (6, 9, .int .i64 (rd y166 t169))) 4 rfl rfl (hon 6 Q2) rfl
       have e11 : a.tmps[11]? = some (.agg #[.int .i64 t172, .int .i64 t173]) := by rw [ha]; exact putSel_on (e := (8, 11, .agg #[.int .i64 t172, .int .i64 t173])) 5 rfl rfl (hon 8 Q2) rfl
       have e16 : a.tmps[16]? = some (.int .i64 (rd y175 t178)) := by rw [ha]; exact putSel_on (e := (13, 16, .int .i64 (rd y175 t178))) 9 rfl rfl (hon 13 Q2) rfl
       replace ha := Aside0.mk ha
       have BK163 := Aside0.mk (Q_BK163 (hoff 15 Q2))
       have HK := Aside0.mk Q_HK
       have HB := Aside0.mk Q_HB
       have HO168 := Aside0.mk (Q_HO168 (hon 2 Q2))
       have HA_HO168 := Aside0.mk (Q_HA_HO168 (hon 2 Q2))
       have HO177 := Aside0.mk (Q_HO177 (hon 9 Q2))
       have HA_HO177 := Aside0.mk (Q_HA_HO177 (hon 9 Q2))
       have HI0 := Aside0.mk (Q_HI0_e11 (hon 11 Q2))
       refine value_ (w1 := w') (v := .agg #[.int .i64 t164, .int .i64 (rd y166 t169), .int .i64 t172, .int .i64 t173, .int .i64 (rd y175 t178)]) (by rfl) rfl ?_ ?_
       ·go_simp
        (try simp only [i64_w])
        try rfl
       refine hK.out _ _ ⟨v167, adz_v167, v176, adz_v176, m5_, m12_, (by rw [ha.out]; exact putSel_upk 10 hb_ rfl rfl rfl), Q_BK163, fun h0_ => absurd ((hon 1 Q2).symm.trans h0_) Q1, Q_HK, Q_HB, fun _ h1_ => absurd ((hon 4 Q2).symm.trans h1_) Q1, Q_HO168, Q_HA_HO168, fun _ h1_ => absurd ((hon 8 Q2).symm.trans h1_) Q1, fun _ h1_ => absurd ((hon 11 Q2).symm.trans h1_) Q1, Q_HO177, Q_HA_HO177, Q_HI0_e11, fun h0_ => absurd ((hoff 15 Q2).symm.trans h0_) Q1, Q_X5_, Q_X12_⟩
      refine steps_cons ?_ ?_
      ·rintro b a w' ⟨v167, adz_v167, v176, adz_v176, m5_, m12_, ha, Q_BK163, Q_HI0, Q_HK, Q_HB, Q_HI0_e1, Q_HO168, Q_HA_HO168, Q_HI0_e4, Q_HI0_e8, Q_HO177, Q_HA_HO177, Q_HI0_e11, Q_BK163_e15, Q_X5_, Q_X12_⟩ hb_ hon hoff
       refine ⟨_, rfl, fun K hK => ?_⟩
       have e2 : a.tmps[2]? = some (.pointer (some ⟨gb163, 0, none⟩)) := by rw [ha]; exact (putSel_off rfl).trans rfl
       have e17 : a.tmps[17]? = some (.agg #[.int .i64 t164, .int .i64 (rd y166 t169), .int .i64 t172, .int .i64 t173, .int .i64 (rd y175 t178)]) := by rw [ha]; exact putSel_on (e := (14, 17, .agg #[.int .i64 t164, .int .i64 (rd y166 t169), .int .i64 t172, .int .i64 t173, .int .i64 (rd y175 t178)])) 10 rfl rfl (hon 14 Q2) rfl
       replace ha := Aside0.mk ha
       have BK163 := Aside0.mk (Q_BK163 hb_)
       have HK := Aside0.mk Q_HK
       have HB := Aside0.mk Q_HB
       have HO168 := Aside0.mk (Q_HO168 (hon 2 Q2))
       have HA_HO168 := Aside0.mk (Q_HA_HO168 (hon 2 Q2))
       have HO177 := Aside0.mk (Q_HO177 (hon 9 Q2))
       have HA_HO177 := Aside0.mk (Q_HA_HO177 (hon 9 Q2))
       have HI0 := Aside0.mk (Q_HI0_e11 (hon 11 Q2))
       obtain ⟨co23, eo23⟩ := HA_HO168.out
       clear HA_HO168
       subst eo23
       obtain ⟨co24, eo24⟩ := HA_HO177.out
       clear HA_HO177
       subst eo24
       have hs25 : w'.cell? ⟨gb163, 0, none⟩ = some (.int .i64 0) := (blk_cell BK163.out 0).trans rfl
       have hfs25 := blk_frozen BK163.out 0
       have hs26 : w'.cell? ⟨gb163, 1, none⟩ = some (.int .i64 0) := (blk_cell BK163.out 1).trans rfl
       have hfs26 := blk_frozen BK163.out 1
       have hs27 : w'.cell? ⟨gb163, 2, none⟩ = some (.int .i64 0) := (blk_cell BK163.out 2).trans rfl
       have hfs27 := blk_frozen BK163.out 2
       have hs28 : w'.cell? ⟨gb163, 3, none⟩ = some (.int .i64 0) := (blk_cell BK163.out 3).trans rfl
       have hfs28 := blk_frozen BK163.out 3
       have hs29 : w'.cell? ⟨gb163, 4, none⟩ = some (.int .i64 0) := (blk_cell BK163.out 4).trans rfl
       have hfs29 := blk_frozen BK163.out 4
       refine skip_ (w1 := ?_) (by rfl) rfl ?_ ?_
       rotate_left
       ·go_simp
        rfl
       refine hK.out _ _ ⟨.slice (some adz_v167) y166.length co23, adz_v167, .slice (some adz_v176) y175.length co24, adz_v176, m5_, m12_, (by rw [ha.out]; exact putSel_none (v := undef) rfl), fun h0_ => absurd ((up_self b 15).symm.trans h0_) Q1, fun h0_ => absurd ((hon 1 Q2).symm.trans h0_) Q1, Q61, Q72, fun _ h1_ => absurd ((hon 4 Q2).symm.trans h1_) Q1, fun _ => (by (with_reducible repeat (first | apply Kd.R_alloc | apply Kd.R_drewN | apply Kd.R_drew)); exact Kd.R_mono (Kd.R_far (p := ⟨gb163, 4, none⟩) (Kd.R_far (p := ⟨gb163, 3, none⟩) (Kd.R_far (p := ⟨gb163, 2, none⟩) (Kd.R_far (p := ⟨gb163, 1, none⟩) (Kd.R_far (p := ⟨gb163, 0, none⟩) (Kd.R_types HO168.out BK163.out Q1) (fun _ hk => hk.2) (.int .i64 t164)) (fun _ hk => hk.2) (.int .i64 (rd y166 t169))) (fun _ hk => hk.2) (.int .i64 t172)) (fun _ hk => hk.2) (.int .i64 t173)) (fun _ hk => hk.2) (.int .i64 (rd y175 t178))) (fun _ hk => hk.1)), fun _ => ⟨_, rfl⟩, fun _ h1_ => absurd ((hon 8 Q2).symm.trans h1_) Q1, fun _ h1_ => absurd ((hon 11 Q2).symm.trans h1_) Q1, fun _ => (by (with_reducible repeat (first | apply Kd.R_alloc | apply Kd.R_drewN | apply Kd.R_drew)); exact Kd.R_mono (Kd.R_far (p := ⟨gb163, 4, none⟩) (Kd.R_far (p := ⟨gb163, 3, none⟩) (Kd.R_far (p := ⟨gb163, 2, none⟩) (Kd.R_far (p := ⟨gb163, 1, none⟩) (Kd.R_far (p := ⟨gb163, 0, none⟩) (Kd.R_types HO177.out BK163.out Q1) (fun _ hk => hk.2) (.int .i64 t164)) (fun _ hk => hk.2) (.int .i64 (rd y166 t169))) (fun _ hk => hk.2) (.int .i64 t172)) (fun _ hk => hk.2) (.int .i64 t173)) (fun _ hk => hk.2) (.int .i64 (rd y175 t178))) (fun _ hk => hk.1)), fun _ => ⟨_, rfl⟩, fun _ => Q65, fun _ => (by (with_reducible repeat (first | refine blk_drewN ?_ _ | refine blk_drew ?_ | refine blk_alloc ?_ _)); refine blk_put (cs := #[.int .i64 t164, .int .i64 (rd y166 t169), .int .i64 t172, .int .i64 t173, .int .i64 0]) ?_ 4 _ rfl; (with_reducible repeat (first | refine blk_drewN ?_ _ | refine blk_drew ?_ | refine blk_alloc ?_ _)); refine blk_put (cs := #[.int .i64 t164, .int .i64 (rd y166 t169), .int .i64 t172, .int .i64 0, .int .i64 0]) ?_ 3 _ rfl; (with_reducible repeat (first | refine blk_drewN ?_ _ | refine blk_drew ?_ | refine blk_alloc ?_ _)); refine blk_put (cs := #[.int .i64 t164, .int .i64 (rd y166 t169), .int .i64 0, .int .i64 0, .int .i64 0]) ?_ 2 _ rfl; (with_reducible repeat (first | refine blk_drewN ?_ _ | refine blk_drew ?_ | refine blk_alloc ?_ _)); refine blk_put (cs := #[.int .i64 t164, .int .i64 0, .int .i64 0, .int .i64 0, .int .i64 0]) ?_ 1 _ rfl; (with_reducible repeat (first | refine blk_drewN ?_ _ | refine blk_drew ?_ | refine blk_alloc ?_ _)); refine blk_put (cs := #[.int .i64 0, .int .i64 0, .int .i64 0, .int .i64 0, .int .i64 0]) ?_ 0 _ rfl; (with_reducible repeat (first | refine blk_drewN ?_ _ | refine blk_drew ?_ | refine blk_alloc ?_ _)); exact BK163.out), Q_X5_, Q_X12_⟩
      exact steps_nil
     rintro b a w27 hall ⟨v167, adz_v167, v176, adz_v176, m5_, m12_, ha, Q_BK163, Q_HI0, Q_HK, Q_HB, Q_HI0_e1, Q_HO168, Q_HA_HO168, Q_HI0_e4, Q_HI0_e8, Q_HO177, Q_HA_HO177, Q_HI0_e11, Q_BK163_e15, Q_X5_, Q_X12_⟩
     clear BK163 HB HI0 HK
     have hb1_ := hall 1 Q2
     have hb2_ := hall 2 Q2
     have hb4_ := hall 4 Q2
     have hb5_ := hall 5 Q2
     have hb6_ := hall 6 Q2
     have hb8_ := hall 8 Q2
     have hb9_ := hall 9 Q2
     have hb11_ := hall 11 Q2
     have hb12_ := hall 12 Q2
     have hb13_ := hall 13 Q2
     have hb14_ := hall 14 Q2
     have hb15_ := hall 15 Q2
     subst ha
     obtain rfl := Q_X5_ hb5_
     obtain rfl := Q_X12_ hb12_
     simp only [putSel, hb1_, hb2_, hb4_, hb5_, hb6_, hb8_, hb9_, hb11_, hb12_, hb13_, hb14_, hb15_, if_true, Act.put, List.setIfInBounds_toArray, List.set_cons_zero, List.set_cons_succ]
     clear Q_BK163
     clear Q_HI0
     have HK := Aside0.mk Q_HK
     clear Q_HK
     have HB := Aside0.mk Q_HB
     clear Q_HB
     clear Q_HI0_e1
     have HO168 := Aside0.mk (Q_HO168 hb2_)
     clear Q_HO168
     have HA_HO168 := Aside0.mk (Q_HA_HO168 hb2_)
     clear Q_HA_HO168
     clear Q_HI0_e4
     clear Q_HI0_e8
     have HO177 := Aside0.mk (Q_HO177 hb9_)
     clear Q_HO177
     have HA_HO177 := Aside0.mk (Q_HA_HO177 hb9_)
     clear Q_HA_HO177
     have HI0 := Aside0.mk (Q_HI0_e11 hb11_)
     clear Q_HI0_e11
     have BK163 := Aside0.mk (Q_BK163_e15 hb15_)
     clear Q_BK163_e15
     clear hall hb1_ hb2_ hb4_ hb5_ hb6_ hb8_ hb9_ hb11_ hb12_ hb13_ hb14_ hb15_
     obtain ⟨co28, eo28⟩ := HA_HO168.out
     clear HA_HO168
     subst eo28
     obtain ⟨co29, eo29⟩ := HA_HO177.out
     clear HA_HO177
     subst eo29
     try go_wp2
     refine bodyPost_ret (results_cell_row rfl _ _ gb163 38 #[.int .i64 t164, .int .i64 (rd y166 t169), .int .i64 t172, .int .i64 t173, .int .i64 (rd y175 t178)] (0, 0) _ rfl Q30 Try.underlying38 rfl Q2) rfl ?_
     exact ⟨Q10, Q65, Q72, Q61⟩
    ·rw [if_neg c9] at H
     exact absurd H Q0
   ·rw [if_neg c8] at H
    exact absurd H Q0
  ·rw [if_neg c5] at H
   exact absurd H Q0
 ·rw [if_neg c4] at H
  exact absurd H Q0
mutual
def spec_l71Rows.l0 : Nat → List (S38) → Int → List Int → Int → Option ((List (S38)) × Int)
 | 0, _, _, _, _ => none
 | k + 1, x5, x6, x1000, x1001 => if x6 > 0 then ((spec_l71Row.f k x1000 x1001).bind fun bt186 => (if (x5.length : Int) > 0 then ((spec_l6Rd_pick.f k x1000 bt186.2.2.2.2.2 3).bind fun bt193 => (spec_l71Rows.j1 k x5 x6 (bt193.1 == 0) x1000 bt193.2 bt186.1 bt186.2.1 bt186.2.2.1 bt186.2.2.2.1 bt186.2.2.2.2.1)) else (spec_l71Rows.j1 k x5 x6 false x1000 bt186.2.2.2.2.2 bt186.1 bt186.2.1 bt186.2.2.1 bt186.2.2.2.1 bt186.2.2.2.2.1))) else (some (x5, x1001))
def spec_l71Rows.j1 : Nat → List (S38) → Int → Bool → List Int → Int → Int → Int → Int → Int → Int → Option ((List (S38)) × Int)
 | 0, _, _, _, _, _, _, _, _, _, _ => none
 | k + 1, x5, x6, x27, x1000, x1001, x193000, x193001, x193002, x193003, x193004 => if x27 = true then ((spec_l6Rd_pick.f k x1000 x1001 (x5.length : Int)).bind fun bt195 => (if 0 ≤ bt195.1 then (if bt195.1 < (x5.length : Int) then ((spec_l6Rd_pick.f k x1000 bt195.2 2).bind fun bt199 => (if bt199.1 = 0 then (if x5.length < 3518437208883 then (spec_l71Rows.l0 k (x5 ++ [(⟨(rd_T38 x5 bt195.1).f0, (rd_T38 x5 bt195.1).f1, (⟨x193002, x193003⟩ : S36), wrap64 (-((rd_T38 x5 bt195.1).f3))⟩ : S38)]) (wrap64 (x6 - 1)) x1000 bt199.2) else (none)) else (if x5.length < 3518437208883 then (spec_l71Rows.l0 k (x5 ++ [(⟨(rd_T38 x5 bt195.1).f0, (rd_T38 x5 bt195.1).f1, (⟨x193002, x193003⟩ : S36), x193004⟩ : S38)]) (wrap64 (x6 - 1)) x1000 bt199.2) else (none)))) else (none)) else (none))) else (if x5.length < 3518437208883 then (spec_l71Rows.l0 k (x5 ++ [(⟨x193000, x193001, (⟨x193002, x193003⟩ : S36), x193004⟩ : S38)]) (wrap64 (x6 - 1)) x1000 x1001) else (none))
end
def spec_l71Rows.f (k : Nat) (s0_0 : List Int) (s0_1 : Int) (a1 : Int) : Option ((List (S38)) × Int) := (spec_l6Rd_pick.f k s0_0 s0_1 (wrap64 (a1 + 1))).bind fun bt184 => (spec_l71Rows.l0 k (([] : List (S38))) bt184.1 s0_0 bt184.2)
theorem spec_l71Rows.mono_l : ∀ k, (∀ y0 y1 y2 y3, LeO (spec_l71Rows.l0 k y0 y1 y2 y3) (spec_l71Rows.l0 (k + 1) y0 y1 y2 y3)) ∧ (∀ y0 y1 y2 y3 y4 y5 y6 y7 y8 y9, LeO (spec_l71Rows.j1 k y0 y1 y2 y3 y4 y5 y6 y7 y8 y9) (spec_l71Rows.j1 (k + 1) y0 y1 y2 y3 y4 y5 y6 y7 y8 y9))
 | 0 => ⟨fun _ _ _ _ r h => by simp [spec_l71Rows.l0] at h, fun _ _ _ _ _ _ _ _ _ _ r h => by simp [spec_l71Rows.j1] at h⟩
 | k + 1 => by
  obtain ⟨ih0, ih1⟩ := spec_l71Rows.mono_l k
  refine ⟨?_, ?_⟩
  ·intro y0 y1 y2 y3
   unfold spec_l71Rows.l0
   repeat' first
   | (with_reducible exact ih0 _ _ _ _)
   | (with_reducible exact ih1 _ _ _ _ _ _ _ _ _ _)
   | (with_reducible exact spec_l6Rd_pick.mono _ _ _ _)
   | (with_reducible exact spec_l71Row.mono _ _ _)
   | (with_reducible exact LeO.refl _)
   | (with_reducible exact LeO.none _)
   | (with_reducible refine LeO.ite ?_ ?_)
   | (with_reducible refine LeO.bind ?_ (fun _ => ?_))
   | exact ih0 _ _ _ _
   | exact ih1 _ _ _ _ _ _ _ _ _ _
   | exact spec_l6Rd_pick.mono _ _ _ _
   | exact spec_l71Row.mono _ _ _
   | exact LeO.none _
   | refine LeO.ite ?_ ?_
   | refine LeO.bind ?_ (fun _ => ?_)
  ·intro y0 y1 y2 y3 y4 y5 y6 y7 y8 y9
   unfold spec_l71Rows.j1
   repeat' first
   | (with_reducible exact ih0 _ _ _ _)
   | (with_reducible exact ih1 _ _ _ _ _ _ _ _ _ _)
   | (with_reducible exact spec_l6Rd_pick.mono _ _ _ _)
   | (with_reducible exact spec_l71Row.mono _ _ _)
   | (with_reducible exact LeO.refl _)
   | (with_reducible exact LeO.none _)
   | (with_reducible refine LeO.ite ?_ ?_)
   | (with_reducible refine LeO.bind ?_ (fun _ => ?_))
   | exact ih0 _ _ _ _
   | exact ih1 _ _ _ _ _ _ _ _ _ _
   | exact spec_l6Rd_pick.mono _ _ _ _
   | exact spec_l71Row.mono _ _ _
   | exact LeO.none _
   | refine LeO.ite ?_ ?_
   | refine LeO.bind ?_ (fun _ => ?_)
theorem spec_l71Rows.mono : ∀ a0 a1 a2 k, LeO (spec_l71Rows.f k a0 a1 a2) (spec_l71Rows.f (k + 1) a0 a1 a2) := by
 intro a0 a1 a2 k
 obtain ⟨ih0, ih1⟩ := spec_l71Rows.mono_l k
 unfold spec_l71Rows.f
 repeat' first
   | (with_reducible exact ih0 _ _ _ _)
   | (with_reducible exact ih1 _ _ _ _ _ _ _ _ _ _)
   | (with_reducible exact spec_l6Rd_pick.mono _ _ _ _)
   | (with_reducible exact spec_l71Row.mono _ _ _)
   | (with_reducible exact LeO.refl _)
   | (with_reducible exact LeO.none _)
   | (with_reducible refine LeO.ite ?_ ?_)
   | (with_reducible refine LeO.bind ?_ (fun _ => ?_))
   | exact ih0 _ _ _ _
   | exact ih1 _ _ _ _ _ _ _ _ _ _
   | exact spec_l6Rd_pick.mono _ _ _ _
   | exact spec_l71Row.mono _ _ _
   | exact LeO.none _
   | refine LeO.ite ?_ ?_
   | refine LeO.bind ?_ (fun _ => ?_)
set_option maxHeartbeats 8000000 in
set_option maxRecDepth 100000 in
theorem spec_l71Rows.calls (k : Nat) (g : Nat) (s0_0 : List Int) (s0_1 : Int) (a1 : Int) (r1 : List (S38)) (r2 : Int) (w0 w : World) (hI : IsS87 w0 w g s0_0 s0_1) (hB : Below w0.heap.size w0 w) (h : spec_l71Rows.f k s0_0 s0_1 a1 = some (r1, r2)) :
  Calls Try.prog 80 #[.pointer (some ⟨g, 0, none⟩), .int .i64 a1] w fun e w' => ∃ v0_ : Value, e = .returned (v0_) ∧ Kd.R k38 38 w' w.heap.size (fun _ => True) v0_ r1 ∧ IsS87 w0 w' g s0_0 r2 ∧ Below w0.heap.size w0 w' ∧ KeepBut w w' g none := by
 have hu38 := Try.underlying38
 have HI0 := Aside0.mk hI
 have HK := Aside0.mk (KeepBut.refl w g none)
 have HL := Aside0.mk hB.size
 clear hI
 have HW0 := Aside0.mk hB.size
 have HB := Aside0.mk hB
 clear hB
 have H : ((spec_l6Rd_pick.f k s0_0 s0_1 (wrap64 (a1 + 1))).bind fun bt184 => (spec_l71Rows.l0 k (([] : List (S38))) bt184.1 s0_0 bt184.2)) = some (r1, r2) := h
 clear h
 obtain ⟨y181, hy_⟩ : ∃ y_ : List (S38), y_ = (([] : List (S38))) := ⟨_, rfl⟩
 replace H : ((spec_l6Rd_pick.f k s0_0 s0_1 (wrap64 (a1 + 1))).bind fun bt184 => (spec_l71Rows.l0 k y181 bt184.1 s0_0 bt184.2)) = some (r1, r2) := Q78
 have Ny181 := Aside0.mk hy_
 clear hy_
 replace H := Option.bind_eq_some_iff.mp H
 obtain ⟨⟨t184, t185⟩, A30, H⟩ := H
 replace H : (spec_l71Rows.l0 k y181 t184 s0_0 t185) = some (r1, r2) := H
 have A3 := Aside0.mk A30
 clear A30
 have H' := Aside0.mk H
 clear H
 go_enter Try.func80, Try.ntmps80
 go_wp2_with (first | ((with_reducible refine gate_dst (N := 9) rfl ?_); refine Kd.R_lit k38 _ 38 ?hg (N := 9) ?hd (xs := ([] : List (S38))) (inner := []) (ok := fun _ => True) (okp := fun _ => True) ?hr ?hp (fun _ hk => hk) trivial (Below.refl _ _) (Nat.le_refl _) Q0 ?_; (case hd => rfl); (case hg => rfl); (case hr => first | (go_simp; done) | (go_simp; rfl)); (case hp => exact (Reps.none _ _)); intro v182 w4 ho5 hb hg_ hnew_; clear hg_ hnew_; (first | rw [← Ny181.out] at ho5 | (simp only [Int.reduceToNat] at ho5; rw [← Ny181.out] at ho5)); have n0_ := Aside0.mk (Kd.R_lower ho5 (keep_size (w := w) (g := g) (row := none) Q42)); have n1_ := Aside0.mk (IsS87.below Q43 hb); have n2_ := Aside0.mk (KeepBut.trans Q42 (KeepBut.of_below hb g none) (.inl rfl)); have n3_ := Aside0.mk (below_step Q56 hb); clear HI0; clear HK; clear HB; have HO183 := n0_; have HI0 := n1_; have HK := n2_; have HB := n3_; clear n0_ n1_ n2_ n3_; clear hb ho5) | ((with_reducible refine gate_callee (f := 68) rfl ?_); refine goesL_ (some 13) rfl rfl Try.func68 Q2 rfl #[.pointer (some ⟨g, 0, none⟩), .int .i64 (wrap64 (a1 + 1))] rfl Q39 ?_; (with_reducible refine (spec_l6Rd_pick.calls k g s0_0 s0_1 (wrap64 (a1 + 1)) t184 t185 w0 _ ?side1 ?side2 A3.out).mono ?_); (case side1 => exact Q43); (case side2 => exact Q56); rintro e w6 ⟨rfl, hi, hb, hk⟩; refine ⟨_, rfl, ?_⟩; have n0_ := Aside0.mk (Kd.R_mono (Kd.R_keep (IsS87.apart (show IsS87 w0 _ g s0_0 s0_1 from by repeat (first | (with_reducible first | exact HI0.out | apply IsS87.alloc | apply IsS87.drewN | apply IsS87.drew | apply IsS87.set_1) | exact HI0.out)) (by (with_reducible repeat (first | apply Kd.R_alloc | apply Kd.R_drewN | apply Kd.R_drew)); exact HO183.out) Q1) hk (fun _ h => h.2)) (fun _ h => h.1)); have n1_ := Aside0.mk (KeepBut.trans Q42 hk (.inl rfl)); have n2_ := Aside0.mk (hb); have n3_ := Aside0.mk (hi); clear HO183; clear HK; clear HB; clear HI0; have HO183 := n0_; have HK := n1_; have HB := n2_; have HI0 := n3_; clear n0_ n1_ n2_ n3_; (try clear hb); (try clear hb2); (try clear hk); (try clear hi)))
 go_loopg [5, 6] k (fun kq v5 v6 w' => ∃ (x5_1 : List (S38)) (x6_1 : Int) (x1001_1 : Int), v6 = .int .i64 x6_1 ∧ Aside0 (spec_l71Rows.l0 kq x5_1 x6_1 s0_0 x1001_1 = some (r1, r2)) ∧ Aside0 (kq ≤ k) ∧ Aside0 (Kd.R k38 38 w' w.heap.size (fun _ => True) v5 x5_1) ∧ Aside0 (IsS87 w0 w' g s0_0 x1001_1) ∧ Aside0 (KeepBut w w' g none) ∧ Aside0 (Below w0.heap.size w0 w'))
 case atStart => exact ⟨(y181), (t184), (t185), Q6, H', ⟨Nat.le_refl _⟩, ⟨by (with_reducible repeat (first | apply Kd.R_alloc | apply Kd.R_drewN | apply Kd.R_drew)); exact HO183.out⟩, ⟨Q43⟩, ⟨Q42⟩, ⟨Q56⟩⟩
 case round =>
  clear H'
  try clear p2
  try clear c6
  try clear p6
  obtain ⟨x5_1, x6_1, x1001_1, rfl, HA, HK1, HO_5, HI0, HK, HB⟩ := hrel
  cases gk with
  | zero => exact absurd HA.out (by simp [spec_l71Rows.l0])
  | succ k1 =>
   have H := HA.out
   clear HA
   simp only [spec_l71Rows.l0] at H
   by_cases c7 : x6_1 > 0
   ·rw [if_pos c7] at H
    have c7b0 : decide (0 < x6_1) = true := decide_eq_true c7
    clear c7
    replace H := Option.bind_eq_some_iff.mp H
    obtain ⟨⟨t186, t187, t188, t189, t190, t191⟩, A80, H⟩ := H
    replace H : (if (x5_1.length : Int) > 0 then ((spec_l6Rd_pick.f k1 s0_0 t191 3).bind fun bt193 => (spec_l71Rows.j1 k1 x5_1 x6_1 (bt193.1 == 0) s0_0 bt193.2 t186 t187 t188 t189 t190)) else (spec_l71Rows.j1 k1 x5_1 x6_1 false s0_0 t191 t186 t187 t188 t189 t190)) = some (r1, r2) := H
    have A8 := Aside0.mk A80
    clear A80
    have HC9 := Aside0.mk H
    clear H
    go_upto_region 6 with (first | ((with_reducible refine gate_callee (f := 70) rfl ?_); refine goesL_ (some 19) rfl rfl Try.func70 Q2 rfl #[.pointer (some ⟨g, 0, none⟩)] rfl Q39 ?_; (with_reducible refine (spec_l71Row.calls k1 g s0_0 x1001_1 t186 t187 t188 t189 t190 t191 w0 _ ?side1 ?side2 A8.out).mono ?_); (case side1 => exact Q43); (case side2 => exact Q56); rintro e w10 ⟨rfl, hi, hb, hk⟩; refine ⟨_, rfl, ?_⟩; have n0_ := Aside0.mk (Kd.R_mono (Kd.R_keep (IsS87.apart (show IsS87 w0 _ g s0_0 x1001_1 from by repeat (first | (with_reducible first | exact HI0.out | apply IsS87.alloc | apply IsS87.drewN | apply IsS87.drew | apply IsS87.set_1) | exact HI0.out)) Q12 Q1) hk (fun _ h => h.2)) (fun _ h => h.1)); have n1_ := Aside0.mk (KeepBut.trans Q42 hk (.inl rfl)); have n2_ := Aside0.mk (hb); have n3_ := Aside0.mk (hi); clear HO_5; clear HK; clear HB; clear HI0; have HO_5 := n0_; have HK := n1_; have HB := n2_; have HI0 := n3_; clear n0_ n1_ n2_ n3_; (try clear hb); (try clear hb2); (try clear hk); (try clear hi)) | ((with_reducible refine gate_dst (N := 7) rfl ?_); refine box_event ?hg (N := 7) ?hd (cs := #[.int .i64 0, .int .i64 0, .int .i64 0, .int .i64 0, .int .i64 0]) (t := 38) ?hr ?_; (case hd => rfl); (case hg => rfl); (case hr => first | (go_simp; done) | (go_simp; rfl)); intro gb192 hg w11 hbox hb; have n0_ := Aside0.mk (Kd.R_below (Kd.R_elderB Q12 gb192 (Nat.le_of_eq hg.symm)) hb); have n1_ := Aside0.mk (IsS87.below Q43 hb); have n2_ := Aside0.mk (KeepBut.trans Q42 (KeepBut.of_below hb g none) (.inl rfl)); have n3_ := Aside0.mk (below_step Q56 hb); have n4_ := Aside0.mk (hbox); have n5_ := Aside0.mk ((Q87 : w.heap.size ≤ gb192)); have n6_ := Aside0.mk ((Nat.le_trans HW0.out (Q87 : w.heap.size ≤ gb192) : w0.heap.size ≤ gb192)); have n7_ := Aside0.mk ((by rw [hg]; exact Nat.ne_of_lt (IsS87.lt (show IsS87 w0 _ g s0_0 t191 from by repeat (first | (with_reducible first | exact HI0.out | apply IsS87.alloc | apply IsS87.drewN | apply IsS87.drew | apply IsS87.set_1) | exact HI0.out))) : g ≠ gb192)); have n8_ := Aside0.mk ((by rw [hg]; exact Nat.ne_of_gt (IsS87.lt (show IsS87 w0 _ g s0_0 t191 from by repeat (first | (with_reducible first | exact HI0.out | apply IsS87.alloc | apply IsS87.drewN | apply IsS87.drew | apply IsS87.set_1) | exact HI0.out))) : gb192 ≠ g)); clear HO_5; clear HI0; clear HK; clear HB; have HO_5 := n0_; have HI0 := n1_; have HK := n2_; have HB := n3_; have BK192 := n4_; have GW192 := n5_; have GE192 := n6_; have NB0_192 := n7_; have NB192_0 := n8_; clear n0_ n1_ n2_ n3_ n4_ n5_ n6_ n7_ n8_; clear hb hbox hg; have hnb12 := NB192_0.out; have hnc12 := NB0_192.out; obtain ⟨hcz13_0, hcz13_1, hcz13_2, hcz13_3, hcz13_4, hfz13_0, hfz13_1, hfz13_2, hfz13_3, hfz13_4⟩ := bx5_ BK192))
    (try simp only [Act.put, List.setIfInBounds_toArray, List.set_cons_zero, List.set_cons_succ])
    go_cut [27] (fun v27 wc => ∃ (kq : Nat) (x27_8 : Bool) (x1001_8 : Int), v27 = .bool x27_8 ∧ Aside0 (spec_l71Rows.j1 kq x5_1 x6_1 x27_8 s0_0 x1001_8 t186 t187 t188 t189 t190 = some (r1, r2)) ∧ Aside0 (kq ≤ k1) ∧ Aside0 (Kd.R k38 38 wc w.heap.size (fun k_ => k_ ≠ gb192) u5 x5_1) ∧ Aside0 (wc.heap[gb192]? = some (.cells #[.int .i64 t186, .int .i64 t187, .int .i64 t188, .int .i64 t189, .int .i64 t190] 38 (0, 0))) ∧ Aside0 (IsS87 w0 wc g s0_0 x1001_8) ∧ Aside0 (KeepBut w wc g none) ∧ Aside0 (Below w0.heap.size w0 wc))
    case first =>
     have H := HC9.out
     clear HC9
     by_cases c14 : (x5_1.length : Int) > 0
     ·rw [if_pos c14] at H
      have c14b0 : decide (0 < (x5_1.length : Int)) = true := decide_eq_true c14
      have c14b1 : decide (0 < x5_1.length) = true := decide_eq_true (by omega)
      clear c14
      (first | rw [c14b0] | (simp only [i64_w, i32_w]; rw [c14b0]) | skip)
      replace H := Option.bind_eq_some_iff.mp H
      obtain ⟨⟨t193, t194⟩, A150, H⟩ := H
      replace H : (spec_l71Rows.j1 k1 x5_1 x6_1 (t193 == 0) s0_0 t194 t186 t187 t188 t189 t190) = some (r1, r2) := H
      have A15 := Aside0.mk A150
      clear A150
      have H' := Aside0.mk H
      clear H
      obtain ⟨Ao16, co16, eo16⟩ := Kd.R_slice HO_5.out
      subst eo16
      go_wp2_with (first | (go_at_call 68; (with_reducible refine (spec_l6Rd_pick.calls k1 g s0_0 t191 3 t193 t194 w0 _ ?side1 ?side2 A15.out).mono ?_); (case side1 => exact Q66); (case side2 => exact Q73); rintro e w17 ⟨rfl, hi, hb, hk⟩; have n0_ := Aside0.mk (Kd.R_mono (Kd.R_keep (IsS87.apart (show IsS87 w0 _ g s0_0 t191 from by repeat (first | (with_reducible first | exact HI0.out | apply IsS87.alloc | apply IsS87.drewN | apply IsS87.drew | apply IsS87.set_1 | refine IsS87.far ?_ NB0_192.out _) | exact HI0.out)) (by (with_reducible repeat (first | apply Kd.R_alloc | apply Kd.R_drewN | apply Kd.R_drew)); exact (Kd.R_mono (Kd.R_far (p := ⟨gb192, 4, none⟩) (Kd.R_far (p := ⟨gb192, 3, none⟩) (Kd.R_far (p := ⟨gb192, 2, none⟩) (Kd.R_far (p := ⟨gb192, 1, none⟩) (Kd.R_far (p := ⟨gb192, 0, none⟩) (Kd.R_mono HO_5.out (fun k_ hk => (⟨hk, hk.2⟩ : _ ∧ k_ ≠ gb192))) (fun _ hk => hk.2) (.int .i64 t186)) (fun _ hk => hk.2) (.int .i64 t187)) (fun _ hk => hk.2) (.int .i64 t188)) (fun _ hk => hk.2) (.int .i64 t189)) (fun _ hk => hk.2) (.int .i64 t190)) (fun _ h_ => h_.1))) Q1) hk (fun _ h => h.2)) (fun _ h => h.1)); have n1_ := Aside0.mk (KeepBut.blk hk (g' := gb192) (o := .cells #[.int .i64 t186, .int .i64 t187, .int .i64 t188, .int .i64 t189, .int .i64 t190] 38 (0, 0)) (by (with_reducible repeat (first | refine blk_drewN ?_ _ | refine blk_drew ?_ | refine blk_alloc ?_ _)); refine blk_put (cs := #[.int .i64 t186, .int .i64 t187, .int .i64 t188, .int .i64 t189, .int .i64 0]) ?_ 4 _ rfl; (with_reducible repeat (first | refine blk_drewN ?_ _ | refine blk_drew ?_ | refine blk_alloc ?_ _)); refine blk_put (cs := #[.int .i64 t186, .int .i64 t187, .int .i64 t188, .int .i64 0, .int .i64 0]) ?_ 3 _ rfl; (with_reducible repeat (first | refine blk_drewN ?_ _ | refine blk_drew ?_ | refine blk_alloc ?_ _)); refine blk_put (cs := #[.int .i64 t186, .int .i64 t187, .int .i64 0, .int .i64 0, .int .i64 0]) ?_ 2 _ rfl; (with_reducible repeat (first | refine blk_drewN ?_ _ | refine blk_drew ?_ | refine blk_alloc ?_ _)); refine blk_put (cs := #[.int .i64 t186, .int .i64 0, .int .i64 0, .int .i64 0, .int .i64 0]) ?_ 1 _ rfl; (with_reducible repeat (first | refine blk_drewN ?_ _ | refine blk_drew ?_ | refine blk_alloc ?_ _)); refine blk_put (cs := #[.int .i64 0, .int .i64 0, .int .i64 0, .int .i64 0, .int .i64 0]) ?_ 0 _ rfl; (with_reducible repeat (first | refine blk_drewN ?_ _ | refine blk_drew ?_ | refine blk_alloc ?_ _)); exact BK192.out) NB192_0.out Q0); have n2_ := Aside0.mk (KeepBut.trans Q62 hk (.inl rfl)); have n3_ := Aside0.mk (hb); have n4_ := Aside0.mk (hi); clear HO_5; clear BK192; clear HK; clear HB; clear HI0; have HO_5 := n0_; have BK192 := n1_; have HK := n2_; have HB := n3_; have HI0 := n4_; clear n0_ n1_ n2_ n3_ n4_; (try clear hb); (try clear hb2); (try clear hk); (try clear hi)))
      go_meet
      case rel => exact ⟨_, ((t193 == 0)), (t194), Q6, H', ⟨Q8⟩, ⟨by (with_reducible repeat (first | apply Kd.R_alloc | apply Kd.R_drewN | apply Kd.R_drew)); exact Kd.R_mono HO_5.out (fun _ hk => hk.2)⟩, ⟨Q31⟩, ⟨Q66⟩, ⟨Q62⟩, ⟨Q73⟩⟩
     ·rw [if_neg c14] at H
      have c14b0 : decide (0 < (x5_1.length : Int)) = false := decide_eq_false c14
      have c14b1 : decide (0 < x5_1.length) = false := decide_eq_false (by omega)
      clear c14
      (first | rw [c14b0] | (simp only [i64_w, i32_w]; rw [c14b0]) | skip)
      have H' := Aside0.mk H
      clear H
      obtain ⟨Ao18, co18, eo18⟩ := Kd.R_slice HO_5.out
      subst eo18
      go_wp2
      go_meet
      case rel => exact ⟨_, (false), (t191), Q6, H', ⟨Q8⟩, ⟨by (with_reducible repeat (first | apply Kd.R_alloc | apply Kd.R_drewN | apply Kd.R_drew)); exact Kd.R_mono (Kd.R_far (p := ⟨gb192, 4, none⟩) (Kd.R_far (p := ⟨gb192, 3, none⟩) (Kd.R_far (p := ⟨gb192, 2, none⟩) (Kd.R_far (p := ⟨gb192, 1, none⟩) (Kd.R_far (p := ⟨gb192, 0, none⟩) (Kd.R_mono HO_5.out (fun k_ hk => (⟨hk, hk.2⟩ : _ ∧ k_ ≠ gb192))) (fun _ hk => hk.2) (.int .i64 t186)) (fun _ hk => hk.2) (.int .i64 t187)) (fun _ hk => hk.2) (.int .i64 t188)) (fun _ hk => hk.2) (.int .i64 t189)) (fun _ hk => hk.2) (.int .i64 t190)) (fun _ hk => hk.1.2)⟩, ⟨by (with_reducible repeat (first | refine blk_drewN ?_ _ | refine blk_drew ?_ | refine blk_alloc ?_ _)); refine blk_put (cs := #[.int .i64 t186, .int .i64 t187, .int .i64 t188, .int .i64 t189, .int .i64 0]) ?_ 4 _ rfl; (with_reducible repeat (first | refine blk_drewN ?_ _ | refine blk_drew ?_ | refine blk_alloc ?_ _)); refine blk_put (cs := #[.int .i64 t186, .int .i64 t187, .int .i64 t188, .int .i64 0, .int .i64 0]) ?_ 3 _ rfl; (with_reducible repeat (first | refine blk_drewN ?_ _ | refine blk_drew ?_ | refine blk_alloc ?_ _)); refine blk_put (cs := #[.int .i64 t186, .int .i64 t187, .int .i64 0, .int .i64 0, .int .i64 0]) ?_ 2 _ rfl; (with_reducible repeat (first | refine blk_drewN ?_ _ | refine blk_drew ?_ | refine blk_alloc ?_ _)); refine blk_put (cs := #[.int .i64 t186, .int .i64 0, .int .i64 0, .int .i64 0, .int .i64 0]) ?_ 1 _ rfl; (with_reducible repeat (first | refine blk_drewN ?_ _ | refine blk_drew ?_ | refine blk_alloc ?_ _)); refine blk_put (cs := #[.int .i64 0, .int .i64 0, .int .i64 0, .int .i64 0, .int .i64 0]) ?_ 0 _ rfl; (with_reducible repeat (first | refine blk_drewN ?_ _ | refine blk_drew ?_ | refine blk_alloc ?_ _)); exact BK192.out⟩, ⟨Q66⟩, ⟨Q62⟩, ⟨Q73⟩⟩
    case rest =>
     clear HC9
     try clear c1
     try clear p2
     try clear c6
     try clear p6
     try clear c7
     try clear c7b0
     try clear c8
     try clear c12
     try clear c14
     try clear c14b0
     try clear c14b1
     try clear hcz13_0
     try clear hcz13_1
     try clear hcz13_2
     try clear hcz13_3
     try clear hcz13_4
     try clear hfz13_0
     try clear hfz13_1
     try clear hfz13_2
     try clear hfz13_3
     try clear hfz13_4
     try clear p2
     try clear p6
     obtain ⟨kq, x27_8, x1001_8, rfl, HA, HJ8, HO_5, BK192, HI0, HK, HB⟩ := hcut
     cases kq with
     | zero => exact absurd HA.out (by simp [spec_l71Rows.j1])
     | succ kj8 =>
      have H := HA.out
      clear HA
      simp only [spec_l71Rows.j1] at H
      by_cases c19 : x27_8 = true
      ·subst c19
       have H1 : ((spec_l6Rd_pick.f kj8 s0_0 x1001_8 (x5_1.length : Int)).bind fun bt195 => (if 0 ≤ bt195.1 then (if bt195.1 < (x5_1.length : Int) then ((spec_l6Rd_pick.f kj8 s0_0 bt195.2 2).bind fun bt199 => (if bt199.1 = 0 then (if x5_1.length < 3518437208883 then (spec_l71Rows.l0 kj8 (x5_1 ++ [(⟨(rd_T38 x5_1 bt195.1).f0, (rd_T38 x5_1 bt195.1).f1, (⟨t188, t189⟩ : S36), wrap64 (-((rd_T38 x5_1 bt195.1).f3))⟩ : S38)]) (wrap64 (x6_1 - 1)) s0_0 bt199.2) else (none)) else (if x5_1.length < 3518437208883 then (spec_l71Rows.l0 kj8 (x5_1 ++ [(⟨(rd_T38 x5_1 bt195.1).f0, (rd_T38 x5_1 bt195.1).f1, (⟨t188, t189⟩ : S36), t190⟩ : S38)]) (wrap64 (x6_1 - 1)) s0_0 bt199.2) else (none)))) else (none)) else (none))) = some (r1, r2) := by rw [if_pos rfl] at H; exact H
       clear H
       have H := H1
       clear H1
       replace H := Option.bind_eq_some_iff.mp H
       obtain ⟨⟨t195, t196⟩, A200, H⟩ := H
       replace H : (if 0 ≤ t195 then (if t195 < (x5_1.length : Int) then ((spec_l6Rd_pick.f kj8 s0_0 t196 2).bind fun bt199 => (if bt199.1 = 0 then (if x5_1.length < 3518437208883 then (spec_l71Rows.l0 kj8 (x5_1 ++ [(⟨(rd_T38 x5_1 t195).f0, (rd_T38 x5_1 t195).f1, (⟨t188, t189⟩ : S36), wrap64 (-((rd_T38 x5_1 t195).f3))⟩ : S38)]) (wrap64 (x6_1 - 1)) s0_0 bt199.2) else (none)) else (if x5_1.length < 3518437208883 then (spec_l71Rows.l0 kj8 (x5_1 ++ [(⟨(rd_T38 x5_1 t195).f0, (rd_T38 x5_1 t195).f1, (⟨t188, t189⟩ : S36), t190⟩ : S38)]) (wrap64 (x6_1 - 1)) s0_0 bt199.2) else (none)))) else (none)) else (none)) = some (r1, r2) := H
       have A20 := Aside0.mk A200
       clear A200
       by_cases c21 : 0 ≤ t195
       ·rw [if_pos c21] at H
        have c21b0 : decide (0 ≤ t195) = true := decide_eq_true c21
        clear c21
        by_cases c22 : t195 < (x5_1.length : Int)
        ·rw [if_pos c22] at H
         have c22b0 : decide (t195 < (x5_1.length : Int)) = true := decide_eq_true c22
         clear c22
         replace H := Option.bind_eq_some_iff.mp H
         obtain ⟨⟨t199, t200⟩, A230, H⟩ := H
         replace H : (if t199 = 0 then (if x5_1.length < 3518437208883 then (spec_l71Rows.l0 kj8 (x5_1 ++ [(⟨(rd_T38 x5_1 t195).f0, (rd_T38 x5_1 t195).f1, (⟨t188, t189⟩ : S36), wrap64 (-((rd_T38 x5_1 t195).f3))⟩ : S38)]) (wrap64 (x6_1 - 1)) s0_0 t200) else (none)) else (if x5_1.length < 3518437208883 then (spec_l71Rows.l0 kj8 (x5_1 ++ [(⟨(rd_T38 x5_1 t195).f0, (rd_T38 x5_1 t195).f1, (⟨t188, t189⟩ : S36), t190⟩ : S38)]) (wrap64 (x6_1 - 1)) s0_0 t200) else (none))) = some (r1, r2) := H
         have A23 := Aside0.mk A230
         clear A230
         by_cases c24 : t199 = 0
         ·rw [if_pos c24] at H
          have c24b0 : (t199 == 0) = true := beq_iff_eq.mpr c24
          have c24b1 : (t199 != 0) = false := bne_eq_false_iff_eq.mpr c24
          clear c24
          by_cases c25 : x5_1.length < 3518437208883
          ·rw [if_pos c25] at H
           have LMc25 := Aside0.mk c25
           clear c25
           obtain ⟨y201, hy_⟩ : ∃ y_ : List (S38), y_ = (x5_1 ++ [(⟨(rd_T38 x5_1 t195).f0, (rd_T38 x5_1 t195).f1, (⟨t188, t189⟩ : S36), wrap64 (-((rd_T38 x5_1 t195).f3))⟩ : S38)]) := ⟨_, rfl⟩
           replace H : (spec_l71Rows.l0 kj8 y201 (wrap64 (x6_1 - 1)) s0_0 t200) = some (r1, r2) := Q78
           have Ny201 := Aside0.mk hy_
           clear hy_
           have H' := Aside0.mk H
           clear H
           obtain ⟨Ao26, co26, eo26⟩ := Kd.R_slice HO_5.out
           subst eo26
           go_wp2_with (first | ((with_reducible refine gate_callee (f := 68) rfl ?_); refine goesL_ (some 32) rfl rfl Try.func68 Q2 rfl #[.pointer (some ⟨g, 0, none⟩), .int .i64 (x5_1.length : Int)] rfl Q39 ?_; (with_reducible refine (spec_l6Rd_pick.calls kj8 g s0_0 x1001_8 (x5_1.length : Int) t195 t196 w0 _ ?side1 ?side2 A20.out).mono ?_); (case side1 => exact Q66); (case side2 => exact Q73); rintro e w27 ⟨rfl, hi, hb, hk⟩; refine ⟨_, rfl, ?_⟩; have n0_ := Aside0.mk (Kd.R_mono (Kd.R_keep (IsS87.apart (show IsS87 w0 _ g s0_0 x1001_8 from by repeat (first | (with_reducible first | exact HI0.out | apply IsS87.alloc | apply IsS87.drewN | apply IsS87.drew | apply IsS87.set_1 | refine IsS87.far ?_ NB0_192.out _) | exact HI0.out)) Q12 Q1) hk (fun _ h => h.2)) (fun _ h => h.1)); have n1_ := Aside0.mk (KeepBut.blk hk (g' := gb192) (o := .cells #[.int .i64 t186, .int .i64 t187, .int .i64 t188, .int .i64 t189, .int .i64 t190] 38 (0, 0)) Q31 NB192_0.out Q0); have n2_ := Aside0.mk (KeepBut.trans Q62 hk (.inl rfl)); have n3_ := Aside0.mk (hb); have n4_ := Aside0.mk (hi); clear HO_5; clear BK192; clear HK; clear HB; clear HI0; have HO_5 := n0_; have BK192 := n1_; have HK := n2_; have HB := n3_; have HI0 := n4_; clear n0_ n1_ n2_ n3_ n4_; (try clear hb); (try clear hb2); (try clear hk); (try clear hi); have p197 : 0 ≤ (t195 : Int) := of_decide_eq_true Q7; have q197 : t195 < (x5_1.length : Int) := of_decide_eq_true Q7; obtain ⟨ad197, e197, hx197_0, hx197_1, hx197_2, hx197_3, hx197_4⟩ := at_T38 (Kd.R_reads' HO_5.out).2.2 t195 p197 q197; cases e197; replace p197 := eq_true p197; replace q197 := eq_true q197) | ((with_reducible refine gate_dst (N := 8) rfl ?_); refine box_event ?hg (N := 8) ?hd (cs := #[.int .i64 0, .int .i64 0, .int .i64 0, .int .i64 0, .int .i64 0]) (t := 38) ?hr ?_; (case hd => rfl); (case hg => rfl); (case hr => first | (go_simp; done) | (go_simp; rfl)); intro gb198 hg w28 hbox hb; have n0_ := Aside0.mk (Kd.R_below (Kd.R_elderB Q12 gb198 (Nat.le_of_eq hg.symm)) hb); have n1_ := Aside0.mk (blk_below (g := gb192) (o := .cells #[.int .i64 t186, .int .i64 t187, .int .i64 t188, .int .i64 t189, .int .i64 t190] 38 (0, 0)) Q31 hb); have n2_ := Aside0.mk (IsS87.below Q66 hb); have n3_ := Aside0.mk (KeepBut.trans Q62 (KeepBut.of_below hb g none) (.inl rfl)); have n4_ := Aside0.mk (below_step Q73 hb); have n5_ := Aside0.mk (hbox); have n6_ := Aside0.mk ((Q88 : w.heap.size ≤ gb198)); have n7_ := Aside0.mk ((Nat.le_trans HW0.out (Q88 : w.heap.size ≤ gb198) : w0.heap.size ≤ gb198)); have n8_ := Aside0.mk ((by rw [hg]; exact Nat.ne_of_lt (blk_lt (g := gb192) (o := .cells #[.int .i64 t186, .int .i64 t187, .int .i64 t188, .int .i64 t189, .int .i64 t190] 38 (0, 0)) Q31) : gb192 ≠ gb198)); have n9_ := Aside0.mk ((by rw [hg]; exact Nat.ne_of_gt (blk_lt (g := gb192) (o := .cells #[.int .i64 t186, .int .i64 t187, .int .i64 t188, .int .i64 t189, .int .i64 t190] 38 (0, 0)) Q31) : gb198 ≠ gb192)); have n10_ := Aside0.mk ((by rw [hg]; exact Nat.ne_of_lt (IsS87.lt (show IsS87 w0 _ g s0_0 t196 from by repeat (first | (with_reducible first | exact HI0.out | apply IsS87.alloc | apply IsS87.drewN | apply IsS87.drew | apply IsS87.set_1 | refine IsS87.far ?_ NB0_192.out _) | exact HI0.out))) : g ≠ gb198)); have n11_ := Aside0.mk ((by rw [hg]; exact Nat.ne_of_gt (IsS87.lt (show IsS87 w0 _ g s0_0 t196 from by repeat (first | (with_reducible first | exact HI0.out | apply IsS87.alloc | apply IsS87.drewN | apply IsS87.drew | apply IsS87.set_1 | refine IsS87.far ?_ NB0_192.out _) | exact HI0.out))) : gb198 ≠ g)); clear HO_5; clear BK192; clear HI0; clear HK; clear HB; have HO_5 := n0_; have BK192 := n1_; have HI0 := n2_; have HK := n3_; have HB := n4_; have BK198 := n5_; have GW198 := n6_; have GE198 := n7_; have NB192_198 := n8_; have NB198_192 := n9_; have NB0_198 := n10_; have NB198_0 := n11_; clear n0_ n1_ n2_ n3_ n4_ n5_ n6_ n7_ n8_ n9_ n10_ n11_; clear hb hbox hg; have hnb29 := NB198_192.out; have hnc29 := NB192_198.out; have hnb30 := NB198_0.out; have hnc30 := NB0_198.out; obtain ⟨hcz31_0, hcz31_1, hcz31_2, hcz31_3, hcz31_4, hfz31_0, hfz31_1, hfz31_2, hfz31_3, hfz31_4⟩ := bx5_ BK198; have hnb32 := NB192_0.out; have hnc32 := NB0_192.out; obtain ⟨hcz33_0, hcz33_1, hcz33_2, hcz33_3, hcz33_4, hfz33_0, hfz33_1, hfz33_2, hfz33_3, hfz33_4⟩ := bx5_ BK192) | ((with_reducible refine gate_callee (f := 68) rfl ?_); refine goesL_ (some 42) rfl rfl Try.func68 Q2 rfl #[.pointer (some ⟨g, 0, none⟩), .int .i64 2] rfl Q39 ?_; (with_reducible refine (spec_l6Rd_pick.calls kj8 g s0_0 t196 2 t199 t200 w0 _ ?side1 ?side2 A23.out).mono ?_); (case side1 => exact Q76); (case side2 => exact Q77); rintro e w34 ⟨rfl, hi, hb, hk⟩; refine ⟨_, rfl, ?_⟩; have n0_ := Aside0.mk (Kd.R_mono (Kd.R_keep (IsS87.apart (show IsS87 w0 _ g s0_0 t196 from by repeat (first | (with_reducible first | exact HI0.out | apply IsS87.alloc | apply IsS87.drewN | apply IsS87.drew | apply IsS87.set_1 | refine IsS87.far ?_ NB0_192.out _ | refine IsS87.far ?_ NB0_198.out _) | exact HI0.out)) (by (with_reducible repeat (first | apply Kd.R_alloc | apply Kd.R_drewN | apply Kd.R_drew)); exact (Kd.R_mono (Kd.R_mono (Kd.R_far (p := ⟨gb192, 1, none⟩) (Kd.R_far (p := ⟨gb192, 0, none⟩) (Kd.R_far (p := ⟨gb198, 4, none⟩) (Kd.R_far (p := ⟨gb198, 3, none⟩) (Kd.R_far (p := ⟨gb198, 2, none⟩) (Kd.R_far (p := ⟨gb198, 1, none⟩) (Kd.R_far (p := ⟨gb198, 0, none⟩) (Kd.R_mono (Kd.R_mono HO_5.out (fun k_ hk => (⟨hk, hk.2⟩ : _ ∧ k_ ≠ gb198))) (fun k_ hk => (⟨hk, hk.1.1⟩ : _ ∧ k_ ≠ gb192))) (fun _ hk => hk.1.2) (.int .i64 ((rd_T38 x5_1 t195).f0))) (fun _ hk => hk.1.2) (.int .i64 ((rd_T38 x5_1 t195).f1))) (fun _ hk => hk.1.2) (.int .i64 ((rd_T38 x5_1 t195).f2.f0))) (fun _ hk => hk.1.2) (.int .i64 ((rd_T38 x5_1 t195).f2.f1))) (fun _ hk => hk.1.2) (.int .i64 ((rd_T38 x5_1 t195).f3))) (fun _ hk => hk.2) (.int .i64 ((rd_T38 x5_1 t195).f0))) (fun _ hk => hk.2) (.int .i64 ((rd_T38 x5_1 t195).f1))) (fun _ h_ => h_.1)) (fun _ h_ => h_.1))) Q1) hk (fun _ h => h.2)) (fun _ h => h.1)); have n1_ := Aside0.mk (KeepBut.blk hk (g' := gb192) (o := .cells #[.int .i64 ((rd_T38 x5_1 t195).f0), .int .i64 ((rd_T38 x5_1 t195).f1), .int .i64 t188, .int .i64 t189, .int .i64 t190] 38 (0, 0)) (by (with_reducible repeat (first | refine blk_drewN ?_ _ | refine blk_drew ?_ | refine blk_alloc ?_ _)); refine blk_put (cs := #[.int .i64 ((rd_T38 x5_1 t195).f0), .int .i64 t187, .int .i64 t188, .int .i64 t189, .int .i64 t190]) ?_ 1 _ rfl; (with_reducible repeat (first | refine blk_drewN ?_ _ | refine blk_drew ?_ | refine blk_alloc ?_ _)); refine blk_put (cs := #[.int .i64 t186, .int .i64 t187, .int .i64 t188, .int .i64 t189, .int .i64 t190]) ?_ 0 _ rfl; (with_reducible repeat (first | refine blk_drewN ?_ _ | refine blk_drew ?_ | refine blk_alloc ?_ _)); refine blk_far ?_ NB192_198.out _; (with_reducible repeat (first | refine blk_drewN ?_ _ | refine blk_drew ?_ | refine blk_alloc ?_ _)); refine blk_far ?_ NB192_198.out _; (with_reducible repeat (first | refine blk_drewN ?_ _ | refine blk_drew ?_ | refine blk_alloc ?_ _)); refine blk_far ?_ NB192_198.out _; (with_reducible repeat (first | refine blk_drewN ?_ _ | refine blk_drew ?_ | refine blk_alloc ?_ _)); refine blk_far ?_ NB192_198.out _; (with_reducible repeat (first | refine blk_drewN ?_ _ | refine blk_drew ?_ | refine blk_alloc ?_ _)); refine blk_far ?_ NB192_198.out _; (with_reducible repeat (first | refine blk_drewN ?_ _ | refine blk_drew ?_ | refine blk_alloc ?_ _)); exact BK192.out) NB192_0.out Q0); have n2_ := Aside0.mk (KeepBut.blk hk (g' := gb198) (o := .cells #[.int .i64 ((rd_T38 x5_1 t195).f0), .int .i64 ((rd_T38 x5_1 t195).f1), .int .i64 ((rd_T38 x5_1 t195).f2.f0), .int .i64 ((rd_T38 x5_1 t195).f2.f1), .int .i64 ((rd_T38 x5_1 t195).f3)] 38 (0, 0)) (by (with_reducible repeat (first | refine blk_drewN ?_ _ | refine blk_drew ?_ | refine blk_alloc ?_ _)); refine blk_far ?_ NB198_192.out _; (with_reducible repeat (first | refine blk_drewN ?_ _ | refine blk_drew ?_ | refine blk_alloc ?_ _)); refine blk_far ?_ NB198_192.out _; (with_reducible repeat (first | refine blk_drewN ?_ _ | refine blk_drew ?_ | refine blk_alloc ?_ _)); refine blk_put (cs := #[.int .i64 ((rd_T38 x5_1 t195).f0), .int .i64 ((rd_T38 x5_1 t195).f1), .int .i64 ((rd_T38 x5_1 t195).f2.f0), .int .i64 ((rd_T38 x5_1 t195).f2.f1), .int .i64 0]) ?_ 4 _ rfl; (with_reducible repeat (first | refine blk_drewN ?_ _ | refine blk_drew ?_ | refine blk_alloc ?_ _)); refine blk_put (cs := #[.int .i64 ((rd_T38 x5_1 t195).f0), .int .i64 ((rd_T38 x5_1 t195).f1), .int .i64 ((rd_T38 x5_1 t195).f2.f0), .int .i64 0, .int .i64 0]) ?_ 3 _ rfl; (with_reducible repeat (first | refine blk_drewN ?_ _ | refine blk_drew ?_ | refine blk_alloc ?_ _)); refine blk_put (cs := #[.int .i64 ((rd_T38 x5_1 t195).f0), .int .i64 ((rd_T38 x5_1 t195).f1), .int .i64 0, .int .i64 0, .int .i64 0]) ?_ 2 _ rfl; (with_reducible repeat (first | refine blk_drewN ?_ _ | refine blk_drew ?_ | refine blk_alloc ?_ _)); refine blk_put (cs := #[.int .i64 ((rd_T38 x5_1 t195).f0), .int .i64 0, .int .i64 0, .int .i64 0, .int .i64 0]) ?_ 1 _ rfl; (with_reducible repeat (first | refine blk_drewN ?_ _ | refine blk_drew ?_ | refine blk_alloc ?_ _)); refine blk_put (cs := #[.int .i64 0, .int .i64 0, .int .i64 0, .int .i64 0, .int .i64 0]) ?_ 0 _ rfl; (with_reducible repeat (first | refine blk_drewN ?_ _ | refine blk_drew ?_ | refine blk_alloc ?_ _)); exact BK198.out) NB198_0.out Q0); have n3_ := Aside0.mk (KeepBut.trans Q75 hk (.inl rfl)); have n4_ := Aside0.mk (hb); have n5_ := Aside0.mk (hi); clear HO_5; clear BK192; clear BK198; clear HK; clear HB; clear HI0; have HO_5 := n0_; have BK192 := n1_; have BK198 := n2_; have HK := n3_; have HB := n4_; have HI0 := n5_; clear n0_ n1_ n2_ n3_ n4_ n5_; (try clear hb); (try clear hb2); (try clear hk); (try clear hi); obtain ⟨hcz35_0, hcz35_1, hcz35_2, hcz35_3, hcz35_4, hfz35_0, hfz35_1, hfz35_2, hfz35_3, hfz35_4⟩ := bx5_ BK198; obtain ⟨hcz36_0, hcz36_1, hcz36_2, hcz36_3, hcz36_4, hfz36_0, hfz36_1, hfz36_2, hfz36_3, hfz36_4⟩ := bx5_ BK192) | ((with_reducible refine gate_builtin (b := .append) (xs := #[.tmp 48, .tmp 50]) rfl ?_); at_builtin; refine Kd.R_append k38 w.heap.size rfl (.tmp 48) (.tmp 50) 23 38 (.agg #[(.int .i64 0), (.int .i64 0), (.int .i64 0), (.int .i64 0), (.int .i64 0)]) 40 rfl Try.underlying23 info38 rfl Q1 (by omega) (.slice (some ad197) x5_1.length co26) x5_1 (⟨(rd_T38 x5_1 t195).f0, (rd_T38 x5_1 t195).f1, (⟨t188, t189⟩ : S36), wrap64 (-((rd_T38 x5_1 t195).f3))⟩ : S38) [.int .i64 ((rd_T38 x5_1 t195).f0), .int .i64 ((rd_T38 x5_1 t195).f1), .int .i64 t188, .int .i64 t189, .int .i64 (wrap64 (-((rd_T38 x5_1 t195).f3)))] (fun k_ => k_ ≠ gb192 ∧ k_ ≠ gb198) (fun _ => False) rfl (by first | (go_simp; done) | (go_simp; rfl)) ?aP (fun _ hk => hk.elim) ?aF ?aO (Below.refl _ _) ?aS ?aL ?_; (case aP => exact k38_mkM _ _ _ (⟨(rd_T38 x5_1 t195).f0, (rd_T38 x5_1 t195).f1, (⟨t188, t189⟩ : S36), wrap64 (-((rd_T38 x5_1 t195).f3))⟩ : S38)); (case aF => exact (fun k_ hk => ⟨Kd.freshB (g := gb192) (o := .cells #[.int .i64 ((rd_T38 x5_1 t195).f0), .int .i64 ((rd_T38 x5_1 t195).f1), .int .i64 t188, .int .i64 t189, .int .i64 (wrap64 (-((rd_T38 x5_1 t195).f3)))] 38 (0, 0)) (by (with_reducible repeat (first | refine blk_drewN ?_ _ | refine blk_drew ?_ | refine blk_alloc ?_ _)); refine blk_put (cs := #[.int .i64 ((rd_T38 x5_1 t195).f0), .int .i64 ((rd_T38 x5_1 t195).f1), .int .i64 t188, .int .i64 t189, .int .i64 t190]) ?_ 4 _ rfl; (with_reducible repeat (first | refine blk_drewN ?_ _ | refine blk_drew ?_ | refine blk_alloc ?_ _)); exact BK192.out) k_ hk, Kd.freshB (g := gb198) (o := .cells #[.int .i64 ((rd_T38 x5_1 t195).f0), .int .i64 ((rd_T38 x5_1 t195).f1), .int .i64 ((rd_T38 x5_1 t195).f2.f0), .int .i64 ((rd_T38 x5_1 t195).f2.f1), .int .i64 ((rd_T38 x5_1 t195).f3)] 38 (0, 0)) (by (with_reducible repeat (first | refine blk_drewN ?_ _ | refine blk_drew ?_ | refine blk_alloc ?_ _)); refine blk_far ?_ NB198_192.out _; (with_reducible repeat (first | refine blk_drewN ?_ _ | refine blk_drew ?_ | refine blk_alloc ?_ _)); exact BK198.out) k_ hk⟩)); (case aO => exact (by (with_reducible repeat (first | apply Kd.R_alloc | apply Kd.R_drewN | apply Kd.R_drew)); exact Kd.R_mono (Kd.R_far (p := ⟨gb192, 4, none⟩) (Kd.R_mono HO_5.out (fun k_ hk => (⟨hk, hk.1⟩ : _ ∧ k_ ≠ gb192))) (fun _ hk => hk.2) (.int .i64 (wrap64 (-((rd_T38 x5_1 t195).f3))))) (fun _ hk => ⟨hk.1.1, hk.1.2⟩))); (case aS => exact (keep_size (w := w) (g := g) (row := none) Q75)); (case aL => have := LMc25.out; omega); intro v202 w37 ho hb hg hat; rw [← Ny201.out] at ho; have n0_ := Aside0.mk (blk_grown (g := gb192) (o := .cells #[.int .i64 ((rd_T38 x5_1 t195).f0), .int .i64 ((rd_T38 x5_1 t195).f1), .int .i64 t188, .int .i64 t189, .int .i64 (wrap64 (-((rd_T38 x5_1 t195).f3)))] 38 (0, 0)) (by (with_reducible repeat (first | refine blk_drewN ?_ _ | refine blk_drew ?_ | refine blk_alloc ?_ _)); refine blk_put (cs := #[.int .i64 ((rd_T38 x5_1 t195).f0), .int .i64 ((rd_T38 x5_1 t195).f1), .int .i64 t188, .int .i64 t189, .int .i64 t190]) ?_ 4 _ rfl; (with_reducible repeat (first | refine blk_drewN ?_ _ | refine blk_drew ?_ | refine blk_alloc ?_ _)); exact BK192.out) hg (Kd.R_away HO_5.out (fun _ hk => hk.1))); have n1_ := Aside0.mk (IsS87.grown (show IsS87 w0 _ g s0_0 t200 from by repeat (first | (with_reducible first | exact HI0.out | apply IsS87.alloc | apply IsS87.drewN | apply IsS87.drew | apply IsS87.set_1 | refine IsS87.far ?_ NB0_192.out _ | refine IsS87.far ?_ NB0_198.out _) | exact HI0.out)) hg (IsS87.own_ne HI0.out HO_5.out Q1)); have n2_ := Aside0.mk (blk_grown (g := gb198) (o := .cells #[.int .i64 ((rd_T38 x5_1 t195).f0), .int .i64 ((rd_T38 x5_1 t195).f1), .int .i64 ((rd_T38 x5_1 t195).f2.f0), .int .i64 ((rd_T38 x5_1 t195).f2.f1), .int .i64 ((rd_T38 x5_1 t195).f3)] 38 (0, 0)) (by (with_reducible repeat (first | refine blk_drewN ?_ _ | refine blk_drew ?_ | refine blk_alloc ?_ _)); refine blk_far ?_ NB198_192.out _; (with_reducible repeat (first | refine blk_drewN ?_ _ | refine blk_drew ?_ | refine blk_alloc ?_ _)); exact BK198.out) hg (Kd.R_away HO_5.out (fun _ hk => hk.2))); have n3_ := Aside0.mk (below_weaken Q77 HL.out hb); have n4_ := Aside0.mk (KeepBut.trans Q75 (KeepBut.of_grown hg g) (Kd.R_base2 HO_5.out)); have n5_ := Aside0.mk (ho); clear BK192; clear HI0; clear BK198; clear HB; clear HK; clear HO_5; have BK192 := n0_; have HI0 := n1_; have BK198 := n2_; have HB := n3_; have HK := n4_; have HO203 := n5_; clear n0_ n1_ n2_ n3_ n4_ n5_; clear ho hb hg hat))
           go_roundg kj8
           case measure => have := HK1.out; have := HJ8.out; omega
           case rel => exact ⟨(y201), (wrap64 (x6_1 - 1)), (t200), Q6, H', ⟨Q5⟩, ⟨by (with_reducible repeat (first | apply Kd.R_alloc | apply Kd.R_drewN | apply Kd.R_drew)); exact Kd.R_mono HO203.out (fun _ hk => trivial)⟩, ⟨Q76⟩, ⟨Q75⟩, ⟨Q77⟩⟩
          ·rw [if_neg c25] at H
           exact absurd H Q0
         ·rw [if_neg c24] at H
          have c24b0 : (t199 == 0) = false := beq_eq_false_iff_ne.mpr c24
          have c24b1 : (t199 != 0) = true := bne_iff_ne.mpr c24
          by_cases c38 : x5_1.length < 3518437208883
          ·rw [if_pos c38] at H
           have LMc38 := Aside0.mk c38
           clear c38
           obtain ⟨y204, hy_⟩ : ∃ y_ : List (S38), y_ = (x5_1 ++ [(⟨(rd_T38 x5_1 t195).f0, (rd_T38 x5_1 t195).f1, (⟨t188, t189⟩ : S36), t190⟩ : S38)]) := ⟨_, rfl⟩
           replace H : (spec_l71Rows.l0 kj8 y204 (wrap64 (x6_1 - 1)) s0_0 t200) = some (r1, r2) := Q78
           have Ny204 := Aside0.mk hy_
           clear hy_
           have H' := Aside0.mk H
           clear H
           obtain ⟨Ao39, co39, eo39⟩ := Kd.R_slice HO_5.out
           subst eo39
           go_wp2_with (first | ((with_reducible refine gate_callee (f := 68) rfl ?_); refine goesL_ (some 32) rfl rfl Try.func68 Q2 rfl #[.pointer (some ⟨g, 0, none⟩), .int .i64 (x5_1.length : Int)] rfl Q39 ?_; (with_reducible refine (spec_l6Rd_pick.calls kj8 g s0_0 x1001_8 (x5_1.length : Int) t195 t196 w0 _ ?side1 ?side2 A20.out).mono ?_); (case side1 => exact Q66); (case side2 => exact Q73); rintro e w40 ⟨rfl, hi, hb, hk⟩; refine ⟨_, rfl, ?_⟩; have n0_ := Aside0.mk (Kd.R_mono (Kd.R_keep (IsS87.apart (show IsS87 w0 _ g s0_0 x1001_8 from by repeat (first | (with_reducible first | exact HI0.out | apply IsS87.alloc | apply IsS87.drewN | apply IsS87.drew | apply IsS87.set_1 | refine IsS87.far ?_ NB0_192.out _) | exact HI0.out)) Q12 Q1) hk (fun _ h => h.2)) (fun _ h => h.1)); have n1_ := Aside0.mk (KeepBut.blk hk (g' := gb192) (o := .cells #[.int .i64 t186, .int .i64 t187, .int .i64 t188, .int .i64 t189, .int .i64 t190] 38 (0, 0)) Q31 NB192_0.out Q0); have n2_ := Aside0.mk (KeepBut.trans Q62 hk (.inl rfl)); have n3_ := Aside0.mk (hb); have n4_ := Aside0.mk (hi); clear HO_5; clear BK192; clear HK; clear HB; clear HI0; have HO_5 := n0_; have BK192 := n1_; have HK := n2_; have HB := n3_; have HI0 := n4_; clear n0_ n1_ n2_ n3_ n4_; (try clear hb); (try clear hb2); (try clear hk); (try clear hi); have p197 : 0 ≤ (t195 : Int) := of_decide_eq_true Q7; have q197 : t195 < (x5_1.length : Int) := of_decide_eq_true Q7; obtain ⟨ad197, e197, hx197_0, hx197_1, hx197_2, hx197_3, hx197_4⟩ := at_T38 (Kd.R_reads' HO_5.out).2.2 t195 p197 q197; cases e197; replace p197 := eq_true p197; replace q197 := eq_true q197) | ((with_reducible refine gate_dst (N := 8) rfl ?_); refine box_event ?hg (N := 8) ?hd (cs := #[.int .i64 0, .int .i64 0, .int .i64 0, .int .i64 0, .int .i64 0]) (t := 38) ?hr ?_; (case hd => rfl); (case hg => rfl); (case hr => first | (go_simp; done) | (go_simp; rfl)); intro gb198 hg w41 hbox hb; have n0_ := Aside0.mk (Kd.R_below (Kd.R_elderB Q12 gb198 (Nat.le_of_eq hg.symm)) hb); have n1_ := Aside0.mk (blk_below (g := gb192) (o := .cells #[.int .i64 t186, .int .i64 t187, .int .i64 t188, .int .i64 t189, .int .i64 t190] 38 (0, 0)) Q31 hb); have n2_ := Aside0.mk (IsS87.below Q66 hb); have n3_ := Aside0.mk (KeepBut.trans Q62 (KeepBut.of_below hb g none) (.inl rfl)); have n4_ := Aside0.mk (below_step Q73 hb); have n5_ := Aside0.mk (hbox); have n6_ := Aside0.mk ((Q88 : w.heap.size ≤ gb198)); have n7_ := Aside0.mk ((Nat.le_trans HW0.out (Q88 : w.heap.size ≤ gb198) : w0.heap.size ≤ gb198)); have n8_ := Aside0.mk ((by rw [hg]; exact Nat.ne_of_lt (blk_lt (g := gb192) (o := .cells #[.int .i64 t186, .int .i64 t187, .int .i64 t188, .int .i64 t189, .int .i64 t190] 38 (0, 0)) Q31) : gb192 ≠ gb198)); have n9_ := Aside0.mk ((by rw [hg]; exact Nat.ne_of_gt (blk_lt (g := gb192) (o := .cells #[.int .i64 t186, .int .i64 t187, .int .i64 t188, .int .i64 t189, .int .i64 t190] 38 (0, 0)) Q31) : gb198 ≠ gb192)); have n10_ := Aside0.mk ((by rw [hg]; exact Nat.ne_of_lt (IsS87.lt (show IsS87 w0 _ g s0_0 t196 from by repeat (first | (with_reducible first | exact HI0.out | apply IsS87.alloc | apply IsS87.drewN | apply IsS87.drew | apply IsS87.set_1 | refine IsS87.far ?_ NB0_192.out _) | exact HI0.out))) : g ≠ gb198)); have n11_ := Aside0.mk ((by rw [hg]; exact Nat.ne_of_gt (IsS87.lt (show IsS87 w0 _ g s0_0 t196 from by repeat (first | (with_reducible first | exact HI0.out | apply IsS87.alloc | apply IsS87.drewN | apply IsS87.drew | apply IsS87.set_1 | refine IsS87.far ?_ NB0_192.out _) | exact HI0.out))) : gb198 ≠ g)); clear HO_5; clear BK192; clear HI0; clear HK; clear HB; have HO_5 := n0_; have BK192 := n1_; have HI0 := n2_; have HK := n3_; have HB := n4_; have BK198 := n5_; have GW198 := n6_; have GE198 := n7_; have NB192_198 := n8_; have NB198_192 := n9_; have NB0_198 := n10_; have NB198_0 := n11_; clear n0_ n1_ n2_ n3_ n4_ n5_ n6_ n7_ n8_ n9_ n10_ n11_; clear hb hbox hg; have hnb42 := NB198_192.out; have hnc42 := NB192_198.out; have hnb43 := NB198_0.out; have hnc43 := NB0_198.out; obtain ⟨hcz44_0, hcz44_1, hcz44_2, hcz44_3, hcz44_4, hfz44_0, hfz44_1, hfz44_2, hfz44_3, hfz44_4⟩ := bx5_ BK198; have hnb45 := NB192_0.out; have hnc45 := NB0_192.out; obtain ⟨hcz46_0, hcz46_1, hcz46_2, hcz46_3, hcz46_4, hfz46_0, hfz46_1, hfz46_2, hfz46_3, hfz46_4⟩ := bx5_ BK192) | ((with_reducible refine gate_callee (f := 68) rfl ?_); refine goesL_ (some 42) rfl rfl Try.func68 Q2 rfl #[.pointer (some ⟨g, 0, none⟩), .int .i64 2] rfl Q39 ?_; (with_reducible refine (spec_l6Rd_pick.calls kj8 g s0_0 t196 2 t199 t200 w0 _ ?side1 ?side2 A23.out).mono ?_); (case side1 => exact Q76); (case side2 => exact Q77); rintro e w47 ⟨rfl, hi, hb, hk⟩; refine ⟨_, rfl, ?_⟩; have n0_ := Aside0.mk (Kd.R_mono (Kd.R_keep (IsS87.apart (show IsS87 w0 _ g s0_0 t196 from by repeat (first | (with_reducible first | exact HI0.out | apply IsS87.alloc | apply IsS87.drewN | apply IsS87.drew | apply IsS87.set_1 | refine IsS87.far ?_ NB0_192.out _ | refine IsS87.far ?_ NB0_198.out _) | exact HI0.out)) (by (with_reducible repeat (first | apply Kd.R_alloc | apply Kd.R_drewN | apply Kd.R_drew)); exact (Kd.R_mono (Kd.R_mono (Kd.R_far (p := ⟨gb192, 1, none⟩) (Kd.R_far (p := ⟨gb192, 0, none⟩) (Kd.R_far (p := ⟨gb198, 4, none⟩) (Kd.R_far (p := ⟨gb198, 3, none⟩) (Kd.R_far (p := ⟨gb198, 2, none⟩) (Kd.R_far (p := ⟨gb198, 1, none⟩) (Kd.R_far (p := ⟨gb198, 0, none⟩) (Kd.R_mono (Kd.R_mono HO_5.out (fun k_ hk => (⟨hk, hk.2⟩ : _ ∧ k_ ≠ gb198))) (fun k_ hk => (⟨hk, hk.1.1⟩ : _ ∧ k_ ≠ gb192))) (fun _ hk => hk.1.2) (.int .i64 ((rd_T38 x5_1 t195).f0))) (fun _ hk => hk.1.2) (.int .i64 ((rd_T38 x5_1 t195).f1))) (fun _ hk => hk.1.2) (.int .i64 ((rd_T38 x5_1 t195).f2.f0))) (fun _ hk => hk.1.2) (.int .i64 ((rd_T38 x5_1 t195).f2.f1))) (fun _ hk => hk.1.2) (.int .i64 ((rd_T38 x5_1 t195).f3))) (fun _ hk => hk.2) (.int .i64 ((rd_T38 x5_1 t195).f0))) (fun _ hk => hk.2) (.int .i64 ((rd_T38 x5_1 t195).f1))) (fun _ h_ => h_.1)) (fun _ h_ => h_.1))) Q1) hk (fun _ h => h.2)) (fun _ h => h.1)); have n1_ := Aside0.mk (KeepBut.blk hk (g' := gb192) (o := .cells #[.int .i64 ((rd_T38 x5_1 t195).f0), .int .i64 ((rd_T38 x5_1 t195).f1), .int .i64 t188, .int .i64 t189, .int .i64 t190] 38 (0, 0)) (by (with_reducible repeat (first | refine blk_drewN ?_ _ | refine blk_drew ?_ | refine blk_alloc ?_ _)); refine blk_put (cs := #[.int .i64 ((rd_T38 x5_1 t195).f0), .int .i64 t187, .int .i64 t188, .int .i64 t189, .int .i64 t190]) ?_ 1 _ rfl; (with_reducible repeat (first | refine blk_drewN ?_ _ | refine blk_drew ?_ | refine blk_alloc ?_ _)); refine blk_put (cs := #[.int .i64 t186, .int .i64 t187, .int .i64 t188, .int .i64 t189, .int .i64 t190]) ?_ 0 _ rfl; (with_reducible repeat (first | refine blk_drewN ?_ _ | refine blk_drew ?_ | refine blk_alloc ?_ _)); refine blk_far ?_ NB192_198.out _; (with_reducible repeat (first | refine blk_drewN ?_ _ | refine blk_drew ?_ | refine blk_alloc ?_ _)); refine blk_far ?_ NB192_198.out _; (with_reducible repeat (first | refine blk_drewN ?_ _ | refine blk_drew ?_ | refine blk_alloc ?_ _)); refine blk_far ?_ NB192_198.out _; (with_reducible repeat (first | refine blk_drewN ?_ _ | refine blk_drew ?_ | refine blk_alloc ?_ _)); refine blk_far ?_ NB192_198.out _; (with_reducible repeat (first | refine blk_drewN ?_ _ | refine blk_drew ?_ | refine blk_alloc ?_ _)); refine blk_far ?_ NB192_198.out _; (with_reducible repeat (first | refine blk_drewN ?_ _ | refine blk_drew ?_ | refine blk_alloc ?_ _)); exact BK192.out) NB192_0.out Q0); have n2_ := Aside0.mk (KeepBut.blk hk (g' := gb198) (o := .cells #[.int .i64 ((rd_T38 x5_1 t195).f0), .int .i64 ((rd_T38 x5_1 t195).f1), .int .i64 ((rd_T38 x5_1 t195).f2.f0), .int .i64 ((rd_T38 x5_1 t195).f2.f1), .int .i64 ((rd_T38 x5_1 t195).f3)] 38 (0, 0)) (by (with_reducible repeat (first | refine blk_drewN ?_ _ | refine blk_drew ?_ | refine blk_alloc ?_ _)); refine blk_far ?_ NB198_192.out _; (with_reducible repeat (first | refine blk_drewN ?_ _ | refine blk_drew ?_ | refine blk_alloc ?_ _)); refine blk_far ?_ NB198_192.out _; (with_reducible repeat (first | refine blk_drewN ?_ _ | refine blk_drew ?_ | refine blk_alloc ?_ _)); refine blk_put (cs := #[.int .i64 ((rd_T38 x5_1 t195).f0), .int .i64 ((rd_T38 x5_1 t195).f1), .int .i64 ((rd_T38 x5_1 t195).f2.f0), .int .i64 ((rd_T38 x5_1 t195).f2.f1), .int .i64 0]) ?_ 4 _ rfl; (with_reducible repeat (first | refine blk_drewN ?_ _ | refine blk_drew ?_ | refine blk_alloc ?_ _)); refine blk_put (cs := #[.int .i64 ((rd_T38 x5_1 t195).f0), .int .i64 ((rd_T38 x5_1 t195).f1), .int .i64 ((rd_T38 x5_1 t195).f2.f0), .int .i64 0, .int .i64 0]) ?_ 3 _ rfl; (with_reducible repeat (first | refine blk_drewN ?_ _ | refine blk_drew ?_ | refine blk_alloc ?_ _)); refine blk_put (cs := #[.int .i64 ((rd_T38 x5_1 t195).f0), .int .i64 ((rd_T38 x5_1 t195).f1), .int .i64 0, .int .i64 0, .int .i64 0]) ?_ 2 _ rfl; (with_reducible repeat (first | refine blk_drewN ?_ _ | refine blk_drew ?_ | refine blk_alloc ?_ _)); refine blk_put (cs := #[.int .i64 ((rd_T38 x5_1 t195).f0), .int .i64 0, .int .i64 0, .int .i64 0, .int .i64 0]) ?_ 1 _ rfl; (with_reducible repeat (first | refine blk_drewN ?_ _ | refine blk_drew ?_ | refine blk_alloc ?_ _)); refine blk_put (cs := #[.int .i64 0, .int .i64 0, .int .i64 0, .int .i64 0, .int .i64 0]) ?_ 0 _ rfl; (with_reducible repeat (first | refine blk_drewN ?_ _ | refine blk_drew ?_ | refine blk_alloc ?_ _)); exact BK198.out) NB198_0.out Q0); have n3_ := Aside0.mk (KeepBut.trans Q75 hk (.inl rfl)); have n4_ := Aside0.mk (hb); have n5_ := Aside0.mk (hi); clear HO_5; clear BK192; clear BK198; clear HK; clear HB; clear HI0; have HO_5 := n0_; have BK192 := n1_; have BK198 := n2_; have HK := n3_; have HB := n4_; have HI0 := n5_; clear n0_ n1_ n2_ n3_ n4_ n5_; (try clear hb); (try clear hb2); (try clear hk); (try clear hi); obtain ⟨hcz48_0, hcz48_1, hcz48_2, hcz48_3, hcz48_4, hfz48_0, hfz48_1, hfz48_2, hfz48_3, hfz48_4⟩ := bx5_ BK192) | ((with_reducible refine gate_builtin (b := .append) (xs := #[.tmp 48, .tmp 50]) rfl ?_); at_builtin; refine Kd.R_append k38 w.heap.size rfl (.tmp 48) (.tmp 50) 23 38 (.agg #[(.int .i64 0), (.int .i64 0), (.int .i64 0), (.int .i64 0), (.int .i64 0)]) 40 rfl Try.underlying23 info38 rfl Q1 (by omega) (.slice (some ad197) x5_1.length co39) x5_1 (⟨(rd_T38 x5_1 t195).f0, (rd_T38 x5_1 t195).f1, (⟨t188, t189⟩ : S36), t190⟩ : S38) [.int .i64 ((rd_T38 x5_1 t195).f0), .int .i64 ((rd_T38 x5_1 t195).f1), .int .i64 t188, .int .i64 t189, .int .i64 t190] (fun k_ => k_ ≠ gb192 ∧ k_ ≠ gb198) (fun _ => False) rfl rfl ?aP (fun _ hk => hk.elim) ?aF ?aO (Below.refl _ _) ?aS ?aL ?_; (case aP => exact k38_mkM _ _ _ (⟨(rd_T38 x5_1 t195).f0, (rd_T38 x5_1 t195).f1, (⟨t188, t189⟩ : S36), t190⟩ : S38)); (case aF => exact (fun k_ hk => ⟨Kd.freshB (g := gb192) (o := .cells #[.int .i64 ((rd_T38 x5_1 t195).f0), .int .i64 ((rd_T38 x5_1 t195).f1), .int .i64 t188, .int .i64 t189, .int .i64 t190] 38 (0, 0)) Q31 k_ hk, Kd.freshB (g := gb198) (o := .cells #[.int .i64 ((rd_T38 x5_1 t195).f0), .int .i64 ((rd_T38 x5_1 t195).f1), .int .i64 ((rd_T38 x5_1 t195).f2.f0), .int .i64 ((rd_T38 x5_1 t195).f2.f1), .int .i64 ((rd_T38 x5_1 t195).f3)] 38 (0, 0)) (by (with_reducible repeat (first | refine blk_drewN ?_ _ | refine blk_drew ?_ | refine blk_alloc ?_ _)); exact BK198.out) k_ hk⟩)); (case aO => exact Q12); (case aS => exact (keep_size (w := w) (g := g) (row := none) Q75)); (case aL => have := LMc38.out; omega); intro v205 w49 ho hb hg hat; rw [← Ny204.out] at ho; have n0_ := Aside0.mk (blk_grown (g := gb192) (o := .cells #[.int .i64 ((rd_T38 x5_1 t195).f0), .int .i64 ((rd_T38 x5_1 t195).f1), .int .i64 t188, .int .i64 t189, .int .i64 t190] 38 (0, 0)) Q31 hg (Kd.R_away HO_5.out (fun _ hk => hk.1))); have n1_ := Aside0.mk (IsS87.grown (show IsS87 w0 _ g s0_0 t200 from by repeat (first | (with_reducible first | exact HI0.out | apply IsS87.alloc | apply IsS87.drewN | apply IsS87.drew | apply IsS87.set_1 | refine IsS87.far ?_ NB0_192.out _ | refine IsS87.far ?_ NB0_198.out _) | exact HI0.out)) hg (IsS87.own_ne HI0.out HO_5.out Q1)); have n2_ := Aside0.mk (blk_grown (g := gb198) (o := .cells #[.int .i64 ((rd_T38 x5_1 t195).f0), .int .i64 ((rd_T38 x5_1 t195).f1), .int .i64 ((rd_T38 x5_1 t195).f2.f0), .int .i64 ((rd_T38 x5_1 t195).f2.f1), .int .i64 ((rd_T38 x5_1 t195).f3)] 38 (0, 0)) (by (with_reducible repeat (first | refine blk_drewN ?_ _ | refine blk_drew ?_ | refine blk_alloc ?_ _)); exact BK198.out) hg (Kd.R_away HO_5.out (fun _ hk => hk.2))); have n3_ := Aside0.mk (below_weaken Q77 HL.out hb); have n4_ := Aside0.mk (KeepBut.trans Q75 (KeepBut.of_grown hg g) (Kd.R_base2 HO_5.out)); have n5_ := Aside0.mk (ho); clear BK192; clear HI0; clear BK198; clear HB; clear HK; clear HO_5; have BK192 := n0_; have HI0 := n1_; have BK198 := n2_; have HB := n3_; have HK := n4_; have HO206 := n5_; clear n0_ n1_ n2_ n3_ n4_ n5_; clear ho hb hg hat))
           go_roundg kj8
           case measure => have := HK1.out; have := HJ8.out; omega
           case rel => exact ⟨(y204), (wrap64 (x6_1 - 1)), (t200), Q6, H', ⟨Q5⟩, ⟨by (with_reducible repeat (first | apply Kd.R_alloc | apply Kd.R_drewN | apply Kd.R_drew)); exact Kd.R_mono HO206.out (fun _ hk => trivial)⟩, ⟨Q76⟩, ⟨Q75⟩, ⟨Q77⟩⟩
          ·rw [if_neg c38] at H
           exact absurd H Q0
        ·rw [if_neg c22] at H
         exact absurd H Q0
       ·rw [if_neg c21] at H
        exact absurd H Q0
      ·replace c19 := Bool.eq_false_iff.mpr c19
       subst c19
       have H1 : (if x5_1.length < 3518437208883 then (spec_l71Rows.l0 kj8 (x5_1 ++ [(⟨t186, t187, (⟨t188, t189⟩ : S36), t190⟩ : S38)]) (wrap64 (x6_1 - 1)) s0_0 x1001_8) else (none)) = some (r1, r2) := by rw [if_neg (show ¬ (false = true) by decide)] at H; exact H
       clear H
       have H := H1
       clear H1
       by_cases c50 : x5_1.length < 3518437208883
       ·rw [if_pos c50] at H
        have LMc50 := Aside0.mk c50
        clear c50
        obtain ⟨y207, hy_⟩ : ∃ y_ : List (S38), y_ = (x5_1 ++ [(⟨t186, t187, (⟨t188, t189⟩ : S36), t190⟩ : S38)]) := ⟨_, rfl⟩
        replace H : (spec_l71Rows.l0 kj8 y207 (wrap64 (x6_1 - 1)) s0_0 x1001_8) = some (r1, r2) := Q78
        have Ny207 := Aside0.mk hy_
        clear hy_
        have H' := Aside0.mk H
        clear H
        have hnb51 := NB192_0.out
        have hnc51 := NB0_192.out
        have hcz52_0 : wc.cell? ⟨gb192, 0, none⟩ = some (.int .i64 t186) := (blk_cell BK192.out 0).trans rfl
        have hcz52_1 : wc.cell? ⟨gb192, 1, none⟩ = some (.int .i64 t187) := (blk_cell BK192.out 1).trans rfl
        have hcz52_2 : wc.cell? ⟨gb192, 2, none⟩ = some (.int .i64 t188) := (blk_cell BK192.out 2).trans rfl
        have hcz52_3 : wc.cell? ⟨gb192, 3, none⟩ = some (.int .i64 t189) := (blk_cell BK192.out 3).trans rfl
        have hcz52_4 : wc.cell? ⟨gb192, 4, none⟩ = some (.int .i64 t190) := (blk_cell BK192.out 4).trans rfl
        have hfz52_0 := blk_frozen BK192.out 0
        have hfz52_1 := blk_frozen BK192.out 1
        have hfz52_2 := blk_frozen BK192.out 2
        have hfz52_3 := blk_frozen BK192.out 3
        have hfz52_4 := blk_frozen BK192.out 4
        go_wp2_with (first | ((with_reducible refine gate_builtin (b := .append) (xs := #[.tmp 48, .tmp 50]) rfl ?_); at_builtin; refine Kd.R_append k38 w.heap.size rfl (.tmp 48) (.tmp 50) 23 38 (.agg #[(.int .i64 0), (.int .i64 0), (.int .i64 0), (.int .i64 0), (.int .i64 0)]) 40 rfl Try.underlying23 info38 rfl Q1 (by omega) u5 x5_1 (⟨t186, t187, (⟨t188, t189⟩ : S36), t190⟩ : S38) [.int .i64 t186, .int .i64 t187, .int .i64 t188, .int .i64 t189, .int .i64 t190] (fun k_ => k_ ≠ gb192) (fun _ => False) rfl rfl ?aP (fun _ hk => hk.elim) ?aF ?aO (Below.refl _ _) ?aS ?aL ?_; (case aP => exact k38_mkM _ _ _ (⟨t186, t187, (⟨t188, t189⟩ : S36), t190⟩ : S38)); (case aF => exact (fun k_ hk => Kd.freshB (g := gb192) (o := .cells #[.int .i64 t186, .int .i64 t187, .int .i64 t188, .int .i64 t189, .int .i64 t190] 38 (0, 0)) Q31 k_ hk)); (case aO => exact Q12); (case aS => exact (keep_size (w := w) (g := g) (row := none) Q62)); (case aL => have := LMc50.out; omega); intro v208 w53 ho hb hg hat; rw [← Ny207.out] at ho; have n0_ := Aside0.mk (blk_grown (g := gb192) (o := .cells #[.int .i64 t186, .int .i64 t187, .int .i64 t188, .int .i64 t189, .int .i64 t190] 38 (0, 0)) Q31 hg (Kd.R_away HO_5.out (fun _ hk => hk))); have n1_ := Aside0.mk (IsS87.grown (show IsS87 w0 _ g s0_0 x1001_8 from by repeat (first | (with_reducible first | exact HI0.out | apply IsS87.alloc | apply IsS87.drewN | apply IsS87.drew | apply IsS87.set_1 | refine IsS87.far ?_ NB0_192.out _) | exact HI0.out)) hg (IsS87.own_ne HI0.out HO_5.out Q1)); have n2_ := Aside0.mk (below_weaken Q73 HL.out hb); have n3_ := Aside0.mk (KeepBut.trans Q62 (KeepBut.of_grown hg g) (Kd.R_base2 HO_5.out)); have n4_ := Aside0.mk (ho); clear BK192; clear HI0; clear HB; clear HK; clear HO_5; have BK192 := n0_; have HI0 := n1_; have HB := n2_; have HK := n3_; have HO209 := n4_; clear n0_ n1_ n2_ n3_ n4_; clear ho hb hg hat))
        go_roundg kj8
        case measure => have := HK1.out; have := HJ8.out; omega
        case rel => exact ⟨(y207), (wrap64 (x6_1 - 1)), (x1001_8), Q6, H', ⟨Q5⟩, ⟨by (with_reducible repeat (first | apply Kd.R_alloc | apply Kd.R_drewN | apply Kd.R_drew)); exact Kd.R_mono HO209.out (fun _ hk => trivial)⟩, ⟨Q66⟩, ⟨Q62⟩, ⟨Q73⟩⟩
       ·rw [if_neg c50] at H
        exact absurd H Q0
   ·rw [if_neg c7] at H
    have c7b0 : decide (0 < x6_1) = false := decide_eq_false c7
    clear c7
    simp only [Option.some.injEq, Prod.mk.injEq] at H
    obtain ⟨rfl, rfl⟩ := H
    go_wp2
    go_ret
    exact ⟨_, Q10, Q12, Q43, Q56, Q42⟩
def spec_l71Spoil.f (k : Nat) (s0_0 : List Int) (s0_1 : Int) (l1 : List (S38)) : Option ((List (S38)) × Int) := (spec_l71Row.f k s0_0 s0_1).bind fun bt210 => ((spec_l6Rd_pick.f k s0_0 bt210.2.2.2.2.2 5).bind fun bt217 => (if bt217.1 = 0 then ((some (([(-1), 4] : List Int) : List Int)).bind fun y219 => ((spec_l6Rd_pick.f k s0_0 bt217.2 2).bind fun bt222 => (if 0 ≤ bt222.1 then (if bt222.1 < (y219.length : Int) then ((some (([] : List (S38)) : List (S38))).bind fun y225 => (if y225.length + l1.length < 3518437208883 then ((some (y225 ++ l1 : List (S38))).bind fun y228 => ((some (([(⟨rd y219 bt222.1, bt210.2.1, (⟨bt210.2.2.1, bt210.2.2.2.1⟩ : S36), bt210.2.2.2.2.1⟩ : S38)] : List (S38)) : List (S38))).bind fun y231 => (if y228.length + y231.length < 3518437208883 then (some ((y228 ++ y231), bt222.2)) else (none)))) else (none))) else (none)) else (none)))) else (if bt217.1 = 1 then ((some (([(-1), 100] : List Int) : List Int)).bind fun y237 => ((spec_l6Rd_pick.f k s0_0 bt217.2 2).bind fun bt240 => (if 0 ≤ bt240.1 then (if bt240.1 < (y237.length : Int) then ((some (([] : List (S38)) : List (S38))).bind fun y243 => (if y243.length + l1.length < 3518437208883 then ((some (y243 ++ l1 : List (S38))).bind fun y246 => ((some (([(⟨bt210.1, rd y237 bt240.1, (⟨bt210.2.2.1, bt210.2.2.2.1⟩ : S36), bt210.2.2.2.2.1⟩ : S38)] : List (S38)) : List (S38))).bind fun y249 => (if y246.length + y249.length < 3518437208883 then (some ((y246 ++ y249), bt240.2)) else (none)))) else (none))) else (none)) else (none)))) else (if bt217.1 = 2 then ((some (([] : List (S38)) : List (S38))).bind fun y255 => (if y255.length + l1.length < 3518437208883 then ((some (y255 ++ l1 : List (S38))).bind fun y258 => ((some (([(⟨bt210.1, bt210.2.1, (⟨(-1), 0⟩ : S36), bt210.2.2.2.2.1⟩ : S38)] : List (S38)) : List (S38))).bind fun y261 => (if y258.length + y261.length < 3518437208883 then (some ((y258 ++ y261), bt217.2)) else (none)))) else (none))) else (if bt217.1 = 3 then ((some (([(-100000), 100000] : List Int) : List Int)).bind fun y267 => ((spec_l6Rd_pick.f k s0_0 bt217.2 2).bind fun bt270 => (if 0 ≤ bt270.1 then (if bt270.1 < (y267.length : Int) then ((some (([] : List (S38)) : List (S38))).bind fun y273 => (if y273.length + l1.length < 3518437208883 then ((some (y273 ++ l1 : List (S38))).bind fun y276 => ((some (([(⟨bt210.1, bt210.2.1, (⟨bt210.2.2.1, bt210.2.2.2.1⟩ : S36), rd y267 bt270.1⟩ : S38)] : List (S38)) : List (S38))).bind fun y279 => (if y276.length + y279.length < 3518437208883 then (some ((y276 ++ y279), bt270.2)) else (none)))) else (none))) else (none)) else (none)))) else ((some (([] : List (S38)) : List (S38))).bind fun y285 => (if y285.length + l1.length < 3518437208883 then ((some (y285 ++ l1 : List (S38))).bind fun y288 => ((some (([(⟨bt210.1, bt210.2.1, (⟨bt210.2.2.1, 8⟩ : S36), bt210.2.2.2.2.1⟩ : S38)] : List (S38)) : List (S38))).bind fun y291 => (if y288.length + y291.length < 3518437208883 then (some ((y288 ++ y291), bt217.2)) else (none)))) else (none))))))))
theorem spec_l71Spoil.mono : ∀ a0 a1 a2 k, LeO (spec_l71Spoil.f k a0 a1 a2) (spec_l71Spoil.f (k + 1) a0 a1 a2) := by
 intro a0 a1 a2 k
 unfold spec_l71Spoil.f
 repeat' first
   | (with_reducible exact spec_l6Rd_pick.mono _ _ _ _)
   | (with_reducible exact spec_l71Row.mono _ _ _)
   | (with_reducible exact LeO.refl _)
   | (with_reducible exact LeO.none _)
   | (with_reducible refine LeO.ite ?_ ?_)
   | (with_reducible refine LeO.bind ?_ (fun _ => ?_))
   | exact spec_l6Rd_pick.mono _ _ _ _
   | exact spec_l71Row.mono _ _ _
   | exact LeO.none _
   | refine LeO.ite ?_ ?_
   | refine LeO.bind ?_ (fun _ => ?_)
set_option maxHeartbeats 8000000 in
set_option maxRecDepth 100000 in
theorem spec_l71Spoil.calls (k : Nat) (g : Nat) (s0_0 : List Int) (s0_1 : Int) (A1 : Option Addr) (c1 : Nat) (l1 : List (S38)) (r1 : List (S38)) (r2 : Int) (w0 w : World) (hI : IsS87 w0 w g s0_0 s0_1) (hB : Below w0.heap.size w0 w) (hr1 : ∀ W_, KeepBut w W_ g none → Kd.C k38 W_ A1 l1.length l1) (hc1 : l1.length ≤ c1) (h : spec_l71Spoil.f k s0_0 s0_1 l1 = some (r1, r2)) :
  Calls Try.prog 81 #[.pointer (some ⟨g, 0, none⟩), .slice A1 l1.length c1] w fun e w' => ∃ v0_ : Value, e = .returned (v0_) ∧ Kd.R k38 38 w' w.heap.size (fun _ => True) v0_ r1 ∧ IsS87 w0 w' g s0_0 r2 ∧ Below w0.heap.size w0 w' ∧ KeepBut w w' g none := by
 have hu38 := Try.underlying38
 have hu36 := Try.underlying36
 have HR1 := Aside0.mk hr1
 have HC1 := Aside0.mk hc1
 clear hr1 hc1
 have HI0 := Aside0.mk hI
 have HK := Aside0.mk (KeepBut.refl w g none)
 have HL := Aside0.mk hB.size
 clear hI
 have HW0 := Aside0.mk hB.size
 have HB := Aside0.mk hB
 clear hB
 have H : ((spec_l71Row.f k s0_0 s0_1).bind fun bt210 => ((spec_l6Rd_pick.f k s0_0 bt210.2.2.2.2.2 5).bind fun bt217 => (if bt217.1 = 0 then ((some (([(-1), 4] : List Int) : List Int)).bind fun y219 => ((spec_l6Rd_pick.f k s0_0 bt217.2 2).bind fun bt222 => (if 0 ≤ bt222.1 then (if bt222.1 < (y219.length : Int) then ((some (([] : List (S38)) : List (S38))).bind fun y225 => (if y225.length + l1.length < 3518437208883 then ((some (y225 ++ l1 : List (S38))).bind fun y228 => ((some (([(⟨rd y219 bt222.1, bt210.2.1, (⟨bt210.2.2.1, bt210.2.2.2.1⟩ : S36), bt210.2.2.2.2.1⟩ : S38)] : List (S38)) : List (S38))).bind fun y231 => (if y228.length + y231.length < 3518437208883 then (some ((y228 ++ y231), bt222.2)) else (none)))) else (none))) else (none)) else (none)))) else (if bt217.1 = 1 then ((some (([(-1), 100] : List Int) : List Int)).bind fun y237 => ((spec_l6Rd_pick.f k s0_0 bt217.2 2).bind fun bt240 => (if 0 ≤ bt240.1 then (if bt240.1 < (y237.length : Int) then ((some (([] : List (S38)) : List (S38))).bind fun y243 => (if y243.length + l1.length < 3518437208883 then ((some (y243 ++ l1 : List (S38))).bind fun y246 => ((some (([(⟨bt210.1, rd y237 bt240.1, (⟨bt210.2.2.1, bt210.2.2.2.1⟩ : S36), bt210.2.2.2.2.1⟩ : S38)] : List (S38)) : List (S38))).bind fun y249 => (if y246.length + y249.length < 3518437208883 then (some ((y246 ++ y249), bt240.2)) else (none)))) else (none))) else (none)) else (none)))) else (if bt217.1 = 2 then ((some (([] : List (S38)) : List (S38))).bind fun y255 => (if y255.length + l1.length < 3518437208883 then ((some (y255 ++ l1 : List (S38))).bind fun y258 => ((some (([(⟨bt210.1, bt210.2.1, (⟨(-1), 0⟩ : S36), bt210.2.2.2.2.1⟩ : S38)] : List (S38)) : List (S38))).bind fun y261 => (if y258.length + y261.length < 3518437208883 then (some ((y258 ++ y261), bt217.2)) else (none)))) else (none))) else (if bt217.1 = 3 then ((some (([(-100000), 100000] : List Int) : List Int)).bind fun y267 => ((spec_l6Rd_pick.f k s0_0 bt217.2 2).bind fun bt270 => (if 0 ≤ bt270.1 then (if bt270.1 < (y267.length : Int) then ((some (([] : List (S38)) : List (S38))).bind fun y273 => (if y273.length + l1.length < 3518437208883 then ((some (y273 ++ l1 : List (S38))).bind fun y276 => ((some (([(⟨bt210.1, bt210.2.1, (⟨bt210.2.2.1, bt210.2.2.2.1⟩ : S36), rd y267 bt270.1⟩ : S38)] : List (S38)) : List (S38))).bind fun y279 => (if y276.length + y279.length < 3518437208883 then (some ((y276 ++ y279), bt270.2)) else (none)))) else (none))) else (none)) else (none)))) else ((some (([] : List (S38)) : List (S38))).bind fun y285 => (if y285.length + l1.length < 3518437208883 then ((some (y285 ++ l1 : List (S38))).bind fun y288 => ((some (([(⟨bt210.1, bt210.2.1, (⟨bt210.2.2.1, 8⟩ : S36), bt210.2.2.2.2.1⟩ : S38)] : List (S38)) : List (S38))).bind fun y291 => (if y288.length + y291.length < 3518437208883 then (some ((y288 ++ y291), bt217.2)) else (none)))) else (none))))))))) = some (r1, r2) := h
 clear h
 replace H := Option.bind_eq_some_iff.mp H
 obtain ⟨⟨t210, t211, t212, t213, t214, t215⟩, A30, H⟩ := H
 replace H : ((spec_l6Rd_pick.f k s0_0 t215 5).bind fun bt217 => (if bt217.1 = 0 then ((some (([(-1), 4] : List Int) : List Int)).bind fun y219 => ((spec_l6Rd_pick.f k s0_0 bt217.2 2).bind fun bt222 => (if 0 ≤ bt222.1 then (if bt222.1 < (y219.length : Int) then ((some (([] : List (S38)) : List (S38))).bind fun y225 => (if y225.length + l1.length < 3518437208883 then ((some (y225 ++ l1 : List (S38))).bind fun y228 => ((some (([(⟨rd y219 bt222.1, t211, (⟨t212, t213⟩ : S36), t214⟩ : S38)] : List (S38)) : List (S38))).bind fun y231 => (if y228.length + y231.length < 3518437208883 then (some ((y228 ++ y231), bt222.2)) else (none)))) else (none))) else (none)) else (none)))) else (if bt217.1 = 1 then ((some (([(-1), 100] : List Int) : List Int)).bind fun y237 => ((spec_l6Rd_pick.f k s0_0 bt217.2 2).bind fun bt240 => (if 0 ≤ bt240.1 then (if bt240.1 < (y237.length : Int) then ((some (([] : List (S38)) : List (S38))).bind fun y243 => (if y243.length + l1.length < 3518437208883 then ((some (y243 ++ l1 : List (S38))).bind fun y246 => ((some (([(⟨t210, rd y237 bt240.1, (⟨t212, t213⟩ : S36), t214⟩ : S38)] : List (S38)) : List (S38))).bind fun y249 => (if y246.length + y249.length < 3518437208883 then (some ((y246 ++ y249), bt240.2)) else (none)))) else (none))) else (none)) else (none)))) else (if bt217.1 = 2 then ((some (([] : List (S38)) : List (S38))).bind fun y255 => (if y255.length + l1.length < 3518437208883 then ((some (y255 ++ l1 : List (S38))).bind fun y258 => ((some (([(⟨t210, t211, (⟨(-1), 0⟩ : S36), t214⟩ : S38)] : List (S38)) : List (S38))).bind fun y261 => (if y258.length + y261.length < 3518437208883 then (some ((y258 ++ y261), bt217.2)) else (none)))) else (none))) else (if bt217.1 = 3 then ((some (([(-100000), 100000] : List Int) : List Int)).bind fun y267 => ((spec_l6Rd_pick.f k s0_0 bt217.2 2).bind fun bt270 => (if 0 ≤ bt270.1 then (if bt270.1 < (y267.length : Int) then ((some (([] : List (S38)) : List (S38))).bind fun y273 => (if y273.length + l1.length < 3518437208883 then ((some (y273 ++ l1 : List (S38))).bind fun y276 => ((some (([(⟨t210, t211, (⟨t212, t213⟩ : S36), rd y267 bt270.1⟩ : S38)] : List (S38)) : List (S38))).bind fun y279 => (if y276.length + y279.length < 3518437208883 then (some ((y276 ++ y279), bt270.2)) else (none)))) else (none))) else (none)) else (none)))) else ((some (([] : List (S38)) : List (S38))).bind fun y285 => (if y285.length + l1.length < 3518437208883 then ((some (y285 ++ l1 : List (S38))).bind fun y288 => ((some (([(⟨t210, t211, (⟨t212, 8⟩ : S36), t214⟩ : S38)] : List (S38)) : List (S38))).bind fun y291 => (if y288.length + y291.length < 3518437208883 then (some ((y288 ++ y291), bt217.2)) else (none)))) else (none)))))))) = some (r1, r2) := H
 have A3 := Aside0.mk A30
 clear A30
 replace H := Option.bind_eq_some_iff.mp H
 obtain ⟨⟨t217, t218⟩, A40, H⟩ := H
 replace H : (if t217 = 0 then ((some (([(-1), 4] : List Int) : List Int)).bind fun y219 => ((spec_l6Rd_pick.f k s0_0 t218 2).bind fun bt222 => (if 0 ≤ bt222.1 then (if bt222.1 < (y219.length : Int) then ((some (([] : List (S38)) : List (S38))).bind fun y225 => (if y225.length + l1.length < 3518437208883 then ((some (y225 ++ l1 : List (S38))).bind fun y228 => ((some (([(⟨rd y219 bt222.1, t211, (⟨t212, t213⟩ : S36), t214⟩ : S38)] : List (S38)) : List (S38))).bind fun y231 => (if y228.length + y231.length < 3518437208883 then (some ((y228 ++ y231), bt222.2)) else (none)))) else (none))) else (none)) else (none)))) else (if t217 = 1 then ((some (([(-1), 100] : List Int) : List Int)).bind fun y237 => ((spec_l6Rd_pick.f k s0_0 t218 2).bind fun bt240 => (if 0 ≤ bt240.1 then (if bt240.1 < (y237.length : Int) then ((some (([] : List (S38)) : List (S38))).bind fun y243 => (if y243.length + l1.length < 3518437208883 then ((some (y243 ++ l1 : List (S38))).bind fun y246 => ((some (([(⟨t210, rd y237 bt240.1, (⟨t212, t213⟩ : S36), t214⟩ : S38)] : List (S38)) : List (S38))).bind fun y249 => (if y246.length + y249.length < 3518437208883 then (some ((y246 ++ y249), bt240.2)) else (none)))) else (none))) else (none)) else (none)))) else (if t217 = 2 then ((some (([] : List (S38)) : List (S38))).bind fun y255 => (if y255.length + l1.length < 3518437208883 then ((some (y255 ++ l1 : List (S38))).bind fun y258 => ((some (([(⟨t210, t211, (⟨(-1), 0⟩ : S36), t214⟩ : S38)] : List (S38)) : List (S38))).bind fun y261 => (if y258.length + y261.length < 3518437208883 then (some ((y258 ++ y261), t218)) else (none)))) else (none))) else (if t217 = 3 then ((some (([(-100000), 100000] : List Int) : List Int)).bind fun y267 => ((spec_l6Rd_pick.f k s0_0 t218 2).bind fun bt270 => (if 0 ≤ bt270.1 then (if bt270.1 < (y267.length : Int) then ((some (([] : List (S38)) : List (S38))).bind fun y273 => (if y273.length + l1.length < 3518437208883 then ((some (y273 ++ l1 : List (S38))).bind fun y276 => ((some (([(⟨t210, t211, (⟨t212, t213⟩ : S36), rd y267 bt270.1⟩ : S38)] : List (S38)) : List (S38))).bind fun y279 => (if y276.length + y279.length < 3518437208883 then (some ((y276 ++ y279), bt270.2)) else (none)))) else (none))) else (none)) else (none)))) else ((some (([] : List (S38)) : List (S38))).bind fun y285 => (if y285.length + l1.length < 3518437208883 then ((some (y285 ++ l1 : List (S38))).bind fun y288 => ((some (([(⟨t210, t211, (⟨t212, 8⟩ : S36), t214⟩ : S38)] : List (S38)) : List (S38))).bind fun y291 => (if y288.length + y291.length < 3518437208883 then (some ((y288 ++ y291), t218)) else (none)))) else (none))))))) = some (r1, r2) := H
 have A4 := Aside0.mk A40
 clear A40
 by_cases c5 : t217 = 0
 case' pos =>
  rw [if_pos c5] at H
  have c5b0 : (t217 == 0) = true := beq_iff_eq.mpr c5
  have c5b1 : (t217 != 0) = false := bne_eq_false_iff_eq.mpr c5
  clear c5
  obtain ⟨y219, hy_⟩ : ∃ y_ : List Int, y_ = (([(-1), 4] : List Int)) := ⟨_, rfl⟩
  replace H : ((spec_l6Rd_pick.f k s0_0 t218 2).bind fun bt222 => (if 0 ≤ bt222.1 then (if bt222.1 < (y219.length : Int) then ((some (([] : List (S38)) : List (S38))).bind fun ya => (if ya.length + l1.length < 3518437208883 then ((some (ya ++ l1 : List (S38))).bind fun yb => ((some (([(⟨rd y219 bt222.1, t211, (⟨t212, t213⟩ : S36), t214⟩ : S38)] : List (S38)) : List (S38))).bind fun yc => (if yb.length + yc.length < 3518437208883 then (some ((yb ++ yc), bt222.2)) else (none)))) else (none))) else (none)) else (none))) = some (r1, r2) := Q78
  have Ny219 := Aside0.mk hy_
  clear hy_
  replace H := Option.bind_eq_some_iff.mp H
  obtain ⟨⟨t222, tp⟩, A60, H⟩ := H
  replace H : (if 0 ≤ t222 then (if t222 < (y219.length : Int) then ((some (([] : List (S38)) : List (S38))).bind fun ya => (if ya.length + l1.length < 3518437208883 then ((some (ya ++ l1 : List (S38))).bind fun yb => ((some (([(⟨rd y219 t222, t211, (⟨t212, t213⟩ : S36), t214⟩ : S38)] : List (S38)) : List (S38))).bind fun yc => (if yb.length + yc.length < 3518437208883 then (some ((yb ++ yc), tp)) else (none)))) else (none))) else (none)) else (none)) = some (r1, r2) := H
  have A6 := Aside0.mk A60
  clear A60
  have c7 : 0 ≤ t222 := Classical.byContradiction fun hn_ => by rw [if_neg hn_] at H; exact absurd H Q0
  rw [if_pos c7] at H
  have c7b0 : decide (0 ≤ t222) = true := decide_eq_true c7
  clear c7
  have c8 : t222 < (y219.length : Int) := Classical.byContradiction fun hn_ => by rw [if_neg hn_] at H; exact absurd H Q0
  rw [if_pos c8] at H
  have c8b0 : decide (t222 < (y219.length : Int)) = true := decide_eq_true c8
  clear c8
  obtain ⟨ya, hya⟩ : ∃ y_ : List (S38), y_ = (([] : List (S38))) := ⟨_, rfl⟩
  replace H : (if ya.length + l1.length < 3518437208883 then ((some (ya ++ l1 : List (S38))).bind fun yb => ((some (([(⟨rd y219 t222, t211, (⟨t212, t213⟩ : S36), t214⟩ : S38)] : List (S38)) : List (S38))).bind fun yc => (if yb.length + yc.length < 3518437208883 then (some ((yb ++ yc), tp)) else (none)))) else (none)) = some (r1, r2) := Q79
  have Nya := Aside0.mk hya
  clear hya
  have c9 : ya.length + l1.length < 3518437208883 := Classical.byContradiction fun hn_ => by rw [if_neg hn_] at H; exact absurd H Q0
  rw [if_pos c9] at H
  have LMca := Aside0.mk c9
  clear c9
  obtain ⟨yb, hyb⟩ : ∃ y_ : List (S38), y_ = (ya ++ l1) := ⟨_, rfl⟩
  replace H : ((some (([(⟨rd y219 t222, t211, (⟨t212, t213⟩ : S36), t214⟩ : S38)] : List (S38)) : List (S38))).bind fun yc => (if yb.length + yc.length < 3518437208883 then (some ((yb ++ yc), tp)) else (none))) = some (r1, r2) := Q80
  have Nyb := Aside0.mk hyb
  clear hyb
  obtain ⟨yc, hyc⟩ : ∃ y_ : List (S38), y_ = (([(⟨rd y219 t222, t211, (⟨t212, t213⟩ : S36), t214⟩ : S38)] : List (S38))) := ⟨_, rfl⟩
  replace H : (if yb.length + yc.length < 3518437208883 then (some ((yb ++ yc), tp)) else (none)) = some (r1, r2) := Q81
  have Nyc := Aside0.mk hyc
  clear hyc
  have c10 : yb.length + yc.length < 3518437208883 := Classical.byContradiction fun hn_ => by rw [if_neg hn_] at H; exact absurd H Q0
  rw [if_pos c10] at H
  have LMcb := Aside0.mk c10
  clear c10
  obtain ⟨yd, hyd⟩ : ∃ y_ : List (S38), y_ = (yb ++ yc) := ⟨_, rfl⟩
  replace H : (some (yd, tp)) = some (r1, r2) := Q82
  have Nyd := Aside0.mk hyd
  clear hyd
  simp only [Option.some.injEq, Prod.mk.injEq] at H
  obtain ⟨rfl, rfl⟩ := H
  go_enter Try.func81, Try.ntmps81
  try go_wp2_with (first | ((with_reducible refine gate_callee (f := 70) rfl ?_); refine goesL_ (some 7) rfl rfl Try.func70 Q2 rfl #[.pointer (some ⟨g, 0, none⟩)] rfl Q39 ?_; (with_reducible refine (spec_l71Row.calls k g s0_0 s0_1 t210 t211 t212 t213 t214 t215 w0 _ ?side1 ?side2 A3.out).mono ?_); (case side1 => exact Q43); (case side2 => exact Q56); rintro e w11 ⟨rfl, hi, hb, hk⟩; refine ⟨_, rfl, ?_⟩; have n0_ := Aside0.mk (KeepBut.trans Q42 hk (.inl rfl)); have n1_ := Aside0.mk (hb); have n2_ := Aside0.mk (hi); clear HK; clear HB; clear HI0; have HK := n0_; have HB := n1_; have HI0 := n2_; clear n0_ n1_ n2_; (try clear hb); (try clear hb2); (try clear hk); (try clear hi)) | ((with_reducible refine gate_dst (N := 5) rfl ?_); refine box_event ?hg (N := 5) ?hd (cs := #[.int .i64 0, .int .i64 0, .int .i64 0, .int .i64 0, .int .i64 0]) (t := 38) ?hr ?_; (case hd => rfl); (case hg => rfl); (case hr => first | (go_simp; done) | (go_simp; rfl)); intro gb216 hg w12 hbox hb; have n0_ := Aside0.mk (IsS87.below Q43 hb); have n1_ := Aside0.mk (KeepBut.trans Q42 (KeepBut.of_below hb g none) (.inl rfl)); have n2_ := Aside0.mk (below_step Q56 hb); have n3_ := Aside0.mk (hbox); have n4_ := Aside0.mk ((Q87 : w.heap.size ≤ gb216)); have n5_ := Aside0.mk ((Nat.le_trans HW0.out (Q87 : w.heap.size ≤ gb216) : w0.heap.size ≤ gb216)); have n6_ := Aside0.mk ((by rw [hg]; exact Nat.ne_of_lt (IsS87.lt (show IsS87 w0 _ g s0_0 t215 from by repeat (first | (with_reducible first | exact HI0.out | apply IsS87.alloc | apply IsS87.drewN | apply IsS87.drew | apply IsS87.set_1) | exact HI0.out))) : g ≠ gb216)); have n7_ := Aside0.mk ((by rw [hg]; exact Nat.ne_of_gt (IsS87.lt (show IsS87 w0 _ g s0_0 t215 from by repeat (first | (with_reducible first | exact HI0.out | apply IsS87.alloc | apply IsS87.drewN | apply IsS87.drew | apply IsS87.set_1) | exact HI0.out))) : gb216 ≠ g)); clear HI0; clear HK; clear HB; have HI0 := n0_; have HK := n1_; have HB := n2_; have BK216 := n3_; have GW216 := n4_; have GE216 := n5_; have NB0_216 := n6_; have NB216_0 := n7_; clear n0_ n1_ n2_ n3_ n4_ n5_ n6_ n7_; clear hb hbox hg; have hnb13 := NB216_0.out; have hnc13 := NB0_216.out; obtain ⟨hcz14_0, hcz14_1, hcz14_2, hcz14_3, hcz14_4, hfz14_0, hfz14_1, hfz14_2, hfz14_3, hfz14_4⟩ := bx5_ BK216) | ((with_reducible refine gate_callee (f := 68) rfl ?_); refine goesL_ (some 9) rfl rfl Try.func68 Q2 rfl #[.pointer (some ⟨g, 0, none⟩), .int .i64 5] rfl Q39 ?_; (with_reducible refine (spec_l6Rd_pick.calls k g s0_0 t215 5 t217 t218 w0 _ ?side1 ?side2 A4.out).mono ?_); (case side1 => exact Q67); (case side2 => exact Q74); rintro e w15 ⟨rfl, hi, hb, hk⟩; refine ⟨_, rfl, ?_⟩; have n0_ := Aside0.mk (KeepBut.blk hk (g' := gb216) (o := .cells #[.int .i64 t210, .int .i64 t211, .int .i64 t212, .int .i64 t213, .int .i64 t214] 38 (0, 0)) Q83 NB216_0.out Q0); have n1_ := Aside0.mk (KeepBut.trans Q63 hk (.inl rfl)); have n2_ := Aside0.mk (hb); have n3_ := Aside0.mk (hi); clear BK216; clear HK; clear HB; clear HI0; have BK216 := n0_; have HK := n1_; have HB := n2_; have HI0 := n3_; clear n0_ n1_ n2_ n3_; (try clear hb); (try clear hb2); (try clear hk); (try clear hi)) | ((with_reducible refine gate_dst (N := 14) rfl ?_); refine Kd.R_lit (Kd.int .i64) _ 3 ?hg (N := 14) ?hd (xs := ([(-1), 4] : List Int)) (inner := [.int .i64 (-1), .int .i64 4]) (ok := fun _ => True) (okp := fun _ => True) ?hr ?hp (fun _ hk => hk) trivial (Below.refl _ _) (Nat.le_refl _) Q0 ?_; (case hd => rfl); (case hg => rfl); (case hr => first | (go_simp; done) | (go_simp; rfl)); (case hp => exact (Reps.one (show Kd.M (Kd.int .i64) _ _ _ (-1) [.int .i64 (-1)] from rfl) (Reps.one (show Kd.M (Kd.int .i64) _ _ _ 4 [.int .i64 4] from rfl) (Reps.none _ _)))); intro v220 w16 ho17 hb hg_ hnew_; clear hg_ hnew_; (first | rw [← Ny219.out] at ho17 | (simp only [Int.reduceToNat] at ho17; rw [← Ny219.out] at ho17)); have n0_ := Aside0.mk (Kd.R_lower ho17 (keep_size (w := w) (g := g) (row := none) Q63)); have n1_ := Aside0.mk (IsS87.below Q67 hb); have n2_ := Aside0.mk (blk_below (g := gb216) (o := .cells #[.int .i64 t210, .int .i64 t211, .int .i64 t212, .int .i64 t213, .int .i64 t214] 38 (0, 0)) Q32 hb); have n3_ := Aside0.mk (KeepBut.trans Q63 (KeepBut.of_below hb g none) (.inl rfl)); have n4_ := Aside0.mk (below_step Q74 hb); clear HI0; clear BK216; clear HK; clear HB; have HO221 := n0_; have HI0 := n1_; have BK216 := n2_; have HK := n3_; have HB := n4_; clear n0_ n1_ n2_ n3_ n4_; clear hb ho17) | ((with_reducible refine gate_callee (f := 68) rfl ?_); refine goesL_ (some 16) rfl rfl Try.func68 Q2 rfl #[.pointer (some ⟨g, 0, none⟩), .int .i64 2] rfl Q39 ?_; (with_reducible refine (spec_l6Rd_pick.calls k g s0_0 t218 2 t222 tp w0 _ ?side1 ?side2 A6.out).mono ?_); (case side1 => exact Q67); (case side2 => exact Q74); rintro e w18 ⟨rfl, hi, hb, hk⟩; refine ⟨_, rfl, ?_⟩; have n0_ := Aside0.mk (KeepBut.blk hk (g' := gb216) (o := .cells #[.int .i64 t210, .int .i64 t211, .int .i64 t212, .int .i64 t213, .int .i64 t214] 38 (0, 0)) Q32 NB216_0.out Q0); have n1_ := Aside0.mk (Kd.R_mono (Kd.R_keep (IsS87.apart (show IsS87 w0 _ g s0_0 t218 from by repeat (first | (with_reducible first | exact HI0.out | apply IsS87.alloc | apply IsS87.drewN | apply IsS87.drew | apply IsS87.set_1 | refine IsS87.far ?_ NB0_216.out _) | exact HI0.out)) (by (with_reducible repeat (first | apply Kd.R_alloc | apply Kd.R_drewN | apply Kd.R_drew)); exact HO221.out) Q1) hk (fun _ h => h.2)) (fun _ h => h.1)); have n2_ := Aside0.mk (KeepBut.trans Q63 hk (.inl rfl)); have n3_ := Aside0.mk (hb); have n4_ := Aside0.mk (hi); clear BK216; clear HO221; clear HK; clear HB; clear HI0; have BK216 := n0_; have HO221 := n1_; have HK := n2_; have HB := n3_; have HI0 := n4_; clear n0_ n1_ n2_ n3_ n4_; (try clear hb); (try clear hb2); (try clear hk); (try clear hi); obtain ⟨Ao19, co19, eo19⟩ := Kd.R_slice HO221.out; subst eo19; have p224 : 0 ≤ (t222 : Int) := of_decide_eq_true Q7; have q224 : t222 < (y219.length : Int) := of_decide_eq_true Q7; obtain ⟨ad224, e224, hx224_0⟩ := Kd.at_int (Kd.R_reads' HO221.out).2.2 t222 p224 q224; cases e224; replace p224 := eq_true p224; replace q224 := eq_true q224; obtain ⟨hcz20_0, hcz20_1, hcz20_2, hcz20_3, hcz20_4, hfz20_0, hfz20_1, hfz20_2, hfz20_3, hfz20_4⟩ := bx5_ BK216))
  have n0_ : Aside0 (Kd.R (Kd.int .i64) 3 (w18.setCell ⟨gb216, 0, none⟩ (.int .i64 (rd y219 t222))) w.heap.size (fun _ => True) (.slice (some ad224) y219.length co19) y219) := ⟨by (with_reducible repeat (first | apply Kd.R_alloc | apply Kd.R_drewN | apply Kd.R_drew)); exact Kd.R_mono (Kd.R_far (p := ⟨gb216, 0, none⟩) (Kd.R_types HO221.out BK216.out Q1) (fun _ hk => hk.2) (.int .i64 (rd y219 t222))) (fun _ hk => trivial)⟩
  have n1_ : Aside0 ((w18.setCell ⟨gb216, 0, none⟩ (.int .i64 (rd y219 t222))).heap[gb216]? = some (.cells #[.int .i64 (rd y219 t222), .int .i64 t211, .int .i64 t212, .int .i64 t213, .int .i64 t214] 38 (0, 0))) := ⟨by (with_reducible repeat (first | refine blk_drewN ?_ _ | refine blk_drew ?_ | refine blk_alloc ?_ _)); refine blk_put (cs := #[.int .i64 t210, .int .i64 t211, .int .i64 t212, .int .i64 t213, .int .i64 t214]) ?_ 0 _ rfl; (with_reducible repeat (first | refine blk_drewN ?_ _ | refine blk_drew ?_ | refine blk_alloc ?_ _)); exact BK216.out⟩
  have n2_ : Aside0 (IsS87 w0 (w18.setCell ⟨gb216, 0, none⟩ (.int .i64 (rd y219 t222))) g s0_0 tp) := ⟨Q67⟩
  have n3_ : Aside0 (KeepBut w (w18.setCell ⟨gb216, 0, none⟩ (.int .i64 (rd y219 t222))) g none) := ⟨Q63⟩
  have n4_ : Aside0 (Below w0.heap.size w0 (w18.setCell ⟨gb216, 0, none⟩ (.int .i64 (rd y219 t222)))) := ⟨Q74⟩
  (try clear HO221)
  (try clear BK216)
  (try clear HI0)
  (try clear HK)
  (try clear HB)
  generalize (w18.setCell ⟨gb216, 0, none⟩ (.int .i64 (rd y219 t222))) = wT at n0_ n1_ n2_ n3_ n4_ ⊢
  have HO221 := n0_
  have BK216 := n1_
  have HI0 := n2_
  have HK := n3_
  have HB := n4_
  clear n0_ n1_ n2_ n3_ n4_
  clear HO221
  obtain ⟨e0, e1, e2, e3, e4, hE, BKE⟩ : ∃ e0 e1 e2 e3 e4 : Int, (⟨e0, e1, ⟨e2, e3⟩, e4⟩ : S38) = ⟨(rd y219 t222), t211, ⟨t212, t213⟩, t214⟩ ∧ Aside0 (wT.heap[gb216]? = some (.cells #[.int .i64 e0, .int .i64 e1, .int .i64 e2, .int .i64 e3, .int .i64 e4] 38 (0, 0))) := ⟨_, _, _, _, _, rfl, BK216⟩
  clear BK216; have BK216 := BKE; clear BKE
  have Ny_ := Aside0.mk (Nyc.out.trans (congrArg (fun z : S38 => [z]) hE.symm)); clear Nyc; have Nyc := Ny_; clear Ny_ hE
 case' neg =>
  rw [if_neg c5] at H
  have c5b0 : (t217 == 0) = false := beq_eq_false_iff_ne.mpr c5
  have c5b1 : (t217 != 0) = true := bne_iff_ne.mpr c5
  by_cases c31 : t217 = 1
  case' pos =>
   rw [if_pos c31] at H
   have c31b0 : (t217 == 1) = true := beq_iff_eq.mpr c31
   have c31b1 : (t217 != 1) = false := bne_eq_false_iff_eq.mpr c31
   clear c31
   obtain ⟨y237, hy_⟩ : ∃ y_ : List Int, y_ = (([(-1), 100] : List Int)) := ⟨_, rfl⟩
   replace H : ((spec_l6Rd_pick.f k s0_0 t218 2).bind fun bt240 => (if 0 ≤ bt240.1 then (if bt240.1 < (y237.length : Int) then ((some (([] : List (S38)) : List (S38))).bind fun ya => (if ya.length + l1.length < 3518437208883 then ((some (ya ++ l1 : List (S38))).bind fun yb => ((some (([(⟨t210, rd y237 bt240.1, (⟨t212, t213⟩ : S36), t214⟩ : S38)] : List (S38)) : List (S38))).bind fun yc => (if yb.length + yc.length < 3518437208883 then (some ((yb ++ yc), bt240.2)) else (none)))) else (none))) else (none)) else (none))) = some (r1, r2) := Q78
   have Ny237 := Aside0.mk hy_
   clear hy_
   replace H := Option.bind_eq_some_iff.mp H
   obtain ⟨⟨t240, tp⟩, A320, H⟩ := H
   replace H : (if 0 ≤ t240 then (if t240 < (y237.length : Int) then ((some (([] : List (S38)) : List (S38))).bind fun ya => (if ya.length + l1.length < 3518437208883 then ((some (ya ++ l1 : List (S38))).bind fun yb => ((some (([(⟨t210, rd y237 t240, (⟨t212, t213⟩ : S36), t214⟩ : S38)] : List (S38)) : List (S38))).bind fun yc => (if yb.length + yc.length < 3518437208883 then (some ((yb ++ yc), tp)) else (none)))) else (none))) else (none)) else (none)) = some (r1, r2) := H
   have A32 := Aside0.mk A320
   clear A320
   have c33 : 0 ≤ t240 := Classical.byContradiction fun hn_ => by rw [if_neg hn_] at H; exact absurd H Q0
   rw [if_pos c33] at H
   have c33b0 : decide (0 ≤ t240) = true := decide_eq_true c33
   clear c33
   have c34 : t240 < (y237.length : Int) := Classical.byContradiction fun hn_ => by rw [if_neg hn_] at H; exact absurd H Q0
   rw [if_pos c34] at H
   have c34b0 : decide (t240 < (y237.length : Int)) = true := decide_eq_true c34
   clear c34
   obtain ⟨ya, hya⟩ : ∃ y_ : List (S38), y_ = (([] : List (S38))) := ⟨_, rfl⟩
   replace H : (if ya.length + l1.length < 3518437208883 then ((some (ya ++ l1 : List (S38))).bind fun yb => ((some (([(⟨t210, rd y237 t240, (⟨t212, t213⟩ : S36), t214⟩ : S38)] : List (S38)) : List (S38))).bind fun yc => (if yb.length + yc.length < 3518437208883 then (some ((yb ++ yc), tp)) else (none)))) else (none)) = some (r1, r2) := Q79
   have Nya := Aside0.mk hya
   clear hya
   have c35 : ya.length + l1.length < 3518437208883 := Classical.byContradiction fun hn_ => by rw [if_neg hn_] at H; exact absurd H Q0
   rw [if_pos c35] at H
   have LMca := Aside0.mk c35
   clear c35
   obtain ⟨yb, hyb⟩ : ∃ y_ : List (S38), y_ = (ya ++ l1) := ⟨_, rfl⟩
   replace H : ((some (([(⟨t210, rd y237 t240, (⟨t212, t213⟩ : S36), t214⟩ : S38)] : List (S38)) : List (S38))).bind fun yc => (if yb.length + yc.length < 3518437208883 then (some ((yb ++ yc), tp)) else (none))) = some (r1, r2) := Q80
   have Nyb := Aside0.mk hyb
   clear hyb
   obtain ⟨yc, hyc⟩ : ∃ y_ : List (S38), y_ = (([(⟨t210, rd y237 t240, (⟨t212, t213⟩ : S36), t214⟩ : S38)] : List (S38))) := ⟨_, rfl⟩
   replace H : (if yb.length + yc.length < 3518437208883 then (some ((yb ++ yc), tp)) else (none)) = some (r1, r2) := Q81
   have Nyc := Aside0.mk hyc
   clear hyc
   have c36 : yb.length + yc.length < 3518437208883 := Classical.byContradiction fun hn_ => by rw [if_neg hn_] at H; exact absurd H Q0
   rw [if_pos c36] at H
   have LMcb := Aside0.mk c36
   clear c36
   obtain ⟨yd, hyd⟩ : ∃ y_ : List (S38), y_ = (yb ++ yc) := ⟨_, rfl⟩
   replace H : (some (yd, tp)) = some (r1, r2) := Q82
   have Nyd := Aside0.mk hyd
   clear hyd
   simp only [Option.some.injEq, Prod.mk.injEq] at H
   obtain ⟨rfl, rfl⟩ := H
   go_enter Try.func81, Try.ntmps81
   try go_wp2_with (first | ((with_reducible refine gate_callee (f := 70) rfl ?_); refine goesL_ (some 7) rfl rfl Try.func70 Q2 rfl #[.pointer (some ⟨g, 0, none⟩)] rfl Q39 ?_; (with_reducible refine (spec_l71Row.calls k g s0_0 s0_1 t210 t211 t212 t213 t214 t215 w0 _ ?side1 ?side2 A3.out).mono ?_); (case side1 => exact Q43); (case side2 => exact Q56); rintro e w37 ⟨rfl, hi, hb, hk⟩; refine ⟨_, rfl, ?_⟩; have n0_ := Aside0.mk (KeepBut.trans Q42 hk (.inl rfl)); have n1_ := Aside0.mk (hb); have n2_ := Aside0.mk (hi); clear HK; clear HB; clear HI0; have HK := n0_; have HB := n1_; have HI0 := n2_; clear n0_ n1_ n2_; (try clear hb); (try clear hb2); (try clear hk); (try clear hi)) | ((with_reducible refine gate_dst (N := 5) rfl ?_); refine box_event ?hg (N := 5) ?hd (cs := #[.int .i64 0, .int .i64 0, .int .i64 0, .int .i64 0, .int .i64 0]) (t := 38) ?hr ?_; (case hd => rfl); (case hg => rfl); (case hr => first | (go_simp; done) | (go_simp; rfl)); intro gb216 hg w38 hbox hb; have n0_ := Aside0.mk (IsS87.below Q43 hb); have n1_ := Aside0.mk (KeepBut.trans Q42 (KeepBut.of_below hb g none) (.inl rfl)); have n2_ := Aside0.mk (below_step Q56 hb); have n3_ := Aside0.mk (hbox); have n4_ := Aside0.mk ((Q87 : w.heap.size ≤ gb216)); have n5_ := Aside0.mk ((Nat.le_trans HW0.out (Q87 : w.heap.size ≤ gb216) : w0.heap.size ≤ gb216)); have n6_ := Aside0.mk ((by rw [hg]; exact Nat.ne_of_lt (IsS87.lt (show IsS87 w0 _ g s0_0 t215 from by repeat (first | (with_reducible first | exact HI0.out | apply IsS87.alloc | apply IsS87.drewN | apply IsS87.drew | apply IsS87.set_1) | exact HI0.out))) : g ≠ gb216)); have n7_ := Aside0.mk ((by rw [hg]; exact Nat.ne_of_gt (IsS87.lt (show IsS87 w0 _ g s0_0 t215 from by repeat (first | (with_reducible first | exact HI0.out | apply IsS87.alloc | apply IsS87.drewN | apply IsS87.drew | apply IsS87.set_1) | exact HI0.out))) : gb216 ≠ g)); clear HI0; clear HK; clear HB; have HI0 := n0_; have HK := n1_; have HB := n2_; have BK216 := n3_; have GW216 := n4_; have GE216 := n5_; have NB0_216 := n6_; have NB216_0 := n7_; clear n0_ n1_ n2_ n3_ n4_ n5_ n6_ n7_; clear hb hbox hg; have hnb39 := NB216_0.out; have hnc39 := NB0_216.out; obtain ⟨hcz40_0, hcz40_1, hcz40_2, hcz40_3, hcz40_4, hfz40_0, hfz40_1, hfz40_2, hfz40_3, hfz40_4⟩ := bx5_ BK216) | ((with_reducible refine gate_callee (f := 68) rfl ?_); refine goesL_ (some 9) rfl rfl Try.func68 Q2 rfl #[.pointer (some ⟨g, 0, none⟩), .int .i64 5] rfl Q39 ?_; (with_reducible refine (spec_l6Rd_pick.calls k g s0_0 t215 5 t217 t218 w0 _ ?side1 ?side2 A4.out).mono ?_); (case side1 => exact Q67); (case side2 => exact Q74); rintro e w41 ⟨rfl, hi, hb, hk⟩; refine ⟨_, rfl, ?_⟩; have n0_ := Aside0.mk (KeepBut.blk hk (g' := gb216) (o := .cells #[.int .i64 t210, .int .i64 t211, .int .i64 t212, .int .i64 t213, .int .i64 t214] 38 (0, 0)) Q83 NB216_0.out Q0); have n1_ := Aside0.mk (KeepBut.trans Q63 hk (.inl rfl)); have n2_ := Aside0.mk (hb); have n3_ := Aside0.mk (hi); clear BK216; clear HK; clear HB; clear HI0; have BK216 := n0_; have HK := n1_; have HB := n2_; have HI0 := n3_; clear n0_ n1_ n2_ n3_; (try clear hb); (try clear hb2); (try clear hk); (try clear hi)) | ((with_reducible refine gate_dst (N := 22) rfl ?_); refine Kd.R_lit (Kd.int .i64) _ 3 ?hg (N := 22) ?hd (xs := ([(-1), 100] : List Int)) (inner := [.int .i64 (-1), .int .i64 100]) (ok := fun _ => True) (okp := fun _ => True) ?hr ?hp (fun _ hk => hk) trivial (Below.refl _ _) (Nat.le_refl _) Q0 ?_; (case hd => rfl); (case hg => rfl); (case hr => first | (go_simp; done) | (go_simp; rfl)); (case hp => exact (Reps.one (show Kd.M (Kd.int .i64) _ _ _ (-1) [.int .i64 (-1)] from rfl) (Reps.one (show Kd.M (Kd.int .i64) _ _ _ 100 [.int .i64 100] from rfl) (Reps.none _ _)))); intro v238 w42 ho43 hb hg_ hnew_; clear hg_ hnew_; (first | rw [← Ny237.out] at ho43 | (simp only [Int.reduceToNat] at ho43; rw [← Ny237.out] at ho43)); have n0_ := Aside0.mk (Kd.R_lower ho43 (keep_size (w := w) (g := g) (row := none) Q63)); have n1_ := Aside0.mk (IsS87.below Q67 hb); have n2_ := Aside0.mk (blk_below (g := gb216) (o := .cells #[.int .i64 t210, .int .i64 t211, .int .i64 t212, .int .i64 t213, .int .i64 t214] 38 (0, 0)) Q32 hb); have n3_ := Aside0.mk (KeepBut.trans Q63 (KeepBut.of_below hb g none) (.inl rfl)); have n4_ := Aside0.mk (below_step Q74 hb); clear HI0; clear BK216; clear HK; clear HB; have HO239 := n0_; have HI0 := n1_; have BK216 := n2_; have HK := n3_; have HB := n4_; clear n0_ n1_ n2_ n3_ n4_; clear hb ho43) | ((with_reducible refine gate_callee (f := 68) rfl ?_); refine goesL_ (some 24) rfl rfl Try.func68 Q2 rfl #[.pointer (some ⟨g, 0, none⟩), .int .i64 2] rfl Q39 ?_; (with_reducible refine (spec_l6Rd_pick.calls k g s0_0 t218 2 t240 tp w0 _ ?side1 ?side2 A32.out).mono ?_); (case side1 => exact Q67); (case side2 => exact Q74); rintro e w44 ⟨rfl, hi, hb, hk⟩; refine ⟨_, rfl, ?_⟩; have n0_ := Aside0.mk (KeepBut.blk hk (g' := gb216) (o := .cells #[.int .i64 t210, .int .i64 t211, .int .i64 t212, .int .i64 t213, .int .i64 t214] 38 (0, 0)) Q32 NB216_0.out Q0); have n1_ := Aside0.mk (Kd.R_mono (Kd.R_keep (IsS87.apart (show IsS87 w0 _ g s0_0 t218 from by repeat (first | (with_reducible first | exact HI0.out | apply IsS87.alloc | apply IsS87.drewN | apply IsS87.drew | apply IsS87.set_1 | refine IsS87.far ?_ NB0_216.out _) | exact HI0.out)) (by (with_reducible repeat (first | apply Kd.R_alloc | apply Kd.R_drewN | apply Kd.R_drew)); exact HO239.out) Q1) hk (fun _ h => h.2)) (fun _ h => h.1)); have n2_ := Aside0.mk (KeepBut.trans Q63 hk (.inl rfl)); have n3_ := Aside0.mk (hb); have n4_ := Aside0.mk (hi); clear BK216; clear HO239; clear HK; clear HB; clear HI0; have BK216 := n0_; have HO239 := n1_; have HK := n2_; have HB := n3_; have HI0 := n4_; clear n0_ n1_ n2_ n3_ n4_; (try clear hb); (try clear hb2); (try clear hk); (try clear hi); obtain ⟨Ao45, co45, eo45⟩ := Kd.R_slice HO239.out; subst eo45; have p242 : 0 ≤ (t240 : Int) := of_decide_eq_true Q7; have q242 : t240 < (y237.length : Int) := of_decide_eq_true Q7; obtain ⟨ad242, e242, hx242_0⟩ := Kd.at_int (Kd.R_reads' HO239.out).2.2 t240 p242 q242; cases e242; replace p242 := eq_true p242; replace q242 := eq_true q242; obtain ⟨hcz46_0, hcz46_1, hcz46_2, hcz46_3, hcz46_4, hfz46_0, hfz46_1, hfz46_2, hfz46_3, hfz46_4⟩ := bx5_ BK216))
   have n0_ : Aside0 (Kd.R (Kd.int .i64) 3 (w44.setCell ⟨gb216, 1, none⟩ (.int .i64 (rd y237 t240))) w.heap.size (fun _ => True) (.slice (some ad242) y237.length co45) y237) := ⟨by (with_reducible repeat (first | apply Kd.R_alloc | apply Kd.R_drewN | apply Kd.R_drew)); exact Kd.R_mono (Kd.R_far (p := ⟨gb216, 1, none⟩) (Kd.R_types HO239.out BK216.out Q1) (fun _ hk => hk.2) (.int .i64 (rd y237 t240))) (fun _ hk => trivial)⟩
   have n1_ : Aside0 ((w44.setCell ⟨gb216, 1, none⟩ (.int .i64 (rd y237 t240))).heap[gb216]? = some (.cells #[.int .i64 t210, .int .i64 (rd y237 t240), .int .i64 t212, .int .i64 t213, .int .i64 t214] 38 (0, 0))) := ⟨by (with_reducible repeat (first | refine blk_drewN ?_ _ | refine blk_drew ?_ | refine blk_alloc ?_ _)); refine blk_put (cs := #[.int .i64 t210, .int .i64 t211, .int .i64 t212, .int .i64 t213, .int .i64 t214]) ?_ 1 _ rfl; (with_reducible repeat (first | refine blk_drewN ?_ _ | refine blk_drew ?_ | refine blk_alloc ?_ _)); exact BK216.out⟩
   have n2_ : Aside0 (IsS87 w0 (w44.setCell ⟨gb216, 1, none⟩ (.int .i64 (rd y237 t240))) g s0_0 tp) := ⟨Q67⟩
   have n3_ : Aside0 (KeepBut w (w44.setCell ⟨gb216, 1, none⟩ (.int .i64 (rd y237 t240))) g none) := ⟨Q63⟩
   have n4_ : Aside0 (Below w0.heap.size w0 (w44.setCell ⟨gb216, 1, none⟩ (.int .i64 (rd y237 t240)))) := ⟨Q74⟩
   (try clear HO239)
   (try clear BK216)
   (try clear HI0)
   (try clear HK)
   (try clear HB)
   generalize (w44.setCell ⟨gb216, 1, none⟩ (.int .i64 (rd y237 t240))) = wT at n0_ n1_ n2_ n3_ n4_ ⊢
   have HO239 := n0_
   have BK216 := n1_
   have HI0 := n2_
   have HK := n3_
   have HB := n4_
   clear n0_ n1_ n2_ n3_ n4_
   clear HO239
   obtain ⟨e0, e1, e2, e3, e4, hE, BKE⟩ : ∃ e0 e1 e2 e3 e4 : Int, (⟨e0, e1, ⟨e2, e3⟩, e4⟩ : S38) = ⟨t210, (rd y237 t240), ⟨t212, t213⟩, t214⟩ ∧ Aside0 (wT.heap[gb216]? = some (.cells #[.int .i64 e0, .int .i64 e1, .int .i64 e2, .int .i64 e3, .int .i64 e4] 38 (0, 0))) := ⟨_, _, _, _, _, rfl, BK216⟩
   clear BK216; have BK216 := BKE; clear BKE
   have Ny_ := Aside0.mk (Nyc.out.trans (congrArg (fun z : S38 => [z]) hE.symm)); clear Nyc; have Nyc := Ny_; clear Ny_ hE
  case' neg =>
   rw [if_neg c31] at H
   have c31b0 : (t217 == 1) = false := beq_eq_false_iff_ne.mpr c31
   have c31b1 : (t217 != 1) = true := bne_iff_ne.mpr c31
   by_cases c57 : t217 = 2
   case' pos =>
    rw [if_pos c57] at H
    have c57b0 : (t217 == 2) = true := beq_iff_eq.mpr c57
    have c57b1 : (t217 != 2) = false := bne_eq_false_iff_eq.mpr c57
    clear c57
    obtain ⟨ya, hya⟩ : ∃ y_ : List (S38), y_ = (([] : List (S38))) := ⟨_, rfl⟩
    replace H : (if ya.length + l1.length < 3518437208883 then ((some (ya ++ l1 : List (S38))).bind fun yb => ((some (([(⟨t210, t211, (⟨(-1), 0⟩ : S36), t214⟩ : S38)] : List (S38)) : List (S38))).bind fun yc => (if yb.length + yc.length < 3518437208883 then (some ((yb ++ yc), t218)) else (none)))) else (none)) = some (r1, r2) := Q79
    have Nya := Aside0.mk hya
    clear hya
    have c58 : ya.length + l1.length < 3518437208883 := Classical.byContradiction fun hn_ => by rw [if_neg hn_] at H; exact absurd H Q0
    rw [if_pos c58] at H
    have LMca := Aside0.mk c58
    clear c58
    obtain ⟨yb, hyb⟩ : ∃ y_ : List (S38), y_ = (ya ++ l1) := ⟨_, rfl⟩
    replace H : ((some (([(⟨t210, t211, (⟨(-1), 0⟩ : S36), t214⟩ : S38)] : List (S38)) : List (S38))).bind fun yc => (if yb.length + yc.length < 3518437208883 then (some ((yb ++ yc), t218)) else (none))) = some (r1, r2) := Q80
    have Nyb := Aside0.mk hyb
    clear hyb
    obtain ⟨yc, hyc⟩ : ∃ y_ : List (S38), y_ = (([(⟨t210, t211, (⟨(-1), 0⟩ : S36), t214⟩ : S38)] : List (S38))) := ⟨_, rfl⟩
    replace H : (if yb.length + yc.length < 3518437208883 then (some ((yb ++ yc), t218)) else (none)) = some (r1, r2) := Q81
    have Nyc := Aside0.mk hyc
    clear hyc
    have c59 : yb.length + yc.length < 3518437208883 := Classical.byContradiction fun hn_ => by rw [if_neg hn_] at H; exact absurd H Q0
    rw [if_pos c59] at H
    have LMcb := Aside0.mk c59
    clear c59
    obtain ⟨yd, hyd⟩ : ∃ y_ : List (S38), y_ = (yb ++ yc) := ⟨_, rfl⟩
    replace H : (some (yd, t218)) = some (r1, r2) := Q82
    have Nyd := Aside0.mk hyd
    clear hyd
    simp only [Option.some.injEq, Prod.mk.injEq] at H
    obtain ⟨rfl, rfl⟩ := H
    go_enter Try.func81, Try.ntmps81
    try go_wp2_with (first | ((with_reducible refine gate_callee (f := 70) rfl ?_); refine goesL_ (some 7) rfl rfl Try.func70 Q2 rfl #[.pointer (some ⟨g, 0, none⟩)] rfl Q39 ?_; (with_reducible refine (spec_l71Row.calls k g s0_0 s0_1 t210 t211 t212 t213 t214 t215 w0 _ ?side1 ?side2 A3.out).mono ?_); (case side1 => exact Q43); (case side2 => exact Q56); rintro e w60 ⟨rfl, hi, hb, hk⟩; refine ⟨_, rfl, ?_⟩; have n0_ := Aside0.mk (KeepBut.trans Q42 hk (.inl rfl)); have n1_ := Aside0.mk (hb); have n2_ := Aside0.mk (hi); clear HK; clear HB; clear HI0; have HK := n0_; have HB := n1_; have HI0 := n2_; clear n0_ n1_ n2_; (try clear hb); (try clear hb2); (try clear hk); (try clear hi)) | ((with_reducible refine gate_dst (N := 5) rfl ?_); refine box_event ?hg (N := 5) ?hd (cs := #[.int .i64 0, .int .i64 0, .int .i64 0, .int .i64 0, .int .i64 0]) (t := 38) ?hr ?_; (case hd => rfl); (case hg => rfl); (case hr => first | (go_simp; done) | (go_simp; rfl)); intro gb216 hg w61 hbox hb; have n0_ := Aside0.mk (IsS87.below Q43 hb); have n1_ := Aside0.mk (KeepBut.trans Q42 (KeepBut.of_below hb g none) (.inl rfl)); have n2_ := Aside0.mk (below_step Q56 hb); have n3_ := Aside0.mk (hbox); have n4_ := Aside0.mk ((Q87 : w.heap.size ≤ gb216)); have n5_ := Aside0.mk ((Nat.le_trans HW0.out (Q87 : w.heap.size ≤ gb216) : w0.heap.size ≤ gb216)); have n6_ := Aside0.mk ((by rw [hg]; exact Nat.ne_of_lt (IsS87.lt (show IsS87 w0 _ g s0_0 t215 from by repeat (first | (with_reducible first | exact HI0.out | apply IsS87.alloc | apply IsS87.drewN | apply IsS87.drew | apply IsS87.set_1) | exact HI0.out))) : g ≠ gb216)); have n7_ := Aside0.mk ((by rw [hg]; exact Nat.ne_of_gt (IsS87.lt (show IsS87 w0 _ g s0_0 t215 from by repeat (first | (with_reducible first | exact HI0.out | apply IsS87.alloc | apply IsS87.drewN | apply IsS87.drew | apply IsS87.set_1) | exact HI0.out))) : gb216 ≠ g)); clear HI0; clear HK; clear HB; have HI0 := n0_; have HK := n1_; have HB := n2_; have BK216 := n3_; have GW216 := n4_; have GE216 := n5_; have NB0_216 := n6_; have NB216_0 := n7_; clear n0_ n1_ n2_ n3_ n4_ n5_ n6_ n7_; clear hb hbox hg; have hnb62 := NB216_0.out; have hnc62 := NB0_216.out; obtain ⟨hcz63_0, hcz63_1, hcz63_2, hcz63_3, hcz63_4, hfz63_0, hfz63_1, hfz63_2, hfz63_3, hfz63_4⟩ := bx5_ BK216) | ((with_reducible refine gate_callee (f := 68) rfl ?_); refine goesL_ (some 9) rfl rfl Try.func68 Q2 rfl #[.pointer (some ⟨g, 0, none⟩), .int .i64 5] rfl Q39 ?_; (with_reducible refine (spec_l6Rd_pick.calls k g s0_0 t215 5 t217 t218 w0 _ ?side1 ?side2 A4.out).mono ?_); (case side1 => exact Q67); (case side2 => exact Q74); rintro e w64 ⟨rfl, hi, hb, hk⟩; refine ⟨_, rfl, ?_⟩; have n0_ := Aside0.mk (KeepBut.blk hk (g' := gb216) (o := .cells #[.int .i64 t210, .int .i64 t211, .int .i64 t212, .int .i64 t213, .int .i64 t214] 38 (0, 0)) Q83 NB216_0.out Q0); have n1_ := Aside0.mk (KeepBut.trans Q63 hk (.inl rfl)); have n2_ := Aside0.mk (hb); have n3_ := Aside0.mk (hi); clear BK216; clear HK; clear HB; clear HI0; have BK216 := n0_; have HK := n1_; have HB := n2_; have HI0 := n3_; clear n0_ n1_ n2_ n3_; (try clear hb); (try clear hb2); (try clear hk); (try clear hi); obtain ⟨hcz65_0, hcz65_1, hcz65_2, hcz65_3, hcz65_4, hfz65_0, hfz65_1, hfz65_2, hfz65_3, hfz65_4⟩ := bx5_ BK216))
    have n0_ : Aside0 (((w64.setCell ⟨gb216, 2, none⟩ (.int .i64 (-1))).setCell ⟨gb216, 3, none⟩ (.int .i64 0)).heap[gb216]? = some (.cells #[.int .i64 t210, .int .i64 t211, .int .i64 (-1), .int .i64 0, .int .i64 t214] 38 (0, 0))) := ⟨by (with_reducible repeat (first | refine blk_drewN ?_ _ | refine blk_drew ?_ | refine blk_alloc ?_ _)); refine blk_put (cs := #[.int .i64 t210, .int .i64 t211, .int .i64 (-1), .int .i64 t213, .int .i64 t214]) ?_ 3 _ rfl; (with_reducible repeat (first | refine blk_drewN ?_ _ | refine blk_drew ?_ | refine blk_alloc ?_ _)); refine blk_put (cs := #[.int .i64 t210, .int .i64 t211, .int .i64 t212, .int .i64 t213, .int .i64 t214]) ?_ 2 _ rfl; (with_reducible repeat (first | refine blk_drewN ?_ _ | refine blk_drew ?_ | refine blk_alloc ?_ _)); exact BK216.out⟩
    have n1_ : Aside0 (IsS87 w0 ((w64.setCell ⟨gb216, 2, none⟩ (.int .i64 (-1))).setCell ⟨gb216, 3, none⟩ (.int .i64 0)) g s0_0 t218) := ⟨Q67⟩
    have n2_ : Aside0 (KeepBut w ((w64.setCell ⟨gb216, 2, none⟩ (.int .i64 (-1))).setCell ⟨gb216, 3, none⟩ (.int .i64 0)) g none) := ⟨Q63⟩
    have n3_ : Aside0 (Below w0.heap.size w0 ((w64.setCell ⟨gb216, 2, none⟩ (.int .i64 (-1))).setCell ⟨gb216, 3, none⟩ (.int .i64 0))) := ⟨Q74⟩
    (try clear BK216)
    (try clear HI0)
    (try clear HK)
    (try clear HB)
    generalize ((w64.setCell ⟨gb216, 2, none⟩ (.int .i64 (-1))).setCell ⟨gb216, 3, none⟩ (.int .i64 0)) = wT at n0_ n1_ n2_ n3_ ⊢
    have BK216 := n0_
    have HI0 := n1_
    have HK := n2_
    have HB := n3_
    clear n0_ n1_ n2_ n3_
    obtain ⟨tp, hT_⟩ : ∃ tp, tp = t218 := ⟨_, rfl⟩; subst hT_
    obtain ⟨e0, e1, e2, e3, e4, hE, BKE⟩ : ∃ e0 e1 e2 e3 e4 : Int, (⟨e0, e1, ⟨e2, e3⟩, e4⟩ : S38) = ⟨t210, t211, ⟨(-1), 0⟩, t214⟩ ∧ Aside0 (wT.heap[gb216]? = some (.cells #[.int .i64 e0, .int .i64 e1, .int .i64 e2, .int .i64 e3, .int .i64 e4] 38 (0, 0))) := ⟨_, _, _, _, _, rfl, BK216⟩
    clear BK216; have BK216 := BKE; clear BKE
    have Ny_ := Aside0.mk (Nyc.out.trans (congrArg (fun z : S38 => [z]) hE.symm)); clear Nyc; have Nyc := Ny_; clear Ny_ hE
   case' neg =>
    rw [if_neg c57] at H
    have c57b0 : (t217 == 2) = false := beq_eq_false_iff_ne.mpr c57
    have c57b1 : (t217 != 2) = true := bne_iff_ne.mpr c57
    by_cases c76 : t217 = 3
    case' pos =>
     rw [if_pos c76] at H
     have c76b0 : (t217 == 3) = true := beq_iff_eq.mpr c76
     have c76b1 : (t217 != 3) = false := bne_eq_false_iff_eq.mpr c76
     clear c76
     obtain ⟨y267, hy_⟩ : ∃ y_ : List Int, y_ = (([(-100000), 100000] : List Int)) := ⟨_, rfl⟩
     replace H : ((spec_l6Rd_pick.f k s0_0 t218 2).bind fun bt270 => (if 0 ≤ bt270.1 then (if bt270.1 < (y267.length : Int) then ((some (([] : List (S38)) : List (S38))).bind fun ya => (if ya.length + l1.length < 3518437208883 then ((some (ya ++ l1 : List (S38))).bind fun yb => ((some (([(⟨t210, t211, (⟨t212, t213⟩ : S36), rd y267 bt270.1⟩ : S38)] : List (S38)) : List (S38))).bind fun yc => (if yb.length + yc.length < 3518437208883 then (some ((yb ++ yc), bt270.2)) else (none)))) else (none))) else (none)) else (none))) = some (r1, r2) := Q78
     have Ny267 := Aside0.mk hy_
     clear hy_
     replace H := Option.bind_eq_some_iff.mp H
     obtain ⟨⟨t270, tp⟩, A770, H⟩ := H
     replace H : (if 0 ≤ t270 then (if t270 < (y267.length : Int) then ((some (([] : List (S38)) : List (S38))).bind fun ya => (if ya.length + l1.length < 3518437208883 then ((some (ya ++ l1 : List (S38))).bind fun yb => ((some (([(⟨t210, t211, (⟨t212, t213⟩ : S36), rd y267 t270⟩ : S38)] : List (S38)) : List (S38))).bind fun yc => (if yb.length + yc.length < 3518437208883 then (some ((yb ++ yc), tp)) else (none)))) else (none))) else (none)) else (none)) = some (r1, r2) := H
     have A77 := Aside0.mk A770
     clear A770
     have c78 : 0 ≤ t270 := Classical.byContradiction fun hn_ => by rw [if_neg hn_] at H; exact absurd H Q0
     rw [if_pos c78] at H
     have c78b0 : decide (0 ≤ t270) = true := decide_eq_true c78
     clear c78
     have c79 : t270 < (y267.length : Int) := Classical.byContradiction fun hn_ => by rw [if_neg hn_] at H; exact absurd H Q0
     rw [if_pos c79] at H
     have c79b0 : decide (t270 < (y267.length : Int)) = true := decide_eq_true c79
     clear c79
     obtain ⟨ya, hya⟩ : ∃ y_ : List (S38), y_ = (([] : List (S38))) := ⟨_, rfl⟩
     replace H : (if ya.length + l1.length < 3518437208883 then ((some (ya ++ l1 : List (S38))).bind fun yb => ((some (([(⟨t210, t211, (⟨t212, t213⟩ : S36), rd y267 t270⟩ : S38)] : List (S38)) : List (S38))).bind fun yc => (if yb.length + yc.length < 3518437208883 then (some ((yb ++ yc), tp)) else (none)))) else (none)) = some (r1, r2) := Q79
     have Nya := Aside0.mk hya
     clear hya
     have c80 : ya.length + l1.length < 3518437208883 := Classical.byContradiction fun hn_ => by rw [if_neg hn_] at H; exact absurd H Q0
     rw [if_pos c80] at H
     have LMca := Aside0.mk c80
     clear c80
     obtain ⟨yb, hyb⟩ : ∃ y_ : List (S38), y_ = (ya ++ l1) := ⟨_, rfl⟩
     replace H : ((some (([(⟨t210, t211, (⟨t212, t213⟩ : S36), rd y267 t270⟩ : S38)] : List (S38)) : List (S38))).bind fun yc => (if yb.length + yc.length < 3518437208883 then (some ((yb ++ yc), tp)) else (none))) = some (r1, r2) := Q80
     have Nyb := Aside0.mk hyb
     clear hyb
     obtain ⟨yc, hyc⟩ : ∃ y_ : List (S38), y_ = (([(⟨t210, t211, (⟨t212, t213⟩ : S36), rd y267 t270⟩ : S38)] : List (S38))) := ⟨_, rfl⟩
     replace H : (if yb.length + yc.length < 3518437208883 then (some ((yb ++ yc), tp)) else (none)) = some (r1, r2) := Q81
     have Nyc := Aside0.mk hyc
     clear hyc
     have c81 : yb.length + yc.length < 3518437208883 := Classical.byContradiction fun hn_ => by rw [if_neg hn_] at H; exact absurd H Q0
     rw [if_pos c81] at H
     have LMcb := Aside0.mk c81
     clear c81
     obtain ⟨yd, hyd⟩ : ∃ y_ : List (S38), y_ = (yb ++ yc) := ⟨_, rfl⟩
     replace H : (some (yd, tp)) = some (r1, r2) := Q82
     have Nyd := Aside0.mk hyd
     clear hyd
     simp only [Option.some.injEq, Prod.mk.injEq] at H
     obtain ⟨rfl, rfl⟩ := H
     go_enter Try.func81, Try.ntmps81
     try go_wp2_with (first | ((with_reducible refine gate_callee (f := 70) rfl ?_); refine goesL_ (some 7) rfl rfl Try.func70 Q2 rfl #[.pointer (some ⟨g, 0, none⟩)] rfl Q39 ?_; (with_reducible refine (spec_l71Row.calls k g s0_0 s0_1 t210 t211 t212 t213 t214 t215 w0 _ ?side1 ?side2 A3.out).mono ?_); (case side1 => exact Q43); (case side2 => exact Q56); rintro e w82 ⟨rfl, hi, hb, hk⟩; refine ⟨_, rfl, ?_⟩; have n0_ := Aside0.mk (KeepBut.trans Q42 hk (.inl rfl)); have n1_ := Aside0.mk (hb); have n2_ := Aside0.mk (hi); clear HK; clear HB; clear HI0; have HK := n0_; have HB := n1_; have HI0 := n2_; clear n0_ n1_ n2_; (try clear hb); (try clear hb2); (try clear hk); (try clear hi)) | ((with_reducible refine gate_dst (N := 5) rfl ?_); refine box_event ?hg (N := 5) ?hd (cs := #[.int .i64 0, .int .i64 0, .int .i64 0, .int .i64 0, .int .i64 0]) (t := 38) ?hr ?_; (case hd => rfl); (case hg => rfl); (case hr => first | (go_simp; done) | (go_simp; rfl)); intro gb216 hg w83 hbox hb; have n0_ := Aside0.mk (IsS87.below Q43 hb); have n1_ := Aside0.mk (KeepBut.trans Q42 (KeepBut.of_below hb g none) (.inl rfl)); have n2_ := Aside0.mk (below_step Q56 hb); have n3_ := Aside0.mk (hbox); have n4_ := Aside0.mk ((Q87 : w.heap.size ≤ gb216)); have n5_ := Aside0.mk ((Nat.le_trans HW0.out (Q87 : w.heap.size ≤ gb216) : w0.heap.size ≤ gb216)); have n6_ := Aside0.mk ((by rw [hg]; exact Nat.ne_of_lt (IsS87.lt (show IsS87 w0 _ g s0_0 t215 from by repeat (first | (with_reducible first | exact HI0.out | apply IsS87.alloc | apply IsS87.drewN | apply IsS87.drew | apply IsS87.set_1) | exact HI0.out))) : g ≠ gb216)); have n7_ := Aside0.mk ((by rw [hg]; exact Nat.ne_of_gt (IsS87.lt (show IsS87 w0 _ g s0_0 t215 from by repeat (first | (with_reducible first | exact HI0.out | apply IsS87.alloc | apply IsS87.drewN | apply IsS87.drew | apply IsS87.set_1) | exact HI0.out))) : gb216 ≠ g)); clear HI0; clear HK; clear HB; have HI0 := n0_; have HK := n1_; have HB := n2_; have BK216 := n3_; have GW216 := n4_; have GE216 := n5_; have NB0_216 := n6_; have NB216_0 := n7_; clear n0_ n1_ n2_ n3_ n4_ n5_ n6_ n7_; clear hb hbox hg; have hnb84 := NB216_0.out; have hnc84 := NB0_216.out; obtain ⟨hcz85_0, hcz85_1, hcz85_2, hcz85_3, hcz85_4, hfz85_0, hfz85_1, hfz85_2, hfz85_3, hfz85_4⟩ := bx5_ BK216) | ((with_reducible refine gate_callee (f := 68) rfl ?_); refine goesL_ (some 9) rfl rfl Try.func68 Q2 rfl #[.pointer (some ⟨g, 0, none⟩), .int .i64 5] rfl Q39 ?_; (with_reducible refine (spec_l6Rd_pick.calls k g s0_0 t215 5 t217 t218 w0 _ ?side1 ?side2 A4.out).mono ?_); (case side1 => exact Q67); (case side2 => exact Q74); rintro e w86 ⟨rfl, hi, hb, hk⟩; refine ⟨_, rfl, ?_⟩; have n0_ := Aside0.mk (KeepBut.blk hk (g' := gb216) (o := .cells #[.int .i64 t210, .int .i64 t211, .int .i64 t212, .int .i64 t213, .int .i64 t214] 38 (0, 0)) Q83 NB216_0.out Q0); have n1_ := Aside0.mk (KeepBut.trans Q63 hk (.inl rfl)); have n2_ := Aside0.mk (hb); have n3_ := Aside0.mk (hi); clear BK216; clear HK; clear HB; clear HI0; have BK216 := n0_; have HK := n1_; have HB := n2_; have HI0 := n3_; clear n0_ n1_ n2_ n3_; (try clear hb); (try clear hb2); (try clear hk); (try clear hi)) | ((with_reducible refine gate_dst (N := 34) rfl ?_); refine Kd.R_lit (Kd.int .i64) _ 3 ?hg (N := 34) ?hd (xs := ([(-100000), 100000] : List Int)) (inner := [.int .i64 (-100000), .int .i64 100000]) (ok := fun _ => True) (okp := fun _ => True) ?hr ?hp (fun _ hk => hk) trivial (Below.refl _ _) (Nat.le_refl _) Q0 ?_; (case hd => rfl); (case hg => rfl); (case hr => first | (go_simp; done) | (go_simp; rfl)); (case hp => exact (Reps.one (show Kd.M (Kd.int .i64) _ _ _ (-100000) [.int .i64 (-100000)] from rfl) (Reps.one (show Kd.M (Kd.int .i64) _ _ _ 100000 [.int .i64 100000] from rfl) (Reps.none _ _)))); intro v268 w87 ho88 hb hg_ hnew_; clear hg_ hnew_; (first | rw [← Ny267.out] at ho88 | (simp only [Int.reduceToNat] at ho88; rw [← Ny267.out] at ho88)); have n0_ := Aside0.mk (Kd.R_lower ho88 (keep_size (w := w) (g := g) (row := none) Q63)); have n1_ := Aside0.mk (IsS87.below Q67 hb); have n2_ := Aside0.mk (blk_below (g := gb216) (o := .cells #[.int .i64 t210, .int .i64 t211, .int .i64 t212, .int .i64 t213, .int .i64 t214] 38 (0, 0)) Q32 hb); have n3_ := Aside0.mk (KeepBut.trans Q63 (KeepBut.of_below hb g none) (.inl rfl)); have n4_ := Aside0.mk (below_step Q74 hb); clear HI0; clear BK216; clear HK; clear HB; have HO269 := n0_; have HI0 := n1_; have BK216 := n2_; have HK := n3_; have HB := n4_; clear n0_ n1_ n2_ n3_ n4_; clear hb ho88) | ((with_reducible refine gate_callee (f := 68) rfl ?_); refine goesL_ (some 36) rfl rfl Try.func68 Q2 rfl #[.pointer (some ⟨g, 0, none⟩), .int .i64 2] rfl Q39 ?_; (with_reducible refine (spec_l6Rd_pick.calls k g s0_0 t218 2 t270 tp w0 _ ?side1 ?side2 A77.out).mono ?_); (case side1 => exact Q67); (case side2 => exact Q74); rintro e w89 ⟨rfl, hi, hb, hk⟩; refine ⟨_, rfl, ?_⟩; have n0_ := Aside0.mk (KeepBut.blk hk (g' := gb216) (o := .cells #[.int .i64 t210, .int .i64 t211, .int .i64 t212, .int .i64 t213, .int .i64 t214] 38 (0, 0)) Q32 NB216_0.out Q0); have n1_ := Aside0.mk (Kd.R_mono (Kd.R_keep (IsS87.apart (show IsS87 w0 _ g s0_0 t218 from by repeat (first | (with_reducible first | exact HI0.out | apply IsS87.alloc | apply IsS87.drewN | apply IsS87.drew | apply IsS87.set_1 | refine IsS87.far ?_ NB0_216.out _) | exact HI0.out)) (by (with_reducible repeat (first | apply Kd.R_alloc | apply Kd.R_drewN | apply Kd.R_drew)); exact HO269.out) Q1) hk (fun _ h => h.2)) (fun _ h => h.1)); have n2_ := Aside0.mk (KeepBut.trans Q63 hk (.inl rfl)); have n3_ := Aside0.mk (hb); have n4_ := Aside0.mk (hi); clear BK216; clear HO269; clear HK; clear HB; clear HI0; have BK216 := n0_; have HO269 := n1_; have HK := n2_; have HB := n3_; have HI0 := n4_; clear n0_ n1_ n2_ n3_ n4_; (try clear hb); (try clear hb2); (try clear hk); (try clear hi); obtain ⟨Ao90, co90, eo90⟩ := Kd.R_slice HO269.out; subst eo90; have p272 : 0 ≤ (t270 : Int) := of_decide_eq_true Q7; have q272 : t270 < (y267.length : Int) := of_decide_eq_true Q7; obtain ⟨ad272, e272, hx272_0⟩ := Kd.at_int (Kd.R_reads' HO269.out).2.2 t270 p272 q272; cases e272; replace p272 := eq_true p272; replace q272 := eq_true q272; obtain ⟨hcz91_0, hcz91_1, hcz91_2, hcz91_3, hcz91_4, hfz91_0, hfz91_1, hfz91_2, hfz91_3, hfz91_4⟩ := bx5_ BK216))
     have n0_ : Aside0 (Kd.R (Kd.int .i64) 3 (w89.setCell ⟨gb216, 4, none⟩ (.int .i64 (rd y267 t270))) w.heap.size (fun _ => True) (.slice (some ad272) y267.length co90) y267) := ⟨by (with_reducible repeat (first | apply Kd.R_alloc | apply Kd.R_drewN | apply Kd.R_drew)); exact Kd.R_mono (Kd.R_far (p := ⟨gb216, 4, none⟩) (Kd.R_types HO269.out BK216.out Q1) (fun _ hk => hk.2) (.int .i64 (rd y267 t270))) (fun _ hk => trivial)⟩
     have n1_ : Aside0 ((w89.setCell ⟨gb216, 4, none⟩ (.int .i64 (rd y267 t270))).heap[gb216]? = some (.cells #[.int .i64 t210, .int .i64 t211, .int .i64 t212, .int .i64 t213, .int .i64 (rd y267 t270)] 38 (0, 0))) := ⟨by (with_reducible repeat (first | refine blk_drewN ?_ _ | refine blk_drew ?_ | refine blk_alloc ?_ _)); refine blk_put (cs := #[.int .i64 t210, .int .i64 t211, .int .i64 t212, .int .i64 t213, .int .i64 t214]) ?_ 4 _ rfl; (with_reducible repeat (first | refine blk_drewN ?_ _ | refine blk_drew ?_ | refine blk_alloc ?_ _)); exact BK216.out⟩
     have n2_ : Aside0 (IsS87 w0 (w89.setCell ⟨gb216, 4, none⟩ (.int .i64 (rd y267 t270))) g s0_0 tp) := ⟨Q67⟩
     have n3_ : Aside0 (KeepBut w (w89.setCell ⟨gb216, 4, none⟩ (.int .i64 (rd y267 t270))) g none) := ⟨Q63⟩
     have n4_ : Aside0 (Below w0.heap.size w0 (w89.setCell ⟨gb216, 4, none⟩ (.int .i64 (rd y267 t270)))) := ⟨Q74⟩
     (try clear HO269)
     (try clear BK216)
     (try clear HI0)
     (try clear HK)
     (try clear HB)
     generalize (w89.setCell ⟨gb216, 4, none⟩ (.int .i64 (rd y267 t270))) = wT at n0_ n1_ n2_ n3_ n4_ ⊢
     have HO269 := n0_
     have BK216 := n1_
     have HI0 := n2_
     have HK := n3_
     have HB := n4_
     clear n0_ n1_ n2_ n3_ n4_
     clear HO269
     obtain ⟨e0, e1, e2, e3, e4, hE, BKE⟩ : ∃ e0 e1 e2 e3 e4 : Int, (⟨e0, e1, ⟨e2, e3⟩, e4⟩ : S38) = ⟨t210, t211, ⟨t212, t213⟩, (rd y267 t270)⟩ ∧ Aside0 (wT.heap[gb216]? = some (.cells #[.int .i64 e0, .int .i64 e1, .int .i64 e2, .int .i64 e3, .int .i64 e4] 38 (0, 0))) := ⟨_, _, _, _, _, rfl, BK216⟩
     clear BK216; have BK216 := BKE; clear BKE
     have Ny_ := Aside0.mk (Nyc.out.trans (congrArg (fun z : S38 => [z]) hE.symm)); clear Nyc; have Nyc := Ny_; clear Ny_ hE
    case' neg =>
     rw [if_neg c76] at H
     have c76b0 : (t217 == 3) = false := beq_eq_false_iff_ne.mpr c76
     have c76b1 : (t217 != 3) = true := bne_iff_ne.mpr c76
     obtain ⟨ya, hya⟩ : ∃ y_ : List (S38), y_ = (([] : List (S38))) := ⟨_, rfl⟩
     replace H : (if ya.length + l1.length < 3518437208883 then ((some (ya ++ l1 : List (S38))).bind fun yb => ((some (([(⟨t210, t211, (⟨t212, 8⟩ : S36), t214⟩ : S38)] : List (S38)) : List (S38))).bind fun yc => (if yb.length + yc.length < 3518437208883 then (some ((yb ++ yc), t218)) else (none)))) else (none)) = some (r1, r2) := Q79
     have Nya := Aside0.mk hya
     clear hya
     have c102 : ya.length + l1.length < 3518437208883 := Classical.byContradiction fun hn_ => by rw [if_neg hn_] at H; exact absurd H Q0
     rw [if_pos c102] at H
     have LMca := Aside0.mk c102
     clear c102
     obtain ⟨yb, hyb⟩ : ∃ y_ : List (S38), y_ = (ya ++ l1) := ⟨_, rfl⟩
     replace H : ((some (([(⟨t210, t211, (⟨t212, 8⟩ : S36), t214⟩ : S38)] : List (S38)) : List (S38))).bind fun yc => (if yb.length + yc.length < 3518437208883 then (some ((yb ++ yc), t218)) else (none))) = some (r1, r2) := Q80
     have Nyb := Aside0.mk hyb
     clear hyb
     obtain ⟨yc, hyc⟩ : ∃ y_ : List (S38), y_ = (([(⟨t210, t211, (⟨t212, 8⟩ : S36), t214⟩ : S38)] : List (S38))) := ⟨_, rfl⟩
     replace H : (if yb.length + yc.length < 3518437208883 then (some ((yb ++ yc), t218)) else (none)) = some (r1, r2) := Q81
     have Nyc := Aside0.mk hyc
     clear hyc
     have c103 : yb.length + yc.length < 3518437208883 := Classical.byContradiction fun hn_ => by rw [if_neg hn_] at H; exact absurd H Q0
     rw [if_pos c103] at H
     have LMcb := Aside0.mk c103
     clear c103
     obtain ⟨yd, hyd⟩ : ∃ y_ : List (S38), y_ = (yb ++ yc) := ⟨_, rfl⟩
     replace H : (some (yd, t218)) = some (r1, r2) := Q82
     have Nyd := Aside0.mk hyd
     clear hyd
     simp only [Option.some.injEq, Prod.mk.injEq] at H
     obtain ⟨rfl, rfl⟩ := H
     go_enter Try.func81, Try.ntmps81
     try go_wp2_with (first | ((with_reducible refine gate_callee (f := 70) rfl ?_); refine goesL_ (some 7) rfl rfl Try.func70 Q2 rfl #[.pointer (some ⟨g, 0, none⟩)] rfl Q39 ?_; (with_reducible refine (spec_l71Row.calls k g s0_0 s0_1 t210 t211 t212 t213 t214 t215 w0 _ ?side1 ?side2 A3.out).mono ?_); (case side1 => exact Q43); (case side2 => exact Q56); rintro e w104 ⟨rfl, hi, hb, hk⟩; refine ⟨_, rfl, ?_⟩; have n0_ := Aside0.mk (KeepBut.trans Q42 hk (.inl rfl)); have n1_ := Aside0.mk (hb); have n2_ := Aside0.mk (hi); clear HK; clear HB; clear HI0; have HK := n0_; have HB := n1_; have HI0 := n2_; clear n0_ n1_ n2_; (try clear hb); (try clear hb2); (try clear hk); (try clear hi)) | ((with_reducible refine gate_dst (N := 5) rfl ?_); refine box_event ?hg (N := 5) ?hd (cs := #[.int .i64 0, .int .i64 0, .int .i64 0, .int .i64 0, .int .i64 0]) (t := 38) ?hr ?_; (case hd => rfl); (case hg => rfl); (case hr => first | (go_simp; done) | (go_simp; rfl)); intro gb216 hg w105 hbox hb; have n0_ := Aside0.mk (IsS87.below Q43 hb); have n1_ := Aside0.mk (KeepBut.trans Q42 (KeepBut.of_below hb g none) (.inl rfl)); have n2_ := Aside0.mk (below_step Q56 hb); have n3_ := Aside0.mk (hbox); have n4_ := Aside0.mk ((Q87 : w.heap.size ≤ gb216)); have n5_ := Aside0.mk ((Nat.le_trans HW0.out (Q87 : w.heap.size ≤ gb216) : w0.heap.size ≤ gb216)); have n6_ := Aside0.mk ((by rw [hg]; exact Nat.ne_of_lt (IsS87.lt (show IsS87 w0 _ g s0_0 t215 from by repeat (first | (with_reducible first | exact HI0.out | apply IsS87.alloc | apply IsS87.drewN | apply IsS87.drew | apply IsS87.set_1) | exact HI0.out))) : g ≠ gb216)); have n7_ := Aside0.mk ((by rw [hg]; exact Nat.ne_of_gt (IsS87.lt (show IsS87 w0 _ g s0_0 t215 from by repeat (first | (with_reducible first | exact HI0.out | apply IsS87.alloc | apply IsS87.drewN | apply IsS87.drew | apply IsS87.set_1) | exact HI0.out))) : gb216 ≠ g)); clear HI0; clear HK; clear HB; have HI0 := n0_; have HK := n1_; have HB := n2_; have BK216 := n3_; have GW216 := n4_; have GE216 := n5_; have NB0_216 := n6_; have NB216_0 := n7_; clear n0_ n1_ n2_ n3_ n4_ n5_ n6_ n7_; clear hb hbox hg; have hnb106 := NB216_0.out; have hnc106 := NB0_216.out; obtain ⟨hcz107_0, hcz107_1, hcz107_2, hcz107_3, hcz107_4, hfz107_0, hfz107_1, hfz107_2, hfz107_3, hfz107_4⟩ := bx5_ BK216) | ((with_reducible refine gate_callee (f := 68) rfl ?_); refine goesL_ (some 9) rfl rfl Try.func68 Q2 rfl #[.pointer (some ⟨g, 0, none⟩), .int .i64 5] rfl Q39 ?_; (with_reducible refine (spec_l6Rd_pick.calls k g s0_0 t215 5 t217 t218 w0 _ ?side1 ?side2 A4.out).mono ?_); (case side1 => exact Q67); (case side2 => exact Q74); rintro e w108 ⟨rfl, hi, hb, hk⟩; refine ⟨_, rfl, ?_⟩; have n0_ := Aside0.mk (KeepBut.blk hk (g' := gb216) (o := .cells #[.int .i64 t210, .int .i64 t211, .int .i64 t212, .int .i64 t213, .int .i64 t214] 38 (0, 0)) Q83 NB216_0.out Q0); have n1_ := Aside0.mk (KeepBut.trans Q63 hk (.inl rfl)); have n2_ := Aside0.mk (hb); have n3_ := Aside0.mk (hi); clear BK216; clear HK; clear HB; clear HI0; have BK216 := n0_; have HK := n1_; have HB := n2_; have HI0 := n3_; clear n0_ n1_ n2_ n3_; (try clear hb); (try clear hb2); (try clear hk); (try clear hi); obtain ⟨hcz109_0, hcz109_1, hcz109_2, hcz109_3, hcz109_4, hfz109_0, hfz109_1, hfz109_2, hfz109_3, hfz109_4⟩ := bx5_ BK216))
     have n0_ : Aside0 ((w108.setCell ⟨gb216, 3, none⟩ (.int .i64 8)).heap[gb216]? = some (.cells #[.int .i64 t210, .int .i64 t211, .int .i64 t212, .int .i64 8, .int .i64 t214] 38 (0, 0))) := ⟨by (with_reducible repeat (first | refine blk_drewN ?_ _ | refine blk_drew ?_ | refine blk_alloc ?_ _)); refine blk_put (cs := #[.int .i64 t210, .int .i64 t211, .int .i64 t212, .int .i64 t213, .int .i64 t214]) ?_ 3 _ rfl; (with_reducible repeat (first | refine blk_drewN ?_ _ | refine blk_drew ?_ | refine blk_alloc ?_ _)); exact BK216.out⟩
     have n1_ : Aside0 (IsS87 w0 (w108.setCell ⟨gb216, 3, none⟩ (.int .i64 8)) g s0_0 t218) := ⟨Q67⟩
     have n2_ : Aside0 (KeepBut w (w108.setCell ⟨gb216, 3, none⟩ (.int .i64 8)) g none) := ⟨Q63⟩
     have n3_ : Aside0 (Below w0.heap.size w0 (w108.setCell ⟨gb216, 3, none⟩ (.int .i64 8))) := ⟨Q74⟩
     (try clear BK216)
     (try clear HI0)
     (try clear HK)
     (try clear HB)
     generalize (w108.setCell ⟨gb216, 3, none⟩ (.int .i64 8)) = wT at n0_ n1_ n2_ n3_ ⊢
     have BK216 := n0_
     have HI0 := n1_
     have HK := n2_
     have HB := n3_
     clear n0_ n1_ n2_ n3_
     obtain ⟨tp, hT_⟩ : ∃ tp, tp = t218 := ⟨_, rfl⟩; subst hT_
     obtain ⟨e0, e1, e2, e3, e4, hE, BKE⟩ : ∃ e0 e1 e2 e3 e4 : Int, (⟨e0, e1, ⟨e2, e3⟩, e4⟩ : S38) = ⟨t210, t211, ⟨t212, 8⟩, t214⟩ ∧ Aside0 (wT.heap[gb216]? = some (.cells #[.int .i64 e0, .int .i64 e1, .int .i64 e2, .int .i64 e3, .int .i64 e4] 38 (0, 0))) := ⟨_, _, _, _, _, rfl, BK216⟩
     clear BK216; have BK216 := BKE; clear BKE
     have Ny_ := Aside0.mk (Nyc.out.trans (congrArg (fun z : S38 => [z]) hE.symm)); clear Nyc; have Nyc := Ny_; clear Ny_ hE
 all_goals
  have n0_ := Aside0.mk (blk_drew BK216.out)
  have n1_ := Aside0.mk (IsS87.drew HI0.out)
  have n2_ := Aside0.mk (keep_drew HK.out)
  have n3_ := Aside0.mk (below_drew1 HB.out)
  clear BK216
  clear HI0
  clear HK
  clear HB
  have BK216 := n0_
  have HI0 := n1_
  have HK := n2_
  have HB := n3_
  clear n0_ n1_ n2_ n3_
  refine start_ (n := 7) (S := fun w' => w'.cell? ⟨gb216, 0, none⟩ = some (.int .i64 e0) ∧ w'.cell? ⟨gb216, 1, none⟩ = some (.int .i64 e1) ∧ w'.cell? ⟨gb216, 2, none⟩ = some (.int .i64 e2) ∧ w'.cell? ⟨gb216, 3, none⟩ = some (.int .i64 e3) ∧ w'.cell? ⟨gb216, 4, none⟩ = some (.int .i64 e4)) (ds := []) b7_0 Q2 rfl rfl ⟨(blk_cell BK216.out 0).trans rfl, (blk_cell BK216.out 1).trans rfl, (blk_cell BK216.out 2).trans rfl, (blk_cell BK216.out 3).trans rfl, (blk_cell BK216.out 4).trans rfl⟩ (fun hHeld => ?_)
  generalize wT.drew = w111 at BK216 HI0 HK HB hHeld ⊢
  refine pU_ 1 41 c24 ?_
  refine tU_ 3 43 c25 hHeld ?_
  refine join_ (σ := Value × Value × Value) 2 b7_5 (fun s_ => [(40, s_.1), (42, s_.2.1), (44, s_.2.2)]) (fun s_ w' => (w'.cell? ⟨gb216, 0, none⟩ = some (.int .i64 e0) ∧ w'.cell? ⟨gb216, 1, none⟩ = some (.int .i64 e1) ∧ w'.cell? ⟨gb216, 2, none⟩ = some (.int .i64 e2) ∧ w'.cell? ⟨gb216, 3, none⟩ = some (.int .i64 e3) ∧ w'.cell? ⟨gb216, 4, none⟩ = some (.int .i64 e4)) ∧ (Kd.R k38 38 w' w.heap.size (fun k_ => some k_ ≠ (s_.2.2 : Value).ownBlock ∧ k_ ≠ gb216) s_.2.1 yb) ∧ (Kd.R k38 38 w' w.heap.size (fun k_ => some k_ ≠ (s_.2.1 : Value).ownBlock ∧ k_ ≠ gb216) s_.2.2 yc) ∧ (w'.heap[gb216]? = some (.cells #[.int .i64 e0, .int .i64 e1, .int .i64 e2, .int .i64 e3, .int .i64 e4] 38 (0, 0))) ∧ (IsS87 w0 w' g s0_0 tp) ∧ (KeepBut w w' g none) ∧ (Below w0.heap.size w0 w')) ?_ ?_
  rotate_left
  ·intro hCont
   refine two_ (i := 0) (j := 4) (Ni := some 40) (Nj := some 44) c27 c28 rfl rfl rfl rfl Q2 Q1 Q1 (fun K hK => ?_) (fun K hK => ?_)
   ·skip
    refine Kd.R_lit_step k38 _ 38 ?hg (N := 40) ?hd (xs := ([] : List (S38))) (inner := []) (ok := fun _ => True) (okp := fun _ => True) ?hr ?hp (fun _ hk => hk) trivial (Below.refl _ _) (Nat.le_refl _) Q0 ?_; (case hd => rfl); (case hg => rfl); (case hr => first | (go_simp; done) | (go_simp; rfl)); (case hp => exact (Reps.none _ _))
    intro v286 w112 ho113 hb hg_ hnew_
    clear hg_ hnew_
    (first | rw [← Nya.out] at ho113 | (simp only [Int.reduceToNat] at ho113; rw [← Nya.out] at ho113))
    have n0_ := Aside0.mk (Kd.R_lower (Kd.R_newB ho113 (g := gb216) (o := .cells #[.int .i64 e0, .int .i64 e1, .int .i64 e2, .int .i64 e3, .int .i64 e4] 38 (0, 0)) Q32) (keep_size (w := w) (g := g) (row := none) Q63))
    have n1_ := Aside0.mk (IsS87.below Q67 hb)
    have n2_ := Aside0.mk (blk_below (g := gb216) (o := .cells #[.int .i64 e0, .int .i64 e1, .int .i64 e2, .int .i64 e3, .int .i64 e4] 38 (0, 0)) Q32 hb)
    have n3_ := Aside0.mk (KeepBut.trans Q63 (KeepBut.of_below hb g none) (.inl rfl))
    have n4_ := Aside0.mk (below_step Q74 hb)
    clear HI0
    clear BK216
    clear HK
    clear HB
    have HO287 := n0_
    have HI0 := n1_
    have BK216 := n2_
    have HK := n3_
    have HB := n4_
    clear n0_ n1_ n2_ n3_ n4_
    clear hb ho113
    refine hK.out _ _ ⟨(blk_cell BK216.out 0).trans rfl, (blk_cell BK216.out 1).trans rfl, (blk_cell BK216.out 2).trans rfl, (blk_cell BK216.out 3).trans rfl, (blk_cell BK216.out 4).trans rfl⟩ (fun hHeld => ?_)
    clear hK K
    refine norm_ (a' := ?_) ?_ ?_
    rotate_left
    ·show Act.put _ (some 40) _ = _
     simp only [Act.put, List.setIfInBounds_toArray, List.set_cons_zero, List.set_cons_succ, i64_w, i32_w]
     rfl
    refine two_ (i := 2) (j := 4) (Ni := some 42) (Nj := some 44) b7_4 c30 rfl rfl rfl rfl Q2 Q1 Q1 (fun K hK => ?_) (fun K hK => ?_)
    ·skip
     refine Kd.R_append_rows_step k38 w.heap.size (by rfl) (.tmp 40) (.tmp 41) 23 38 (.agg #[(.int .i64 0), (.int .i64 0), (.int .i64 0), (.int .i64 0), (.int .i64 0)]) 40 rfl Try.underlying23 info38 rfl Q1 (by omega) v286 ya l1 _ _ _ (fun k_ => k_ ≠ gb216) (fun _ => False) rfl rfl ?aO ?aR (fun _ _ h => h) (fun _ h => h.elim) ?aF (Below.refl _ _) ?aS ?aL ?_
     (case aR => exact Kd.C_foot_now HR1.out Q63)
     (case aF => exact (fun k_ hk => Kd.freshB (g := gb216) (o := .cells #[.int .i64 e0, .int .i64 e1, .int .i64 e2, .int .i64 e3, .int .i64 e4] 38 (0, 0)) Q32 k_ hk))
     (case aO => exact (by (with_reducible repeat (first | apply Kd.R_alloc | apply Kd.R_drewN | apply Kd.R_drew)); exact Kd.R_mono HO287.out (fun _ hk => hk.2)))
     (case aS => exact (keep_size (w := w) (g := g) (row := none) Q63))
     (case aL => have := LMca.out; omega)
     intro v289 w114 ho hb hg hat
     rw [← Nyb.out] at ho
     have n0_ := Aside0.mk (IsS87.grown (show IsS87 w0 _ g s0_0 tp from by repeat (first | (with_reducible first | exact HI0.out | apply IsS87.alloc | apply IsS87.drewN | apply IsS87.drew | apply IsS87.set_1 | refine IsS87.far ?_ NB0_216.out _) | exact HI0.out)) hg (IsS87.own_ne HI0.out HO287.out Q1))
     have n1_ := Aside0.mk (blk_grown (g := gb216) (o := .cells #[.int .i64 e0, .int .i64 e1, .int .i64 e2, .int .i64 e3, .int .i64 e4] 38 (0, 0)) Q32 hg (Kd.R_away HO287.out (fun _ hk => hk.2)))
     have n2_ := Aside0.mk (below_weaken Q74 HL.out hb)
     have n3_ := Aside0.mk (KeepBut.trans Q63 (KeepBut.of_grown hg g) (Kd.R_base2 HO287.out))
     have n4_ := Aside0.mk (ho)
     clear HI0
     clear BK216
     clear HB
     clear HK
     clear HO287
     have HI0 := n0_
     have BK216 := n1_
     have HB := n2_
     have HK := n3_
     have HO290 := n4_
     clear n0_ n1_ n2_ n3_ n4_
     clear ho hb hg hat
     refine hK.out _ _ ⟨(blk_cell BK216.out 0).trans rfl, (blk_cell BK216.out 1).trans rfl, (blk_cell BK216.out 2).trans rfl, (blk_cell BK216.out 3).trans rfl, (blk_cell BK216.out 4).trans rfl⟩ (fun hHeld => ?_)
     clear hK K
     refine norm_ (a' := ?_) ?_ ?_
     rotate_left
     ·show Act.put _ (some 42) _ = _
      simp only [Act.put, List.setIfInBounds_toArray, List.set_cons_zero, List.set_cons_succ, i64_w, i32_w]
      rfl
     refine one_ (i := 4) (N := some 44) b7_5 rfl rfl Q2 Q1 (fun K hK => ?_)
     refine Kd.R_lit_step k38 _ 38 ?hg (N := 44) ?hd (xs := ([(⟨e0, e1, (⟨e2, e3⟩ : S36), e4⟩ : S38)] : List (S38))) (inner := [.int .i64 e0, .int .i64 e1, .int .i64 e2, .int .i64 e3, .int .i64 e4]) (ok := fun _ => True) (okp := fun _ => True) ?hr ?hp (fun _ hk => hk) trivial (Below.refl _ _) (Nat.le_refl _) Q0 ?_; (case hd => rfl); (case hg => rfl); (case hr => first | (go_simp; done) | (go_simp; rfl)); (case hp => exact (Reps.c5 (show Kd.M k38 _ _ _ (⟨e0, e1, (⟨e2, e3⟩ : S36), e4⟩ : S38) [.int .i64 e0, .int .i64 e1, .int .i64 e2, .int .i64 e3, .int .i64 e4] from (k38_mkM _ _ _ (⟨e0, e1, (⟨e2, e3⟩ : S36), e4⟩ : S38) )) (Reps.none _ _)))
     intro v292 w115 ho116 hb hg_ hnew_
     clear hg_ hnew_
     (first | rw [← Nyc.out] at ho116 | (simp only [Int.reduceToNat] at ho116; rw [← Nyc.out] at ho116))
     have n0_ := Aside0.mk (Kd.R_elder' Q15 (Kd.R_base ho116) hb)
     have n1_ := Aside0.mk (Kd.R_lower (Kd.R_newB (Kd.R_new' ho116 (Kd.R_lt Q15)) (g := gb216) (o := .cells #[.int .i64 e0, .int .i64 e1, .int .i64 e2, .int .i64 e3, .int .i64 e4] 38 (0, 0)) Q32) (keep_size (w := w) (g := g) (row := none) Q63))
     have n2_ := Aside0.mk (IsS87.below Q67 hb)
     have n3_ := Aside0.mk (blk_below (g := gb216) (o := .cells #[.int .i64 e0, .int .i64 e1, .int .i64 e2, .int .i64 e3, .int .i64 e4] 38 (0, 0)) Q32 hb)
     have n4_ := Aside0.mk (KeepBut.trans Q63 (KeepBut.of_below hb g none) (.inl rfl))
     have n5_ := Aside0.mk (below_step Q74 hb)
     clear HO290
     clear HI0
     clear BK216
     clear HK
     clear HB
     have HO290 := n0_
     have HO293 := n1_
     have HI0 := n2_
     have BK216 := n3_
     have HK := n4_
     have HB := n5_
     clear n0_ n1_ n2_ n3_ n4_ n5_
     clear hb ho116
     refine hK.out _ _ ⟨(blk_cell BK216.out 0).trans rfl, (blk_cell BK216.out 1).trans rfl, (blk_cell BK216.out 2).trans rfl, (blk_cell BK216.out 3).trans rfl, (blk_cell BK216.out 4).trans rfl⟩ (fun hHeld => ?_)
     clear hK K
     refine norm_ (a' := ?_) ?_ ?_
     rotate_left
     ·show Act.put _ (some 44) _ = _
      simp only [Act.put, List.setIfInBounds_toArray, List.set_cons_zero, List.set_cons_succ, i64_w, i32_w]
      rfl
     exact norm_ Q89 (hCont (v286, v289, v292) _ ⟨hHeld, (by (with_reducible repeat (first | apply Kd.R_alloc | apply Kd.R_drewN | apply Kd.R_drew)); exact Kd.R_mono HO290.out (fun _ hk => ⟨hk.2, hk.1⟩)), (by (with_reducible repeat (first | apply Kd.R_alloc | apply Kd.R_drewN | apply Kd.R_drew)); exact Kd.R_mono HO293.out (fun _ hk => ⟨hk.1.2, hk.2⟩)), Q32, Q67, Q63, Q74⟩)
    ·skip
     refine Kd.R_lit_step k38 _ 38 ?hg (N := 44) ?hd (xs := ([(⟨e0, e1, (⟨e2, e3⟩ : S36), e4⟩ : S38)] : List (S38))) (inner := [.int .i64 e0, .int .i64 e1, .int .i64 e2, .int .i64 e3, .int .i64 e4]) (ok := fun _ => True) (okp := fun _ => True) ?hr ?hp (fun _ hk => hk) trivial (Below.refl _ _) (Nat.le_refl _) Q0 ?_; (case hd => rfl); (case hg => rfl); (case hr => first | (go_simp; done) | (go_simp; rfl)); (case hp => exact (Reps.c5 (show Kd.M k38 _ _ _ (⟨e0, e1, (⟨e2, e3⟩ : S36), e4⟩ : S38) [.int .i64 e0, .int .i64 e1, .int .i64 e2, .int .i64 e3, .int .i64 e4] from (k38_mkM _ _ _ (⟨e0, e1, (⟨e2, e3⟩ : S36), e4⟩ : S38) )) (Reps.none _ _)))
     intro v292 w114 ho115 hb hg_ hnew_
     clear hg_ hnew_
     (first | rw [← Nyc.out] at ho115 | (simp only [Int.reduceToNat] at ho115; rw [← Nyc.out] at ho115))
     have n0_ := Aside0.mk (Kd.R_elder' (by (with_reducible repeat (first | apply Kd.R_alloc | apply Kd.R_drewN | apply Kd.R_drew)); exact HO287.out) (Kd.R_base ho115) hb)
     have n1_ := Aside0.mk (Kd.R_lower (Kd.R_newB (Kd.R_new' ho115 (Kd.R_lt (by (with_reducible repeat (first | apply Kd.R_alloc | apply Kd.R_drewN | apply Kd.R_drew)); exact HO287.out))) (g := gb216) (o := .cells #[.int .i64 e0, .int .i64 e1, .int .i64 e2, .int .i64 e3, .int .i64 e4] 38 (0, 0)) Q32) (keep_size (w := w) (g := g) (row := none) Q63))
     have n2_ := Aside0.mk (IsS87.below Q67 hb)
     have n3_ := Aside0.mk (blk_below (g := gb216) (o := .cells #[.int .i64 e0, .int .i64 e1, .int .i64 e2, .int .i64 e3, .int .i64 e4] 38 (0, 0)) Q32 hb)
     have n4_ := Aside0.mk (KeepBut.trans Q63 (KeepBut.of_below hb g none) (.inl rfl))
     have n5_ := Aside0.mk (below_step Q74 hb)
     clear HO287
     clear HI0
     clear BK216
     clear HK
     clear HB
     have HO287 := n0_
     have HO293 := n1_
     have HI0 := n2_
     have BK216 := n3_
     have HK := n4_
     have HB := n5_
     clear n0_ n1_ n2_ n3_ n4_ n5_
     clear hb ho115
     refine hK.out _ _ ⟨(blk_cell BK216.out 0).trans rfl, (blk_cell BK216.out 1).trans rfl, (blk_cell BK216.out 2).trans rfl, (blk_cell BK216.out 3).trans rfl, (blk_cell BK216.out 4).trans rfl⟩ (fun hHeld => ?_)
     clear hK K
     refine norm_ (a' := ?_) ?_ ?_
     rotate_left
     ·show Act.put _ (some 44) _ = _
      simp only [Act.put, List.setIfInBounds_toArray, List.set_cons_zero, List.set_cons_succ, i64_w, i32_w]
      rfl
     refine one_ (i := 2) (N := some 42) b7_5 rfl rfl Q2 Q1 (fun K hK => ?_)
     refine Kd.R_append_rows_step k38 w.heap.size (by rfl) (.tmp 40) (.tmp 41) 23 38 (.agg #[(.int .i64 0), (.int .i64 0), (.int .i64 0), (.int .i64 0), (.int .i64 0)]) 40 rfl Try.underlying23 info38 rfl Q1 (by omega) v286 ya l1 _ _ _ (fun k_ => some k_ ≠ (v292 : Value).ownBlock ∧ k_ ≠ gb216) (fun _ => False) rfl rfl ?aO ?aR (fun _ _ h => h) (fun _ h => h.elim) ?aF (Below.refl _ _) ?aS ?aL ?_
     (case aR => exact Kd.C_foot_now HR1.out Q63)
     (case aF => exact (fun k_ hk => ⟨Kd.fresh' (Kd.R_lt Q16) k_ hk, Kd.freshB (g := gb216) (o := .cells #[.int .i64 e0, .int .i64 e1, .int .i64 e2, .int .i64 e3, .int .i64 e4] 38 (0, 0)) Q32 k_ hk⟩))
     (case aO => exact (by (with_reducible repeat (first | apply Kd.R_alloc | apply Kd.R_drewN | apply Kd.R_drew)); exact Kd.R_mono HO287.out (fun _ hk => ⟨hk.2, hk.1.2⟩)))
     (case aS => exact (keep_size (w := w) (g := g) (row := none) Q63))
     (case aL => have := LMca.out; omega)
     intro v289 w116 ho hb hg hat
     rw [← Nyb.out] at ho
     have n0_ := Aside0.mk (IsS87.grown (show IsS87 w0 _ g s0_0 tp from by repeat (first | (with_reducible first | exact HI0.out | apply IsS87.alloc | apply IsS87.drewN | apply IsS87.drew | apply IsS87.set_1 | refine IsS87.far ?_ NB0_216.out _) | exact HI0.out)) hg (IsS87.own_ne HI0.out HO287.out Q1))
     have n1_ := Aside0.mk (blk_grown (g := gb216) (o := .cells #[.int .i64 e0, .int .i64 e1, .int .i64 e2, .int .i64 e3, .int .i64 e4] 38 (0, 0)) Q32 hg (Kd.R_away HO287.out (fun _ hk => hk.1.2)))
     have n2_ := Aside0.mk (Kd.R_after (ok := (fun k_ => k_ ≠ gb216)) (by (with_reducible repeat (first | apply Kd.R_alloc | apply Kd.R_drewN | apply Kd.R_drew)); exact Kd.R_mono HO293.out (fun _ hk => ⟨hk.2, hk.1.2⟩)) hg hat)
     have n3_ := Aside0.mk (below_weaken Q74 HL.out hb)
     have n4_ := Aside0.mk (KeepBut.trans Q63 (KeepBut.of_grown hg g) (Kd.R_base2 HO287.out))
     have n5_ := Aside0.mk (ho)
     clear HI0
     clear BK216
     clear HO293
     clear HB
     clear HK
     clear HO287
     have HI0 := n0_
     have BK216 := n1_
     have HO293 := n2_
     have HB := n3_
     have HK := n4_
     have HO290 := n5_
     clear n0_ n1_ n2_ n3_ n4_ n5_
     clear ho hb hg hat
     refine hK.out _ _ ⟨(blk_cell BK216.out 0).trans rfl, (blk_cell BK216.out 1).trans rfl, (blk_cell BK216.out 2).trans rfl, (blk_cell BK216.out 3).trans rfl, (blk_cell BK216.out 4).trans rfl⟩ (fun hHeld => ?_)
     clear hK K
     refine norm_ (a' := ?_) ?_ ?_
     rotate_left
     ·show Act.put _ (some 42) _ = _
      simp only [Act.put, List.setIfInBounds_toArray, List.set_cons_zero, List.set_cons_succ, i64_w, i32_w]
      rfl
     exact norm_ Q89 (hCont (v286, v289, v292) _ ⟨hHeld, Q15, Q41, Q32, Q67, Q63, Q74⟩)
   ·skip
    refine Kd.R_lit_step k38 _ 38 ?hg (N := 44) ?hd (xs := ([(⟨e0, e1, (⟨e2, e3⟩ : S36), e4⟩ : S38)] : List (S38))) (inner := [.int .i64 e0, .int .i64 e1, .int .i64 e2, .int .i64 e3, .int .i64 e4]) (ok := fun _ => True) (okp := fun _ => True) ?hr ?hp (fun _ hk => hk) trivial (Below.refl _ _) (Nat.le_refl _) Q0 ?_; (case hd => rfl); (case hg => rfl); (case hr => first | (go_simp; done) | (go_simp; rfl)); (case hp => exact (Reps.c5 (show Kd.M k38 _ _ _ (⟨e0, e1, (⟨e2, e3⟩ : S36), e4⟩ : S38) [.int .i64 e0, .int .i64 e1, .int .i64 e2, .int .i64 e3, .int .i64 e4] from (k38_mkM _ _ _ (⟨e0, e1, (⟨e2, e3⟩ : S36), e4⟩ : S38) )) (Reps.none _ _)))
    intro v292 w112 ho113 hb hg_ hnew_
    clear hg_ hnew_
    (first | rw [← Nyc.out] at ho113 | (simp only [Int.reduceToNat] at ho113; rw [← Nyc.out] at ho113))
    have n0_ := Aside0.mk (Kd.R_lower (Kd.R_newB ho113 (g := gb216) (o := .cells #[.int .i64 e0, .int .i64 e1, .int .i64 e2, .int .i64 e3, .int .i64 e4] 38 (0, 0)) Q32) (keep_size (w := w) (g := g) (row := none) Q63))
    have n1_ := Aside0.mk (IsS87.below Q67 hb)
    have n2_ := Aside0.mk (blk_below (g := gb216) (o := .cells #[.int .i64 e0, .int .i64 e1, .int .i64 e2, .int .i64 e3, .int .i64 e4] 38 (0, 0)) Q32 hb)
    have n3_ := Aside0.mk (KeepBut.trans Q63 (KeepBut.of_below hb g none) (.inl rfl))
    have n4_ := Aside0.mk (below_step Q74 hb)
    clear HI0
    clear BK216
    clear HK
    clear HB
    have HO293 := n0_
    have HI0 := n1_
    have BK216 := n2_
    have HK := n3_
    have HB := n4_
    clear n0_ n1_ n2_ n3_ n4_
    clear hb ho113
    refine hK.out _ _ ⟨(blk_cell BK216.out 0).trans rfl, (blk_cell BK216.out 1).trans rfl, (blk_cell BK216.out 2).trans rfl, (blk_cell BK216.out 3).trans rfl, (blk_cell BK216.out 4).trans rfl⟩ (fun hHeld => ?_)
    clear hK K
    refine norm_ (a' := ?_) ?_ ?_
    rotate_left
    ·show Act.put _ (some 44) _ = _
     simp only [Act.put, List.setIfInBounds_toArray, List.set_cons_zero, List.set_cons_succ, i64_w, i32_w]
     rfl
    refine one_ (i := 0) (N := some 40) c30 rfl rfl Q2 Q1 (fun K hK => ?_)
    refine Kd.R_lit_step k38 _ 38 ?hg (N := 40) ?hd (xs := ([] : List (S38))) (inner := []) (ok := fun _ => True) (okp := fun _ => True) ?hr ?hp (fun _ hk => hk) trivial (Below.refl _ _) (Nat.le_refl _) Q0 ?_; (case hd => rfl); (case hg => rfl); (case hr => first | (go_simp; done) | (go_simp; rfl)); (case hp => exact (Reps.none _ _))
    intro v286 w114 ho115 hb hg_ hnew_
    clear hg_ hnew_
    (first | rw [← Nya.out] at ho115 | (simp only [Int.reduceToNat] at ho115; rw [← Nya.out] at ho115))
    have n0_ := Aside0.mk (Kd.R_elder' Q16 (Kd.R_base ho115) hb)
    have n1_ := Aside0.mk (Kd.R_lower (Kd.R_newB (Kd.R_new' ho115 (Kd.R_lt Q16)) (g := gb216) (o := .cells #[.int .i64 e0, .int .i64 e1, .int .i64 e2, .int .i64 e3, .int .i64 e4] 38 (0, 0)) Q32) (keep_size (w := w) (g := g) (row := none) Q63))
    have n2_ := Aside0.mk (IsS87.below Q67 hb)
    have n3_ := Aside0.mk (blk_below (g := gb216) (o := .cells #[.int .i64 e0, .int .i64 e1, .int .i64 e2, .int .i64 e3, .int .i64 e4] 38 (0, 0)) Q32 hb)
    have n4_ := Aside0.mk (KeepBut.trans Q63 (KeepBut.of_below hb g none) (.inl rfl))
    have n5_ := Aside0.mk (below_step Q74 hb)
    clear HO293
    clear HI0
    clear BK216
    clear HK
    clear HB
    have HO293 := n0_
    have HO287 := n1_
    have HI0 := n2_
    have BK216 := n3_
    have HK := n4_
    have HB := n5_
    clear n0_ n1_ n2_ n3_ n4_ n5_
    clear hb ho115
    refine hK.out _ _ ⟨(blk_cell BK216.out 0).trans rfl, (blk_cell BK216.out 1).trans rfl, (blk_cell BK216.out 2).trans rfl, (blk_cell BK216.out 3).trans rfl, (blk_cell BK216.out 4).trans rfl⟩ (fun hHeld => ?_)
    clear hK K
    refine norm_ (a' := ?_) ?_ ?_
    rotate_left
    ·show Act.put _ (some 40) _ = _
     simp only [Act.put, List.setIfInBounds_toArray, List.set_cons_zero, List.set_cons_succ, i64_w, i32_w]
     rfl
    refine one_ (i := 2) (N := some 42) b7_5 rfl rfl Q2 Q1 (fun K hK => ?_)
    refine Kd.R_append_rows_step k38 w.heap.size (by rfl) (.tmp 40) (.tmp 41) 23 38 (.agg #[(.int .i64 0), (.int .i64 0), (.int .i64 0), (.int .i64 0), (.int .i64 0)]) 40 rfl Try.underlying23 info38 rfl Q1 (by omega) v286 ya l1 _ _ _ (fun k_ => some k_ ≠ (v292 : Value).ownBlock ∧ k_ ≠ gb216) (fun _ => False) rfl rfl ?aO ?aR (fun _ _ h => h) (fun _ h => h.elim) ?aF (Below.refl _ _) ?aS ?aL ?_
    (case aR => exact Kd.C_foot_now HR1.out Q63)
    (case aF => exact (fun k_ hk => ⟨Kd.fresh' (Kd.R_lt Q16) k_ hk, Kd.freshB (g := gb216) (o := .cells #[.int .i64 e0, .int .i64 e1, .int .i64 e2, .int .i64 e3, .int .i64 e4] 38 (0, 0)) Q32 k_ hk⟩))
    (case aO => exact (by (with_reducible repeat (first | apply Kd.R_alloc | apply Kd.R_drewN | apply Kd.R_drew)); exact Kd.R_mono HO287.out (fun _ hk => ⟨hk.1.2, hk.2⟩)))
    (case aS => exact (keep_size (w := w) (g := g) (row := none) Q63))
    (case aL => have := LMca.out; omega)
    intro v289 w116 ho hb hg hat
    rw [← Nyb.out] at ho
    have n0_ := Aside0.mk (IsS87.grown (show IsS87 w0 _ g s0_0 tp from by repeat (first | (with_reducible first | exact HI0.out | apply IsS87.alloc | apply IsS87.drewN | apply IsS87.drew | apply IsS87.set_1 | refine IsS87.far ?_ NB0_216.out _) | exact HI0.out)) hg (IsS87.own_ne HI0.out HO287.out Q1))
    have n1_ := Aside0.mk (blk_grown (g := gb216) (o := .cells #[.int .i64 e0, .int .i64 e1, .int .i64 e2, .int .i64 e3, .int .i64 e4] 38 (0, 0)) Q32 hg (Kd.R_away HO287.out (fun _ hk => hk.2)))
    have n2_ := Aside0.mk (Kd.R_after (ok := (fun k_ => k_ ≠ gb216)) (by (with_reducible repeat (first | apply Kd.R_alloc | apply Kd.R_drewN | apply Kd.R_drew)); exact Kd.R_mono HO293.out (fun _ hk => ⟨hk.1.2, hk.2⟩)) hg hat)
    have n3_ := Aside0.mk (below_weaken Q74 HL.out hb)
    have n4_ := Aside0.mk (KeepBut.trans Q63 (KeepBut.of_grown hg g) (Kd.R_base2 HO287.out))
    have n5_ := Aside0.mk (ho)
    clear HI0
    clear BK216
    clear HO293
    clear HB
    clear HK
    clear HO287
    have HI0 := n0_
    have BK216 := n1_
    have HO293 := n2_
    have HB := n3_
    have HK := n4_
    have HO290 := n5_
    clear n0_ n1_ n2_ n3_ n4_ n5_
    clear ho hb hg hat
    refine hK.out _ _ ⟨(blk_cell BK216.out 0).trans rfl, (blk_cell BK216.out 1).trans rfl, (blk_cell BK216.out 2).trans rfl, (blk_cell BK216.out 3).trans rfl, (blk_cell BK216.out 4).trans rfl⟩ (fun hHeld => ?_)
    clear hK K
    refine norm_ (a' := ?_) ?_ ?_
    rotate_left
    ·show Act.put _ (some 42) _ = _
     simp only [Act.put, List.setIfInBounds_toArray, List.set_cons_zero, List.set_cons_succ, i64_w, i32_w]
     rfl
    exact norm_ Q89 (hCont (v286, v289, v292) _ ⟨hHeld, Q15, Q41, Q32, Q67, Q63, Q74⟩)
  rintro ⟨v286, v289, v292⟩ w117 ⟨hS_, h0_, h1_, h2_, h3_, h4_, h5_⟩
  have n0_ : Aside0 (Kd.R k38 38 w117 w.heap.size (fun k_ => some k_ ≠ (v292 : Value).ownBlock ∧ k_ ≠ gb216) v289 yb) := ⟨h0_⟩
  have n1_ : Aside0 (Kd.R k38 38 w117 w.heap.size (fun k_ => some k_ ≠ (v289 : Value).ownBlock ∧ k_ ≠ gb216) v292 yc) := ⟨h1_⟩
  have n2_ : Aside0 (w117.heap[gb216]? = some (.cells #[.int .i64 e0, .int .i64 e1, .int .i64 e2, .int .i64 e3, .int .i64 e4] 38 (0, 0))) := ⟨h2_⟩
  have n3_ : Aside0 (IsS87 w0 w117 g s0_0 tp) := ⟨h3_⟩
  have n4_ : Aside0 (KeepBut w w117 g none) := ⟨h4_⟩
  have n5_ : Aside0 (Below w0.heap.size w0 w117) := ⟨h5_⟩
  clear BK216
  clear HI0
  clear HK
  clear HB
  clear h0_ h1_ h2_ h3_ h4_ h5_
  have HO290 := n0_
  have HO293 := n1_
  have BK216 := n2_
  have HI0 := n3_
  have HK := n4_
  have HB := n5_
  clear n0_ n1_ n2_ n3_ n4_ n5_
  have hHeld : w117.cell? ⟨gb216, 0, none⟩ = some (.int .i64 e0) ∧ w117.cell? ⟨gb216, 1, none⟩ = some (.int .i64 e1) ∧ w117.cell? ⟨gb216, 2, none⟩ = some (.int .i64 e2) ∧ w117.cell? ⟨gb216, 3, none⟩ = some (.int .i64 e3) ∧ w117.cell? ⟨gb216, 4, none⟩ = some (.int .i64 e4) := hS_
  obtain ⟨Ao119, co119, eo119⟩ := Kd.R_slice HO293.out
  (first | subst eo119 | (injection eo119 with f1_ f2_ f3_; have f4_ := f1_.symm; have f5_ := f3_.symm; clear f1_ f2_ f3_; subst f4_; subst f5_))
  refine norm_ (a' := ?_) ?_ ?_
  rotate_left
  ·simp only [putAll, Act.put, List.setIfInBounds_toArray, List.set_cons_zero, List.set_cons_succ]
   rfl
  refine one_ (i := 5) (N := some 45) b7_6 rfl rfl Q2 Q1 (fun K hK => ?_)
  refine Kd.R_append_rows_step k38 w.heap.size (by rfl) (.tmp 42) (.tmp 44) 23 38 (.agg #[(.int .i64 0), (.int .i64 0), (.int .i64 0), (.int .i64 0), (.int .i64 0)]) 40 rfl Try.underlying23 info38 rfl Q1 (by omega) v289 yb yc _ _ _ (fun k_ => some k_ ≠ (.slice Ao119 yc.length co119 : Value).ownBlock ∧ k_ ≠ gb216) (fun _ => False) rfl rfl ?aO ?aR (fun _ _ h => h) (fun _ h => h.elim) ?aF (Below.refl _ _) ?aS ?aL ?_
  (case aR => exact (by repeat (first | exact (Kd.R_reads' HO293.out).2.2 | (with_reducible refine Kd.C_alloc ?_ _) | (with_reducible refine Kd.C_drewN ?_ _) | (with_reducible refine Kd.C_drew ?_))))
  (case aF => exact (fun k_ hk => ⟨Kd.fresh' (Kd.R_lt Q16) k_ hk, Kd.freshB (g := gb216) (o := .cells #[.int .i64 e0, .int .i64 e1, .int .i64 e2, .int .i64 e3, .int .i64 e4] 38 (0, 0)) Q32 k_ hk⟩))
  (case aO => exact Q15)
  (case aS => exact (keep_size (w := w) (g := g) (row := none) Q63))
  (case aL => have := LMcb.out; omega)
  intro v295 w118 ho hb hg hat
  rw [← Nyd.out] at ho
  have n0_ := Aside0.mk (IsS87.grown (show IsS87 w0 _ g s0_0 tp from by repeat (first | (with_reducible first | exact HI0.out | apply IsS87.alloc | apply IsS87.drewN | apply IsS87.drew | apply IsS87.set_1 | refine IsS87.far ?_ NB0_216.out _) | exact HI0.out)) hg (IsS87.own_ne HI0.out HO290.out Q1))
  have n1_ := Aside0.mk (blk_grown (g := gb216) (o := .cells #[.int .i64 e0, .int .i64 e1, .int .i64 e2, .int .i64 e3, .int .i64 e4] 38 (0, 0)) Q32 hg (Kd.R_away HO290.out (fun _ hk => hk.2)))
  have n2_ := Aside0.mk (Kd.R_after (ok := (fun k_ => k_ ≠ gb216)) Q41 hg hat)
  have n3_ := Aside0.mk (below_weaken Q74 HL.out hb)
  have n4_ := Aside0.mk (KeepBut.trans Q63 (KeepBut.of_grown hg g) (Kd.R_base2 HO290.out))
  have n5_ := Aside0.mk (ho)
  clear HI0
  clear BK216
  clear HO293
  clear HB
  clear HK
  clear HO290
  have HI0 := n0_
  have BK216 := n1_
  have HO293 := n2_
  have HB := n3_
  have HK := n4_
  have HO296 := n5_
  clear n0_ n1_ n2_ n3_ n4_ n5_
  clear ho hb hg hat
  refine hK.out _ _ ⟨(blk_cell BK216.out 0).trans rfl, (blk_cell BK216.out 1).trans rfl, (blk_cell BK216.out 2).trans rfl, (blk_cell BK216.out 3).trans rfl, (blk_cell BK216.out 4).trans rfl⟩ (fun hHeld => ?_)
  clear hK K
  refine norm_ (a' := ?_) ?_ ?_
  rotate_left
  ·show Act.put _ (some 45) _ = _
   simp only [Act.put, List.setIfInBounds_toArray, List.set_cons_zero, List.set_cons_succ, i64_w, i32_w]
   rfl
  refine pU_ 6 4 b7_7 ?_
  refine done_ Q2 ?_
  try go_wp2
  go_ret
  exact ⟨_, Q10, by (with_reducible repeat (first | apply Kd.R_alloc | apply Kd.R_drewN | apply Kd.R_drew)); exact Kd.R_mono HO296.out (fun _ hk => trivial), Q67, Q74, Q63⟩
end Go.Proofs.Ytjlkffmdmifahaa.PFnBatchTurn
