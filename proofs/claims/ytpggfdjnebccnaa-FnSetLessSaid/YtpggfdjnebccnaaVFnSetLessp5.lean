/- Functions that the law comes to: each as a plain Lean function, with the contract of the Go function. -/
import Derived.Test.YtpggfdjnebccnaaVFnSetLessw
import Derived.Test.YtpggfdjnebccnaaVFnSetLessp0
import Derived.Test.YtpggfdjnebccnaaVFnSetLessp3
import Derived.Test.YtpggfdjnebccnaaVFnSetLessp4
namespace Go.Proofs.Ytpggfdjnebccnaa.PFnSetLess
open Go.RowKit Go.Proofs.YtpggfdjnebccnaaW.PrintWords Go.Proofs.YtpggfdjnebccnaaW.PrintLast Go.Proofs.YtpggfdjnebccnaaW.PrintMore
attribute [local go_sem] max2_int min2_int max_two min_two max_three min_three max_four min_four
set_option linter.unusedVariables false
set_option linter.unusedSimpArgs false
attribute [local go_sem high] eqA80
set_option maxHeartbeats 8000000 in
set_option maxRecDepth 100000 in
theorem spec_l71Row.calls (k : Nat) (g : Nat) (s0_0 : List Int) (s0_1 : Int) (r1 : Int) (r2 : Int) (r3 : Int) (r4 : Int) (r5 : Int) (r6 : Int) (w0 w : World) (hI : IsS112 w0 w g s0_0 s0_1) (hB : Below w0.heap.size w0 w) (h : spec_l71Row.f k s0_0 s0_1 = some (r1, r2, r3, r4, r5, r6)) :
  Calls Try.prog 125 #[.pointer (some ⟨g, 0, none⟩)] w fun e w' => e = .returned (.agg #[.int .i64 r1, .int .i64 r2, .int .i64 r3, .int .i64 r4, .int .i64 r5]) ∧ IsS112 w0 w' g s0_0 r6 ∧ Below w0.heap.size w0 w' ∧ KeepBut w w' g none := by
 have hu90 := Try.underlying90
 have HI0 := Aside0.mk hI
 have HK := Aside0.mk (KeepBut.refl w g none)
 have HL := Aside0.mk hB.size
 clear hI
 have HW0 := Aside0.mk hB.size
 have HB := Aside0.mk hB
 clear hB
 have H : ((spec_l6Rd_pick.f k s0_0 s0_1 4).bind fun bt264 => ((some (([0, 1, 2, 3, 4, 9, 10, 57, 99] : List Int) : List Int)).bind fun y266 => ((spec_l6Rd_pick.f k s0_0 bt264.2 9).bind fun bt269 => (if 0 ≤ bt269.1 then (if bt269.1 < (y266.length : Int) then ((spec_l71Time.f k s0_0 bt269.2).bind fun bt272 => ((some (([1, 1, 1, 2, (-1), (-1), 3, 0] : List Int) : List Int)).bind fun y275 => ((spec_l6Rd_pick.f k s0_0 bt272.2.2 8).bind fun bt278 => (if 0 ≤ bt278.1 then (if bt278.1 < (y275.length : Int) then (some (bt264.1, rd y266 bt269.1, bt272.1, bt272.2.1, rd y275 bt278.1, bt278.2)) else (none)) else (none))))) else (none)) else (none))))) = some (r1, r2, r3, r4, r5, r6) := h
 clear h
 replace H := Option.bind_eq_some_iff.mp H
 obtain ⟨⟨t264, t265⟩, A20, H⟩ := H
 replace H : ((some (([0, 1, 2, 3, 4, 9, 10, 57, 99] : List Int) : List Int)).bind fun y266 => ((spec_l6Rd_pick.f k s0_0 t265 9).bind fun bt269 => (if 0 ≤ bt269.1 then (if bt269.1 < (y266.length : Int) then ((spec_l71Time.f k s0_0 bt269.2).bind fun bt272 => ((some (([1, 1, 1, 2, (-1), (-1), 3, 0] : List Int) : List Int)).bind fun y275 => ((spec_l6Rd_pick.f k s0_0 bt272.2.2 8).bind fun bt278 => (if 0 ≤ bt278.1 then (if bt278.1 < (y275.length : Int) then (some (t264, rd y266 bt269.1, bt272.1, bt272.2.1, rd y275 bt278.1, bt278.2)) else (none)) else (none))))) else (none)) else (none)))) = some (r1, r2, r3, r4, r5, r6) := H
 have A2 := Aside0.mk A20
 clear A20
 obtain ⟨y266, hy266⟩ : ∃ y_ : List Int, y_ = (([0, 1, 2, 3, 4, 9, 10, 57, 99] : List Int)) := ⟨_, rfl⟩
 replace H : ((spec_l6Rd_pick.f k s0_0 t265 9).bind fun bt269 => (if 0 ≤ bt269.1 then (if bt269.1 < (y266.length : Int) then ((spec_l71Time.f k s0_0 bt269.2).bind fun bt272 => ((some (([1, 1, 1, 2, (-1), (-1), 3, 0] : List Int) : List Int)).bind fun y275 => ((spec_l6Rd_pick.f k s0_0 bt272.2.2 8).bind fun bt278 => (if 0 ≤ bt278.1 then (if bt278.1 < (y275.length : Int) then (some (t264, rd y266 bt269.1, bt272.1, bt272.2.1, rd y275 bt278.1, bt278.2)) else (none)) else (none))))) else (none)) else (none))) = some (r1, r2, r3, r4, r5, r6) := by first | (rw [hy266]; with_reducible exact H) | (have H2_ := (Option.bind_some _ _).symm.trans H; rw [hy266]; with_reducible exact H2_) | (have H2_ := (Option.bind_some _ _).symm.trans H; with_reducible exact H2_) | with_reducible exact H | (rw [hy266]; exact H) | exact H
 have Ny266 := Aside0.mk hy266
 clear hy266
 replace H := Option.bind_eq_some_iff.mp H
 obtain ⟨⟨t269, t270⟩, A30, H⟩ := H
 replace H : (if 0 ≤ t269 then (if t269 < (y266.length : Int) then ((spec_l71Time.f k s0_0 t270).bind fun bt272 => ((some (([1, 1, 1, 2, (-1), (-1), 3, 0] : List Int) : List Int)).bind fun y275 => ((spec_l6Rd_pick.f k s0_0 bt272.2.2 8).bind fun bt278 => (if 0 ≤ bt278.1 then (if bt278.1 < (y275.length : Int) then (some (t264, rd y266 t269, bt272.1, bt272.2.1, rd y275 bt278.1, bt278.2)) else (none)) else (none))))) else (none)) else (none)) = some (r1, r2, r3, r4, r5, r6) := H
 have A3 := Aside0.mk A30
 clear A30
 by_cases c4 : 0 ≤ t269
 ·rw [if_pos c4] at H
  have c4b0 : decide (0 ≤ t269) = true := decide_eq_true c4
  clear c4
  by_cases c5 : t269 < (y266.length : Int)
  ·rw [if_pos c5] at H
   have c5b0 : decide (t269 < (y266.length : Int)) = true := decide_eq_true c5
   clear c5
   replace H := Option.bind_eq_some_iff.mp H
   obtain ⟨⟨t272, t273, t274⟩, A60, H⟩ := H
   replace H : ((some (([1, 1, 1, 2, (-1), (-1), 3, 0] : List Int) : List Int)).bind fun y275 => ((spec_l6Rd_pick.f k s0_0 t274 8).bind fun bt278 => (if 0 ≤ bt278.1 then (if bt278.1 < (y275.length : Int) then (some (t264, rd y266 t269, t272, t273, rd y275 bt278.1, bt278.2)) else (none)) else (none)))) = some (r1, r2, r3, r4, r5, r6) := H
   have A6 := Aside0.mk A60
   clear A60
   obtain ⟨y275, hy275⟩ : ∃ y_ : List Int, y_ = (([1, 1, 1, 2, (-1), (-1), 3, 0] : List Int)) := ⟨_, rfl⟩
   replace H : ((spec_l6Rd_pick.f k s0_0 t274 8).bind fun bt278 => (if 0 ≤ bt278.1 then (if bt278.1 < (y275.length : Int) then (some (t264, rd y266 t269, t272, t273, rd y275 bt278.1, bt278.2)) else (none)) else (none))) = some (r1, r2, r3, r4, r5, r6) := by first | (rw [hy275]; with_reducible exact H) | (have H2_ := (Option.bind_some _ _).symm.trans H; rw [hy275]; with_reducible exact H2_) | (have H2_ := (Option.bind_some _ _).symm.trans H; with_reducible exact H2_) | with_reducible exact H | (rw [hy275]; exact H) | exact H
   have Ny275 := Aside0.mk hy275
   clear hy275
   replace H := Option.bind_eq_some_iff.mp H
   obtain ⟨⟨t278, t279⟩, A70, H⟩ := H
   replace H : (if 0 ≤ t278 then (if t278 < (y275.length : Int) then (some (t264, rd y266 t269, t272, t273, rd y275 t278, t279)) else (none)) else (none)) = some (r1, r2, r3, r4, r5, r6) := H
   have A7 := Aside0.mk A70
   clear A70
   by_cases c8 : 0 ≤ t278
   ·rw [if_pos c8] at H
    have c8b0 : decide (0 ≤ t278) = true := decide_eq_true c8
    clear c8
    by_cases c9 : t278 < (y275.length : Int)
    ·rw [if_pos c9] at H
     have c9b0 : decide (t278 < (y275.length : Int)) = true := decide_eq_true c9
     clear c9
     simp only [Option.some.injEq, Prod.mk.injEq] at H
     obtain ⟨rfl, rfl, rfl, rfl, rfl, rfl⟩ := H
     go_enter Try.func125, Try.ntmps125
     try go_wp2_with (first | ((with_reducible refine gate_dst (N := 2) rfl ?_); refine box_event ?hg (N := 2) ?hd (cs := #[.int .i64 0, .int .i64 0, .int .i64 0, .int .i64 0, .int .i64 0]) (t := 90) ?hr ?_; (case hd => rfl); (case hg => rfl); (case hr => first | (go_simp; done) | (go_simp; rfl)); intro gb263 hg w10 hbox hb; have n0_ := Aside0.mk (IsS112.below (by repeat (first | (with_reducible first | exact HI0.out | apply IsS112.alloc | apply IsS112.drewN | apply IsS112.drew | apply IsS112.set_1) | exact HI0.out)) hb); have n1_ := Aside0.mk (KeepBut.trans (by repeat (first | (with_reducible first | exact HK.out | apply KeepBut.set_ | apply keep_drewN | apply keep_drew | apply keep_alloc) | exact HK.out)) (KeepBut.of_below hb g none) (.inl rfl)); have n2_ := Aside0.mk (below_step (by repeat (first | (with_reducible first | exact HB.out | apply below_alloc | apply pw_below_drewN | apply below_drew1 | refine below_set ?_ (IsS112.ge HI0.out)) | exact HB.out)) hb); have n3_ := Aside0.mk (hbox); have n4_ := Aside0.mk ((by rw [hg]; exact (keep_size (w := w) (g := g) (row := none) (by repeat (first | (with_reducible first | exact HK.out | apply KeepBut.set_ | apply keep_drewN | apply keep_drew | apply keep_alloc) | exact HK.out))) : w.heap.size ≤ gb263)); have n5_ := Aside0.mk ((Nat.le_trans HW0.out (by rw [hg]; exact (keep_size (w := w) (g := g) (row := none) (by repeat (first | (with_reducible first | exact HK.out | apply KeepBut.set_ | apply keep_drewN | apply keep_drew | apply keep_alloc) | exact HK.out))) : w.heap.size ≤ gb263) : w0.heap.size ≤ gb263)); have n6_ := Aside0.mk ((by rw [hg]; exact Nat.ne_of_lt (IsS112.lt (show IsS112 w0 _ g s0_0 s0_1 from by repeat (first | (with_reducible first | exact HI0.out | apply IsS112.alloc | apply IsS112.drewN | apply IsS112.drew | apply IsS112.set_1) | exact HI0.out))) : g ≠ gb263)); have n7_ := Aside0.mk ((by rw [hg]; exact Nat.ne_of_gt (IsS112.lt (show IsS112 w0 _ g s0_0 s0_1 from by repeat (first | (with_reducible first | exact HI0.out | apply IsS112.alloc | apply IsS112.drewN | apply IsS112.drew | apply IsS112.set_1) | exact HI0.out))) : gb263 ≠ g)); clear HI0; clear HK; clear HB; have HI0 := n0_; have HK := n1_; have HB := n2_; have BK263 := n3_; have GW263 := n4_; have GE263 := n5_; have NB0_263 := n6_; have NB263_0 := n7_; clear n0_ n1_ n2_ n3_ n4_ n5_ n6_ n7_; clear hb hbox hg))
     have pi271 : (0 ≤ (t269 : Int)) = True := eq_true (of_decide_eq_true (by first | (with_reducible assumption) | assumption))
     have qi271 : (t269 < (y266.length : Int)) = True := eq_true (of_decide_eq_true (by first | (with_reducible assumption) | assumption))
     have pi280 : (0 ≤ (t278 : Int)) = True := eq_true (of_decide_eq_true (by first | (with_reducible assumption) | assumption))
     have qi280 : (t278 < (y275.length : Int)) = True := eq_true (of_decide_eq_true (by first | (with_reducible assumption) | assumption))
     have n0_ := Aside0.mk (blk_drew BK263.out)
     have n1_ := Aside0.mk (IsS112.drew HI0.out)
     have n2_ := Aside0.mk (keep_drew HK.out)
     have n3_ := Aside0.mk (below_drew1 HB.out)
     clear BK263
     clear HI0
     clear HK
     clear HB
     have BK263 := n0_
     have HI0 := n1_
     have HK := n2_
     have HB := n3_
     clear n0_ n1_ n2_ n3_
     refine start_ (n := 16) (S := fun w' => True) (ds := []) b16_0 (by kernel_rfl) rfl rfl trivial (fun hHeld => ?_); refine with_tabW spec_l71Row.tab1 spec_l71Row.bits1 (fun HT_ HW_ => ?_)
     generalize w10.drew = w11 at BK263 HI0 HK HB hHeld ⊢
     refine pure_ (i := 0) (N := some 3) (v := ?_) (a' := ?_) b16_1 rfl rfl (any_of HT_.out (by kernel_rfl)) (fun _ _ _ h => h) (Or.inl ⟨by rfl, ?_⟩) ?_ ?_
     rotate_left
     ·intro w'
      go_simp
      with_reducible rfl
     rotate_left
     ·simp only [Act.put, List.setIfInBounds_toArray, List.set_cons_zero, List.set_cons_succ, i64_w, i32_w]
      rfl
     refine pure_ (i := 3) (N := some 6) (v := ?_) (a' := ?_) c119 rfl rfl (any_of HT_.out (by kernel_rfl)) (fun _ _ _ h => h) (Or.inl ⟨by rfl, ?_⟩) ?_ ?_
     rotate_left
     ·intro w'
      go_simp
      with_reducible rfl
     rotate_left
     ·simp only [Act.put, List.setIfInBounds_toArray, List.set_cons_zero, List.set_cons_succ, i64_w, i32_w]
      rfl
     refine pure_ (i := 7) (N := some 10) (v := ?_) (a' := ?_) c120 rfl rfl (any_of HT_.out (by kernel_rfl)) (fun _ _ _ h => h) (Or.inl ⟨by rfl, ?_⟩) ?_ ?_
     rotate_left
     ·intro w'
      go_simp
      with_reducible rfl
     rotate_left
     ·simp only [Act.put, List.setIfInBounds_toArray, List.set_cons_zero, List.set_cons_succ, i64_w, i32_w]
      rfl
     refine pure_ (i := 10) (N := some 13) (v := ?_) (a' := ?_) c121 rfl rfl (any_of HT_.out (by kernel_rfl)) (fun _ _ _ h => h) (Or.inl ⟨by rfl, ?_⟩) ?_ ?_
     rotate_left
     ·intro w'
      go_simp
      with_reducible rfl
     rotate_left
     ·simp only [Act.put, List.setIfInBounds_toArray, List.set_cons_zero, List.set_cons_succ, i64_w, i32_w]
      rfl
     refine inv_at [1, 2, 4, 5, 6, 8, 9, 11, 12, 13, 14, 15] (fun a0_ b a w' => ∃ (v267 : Value) (adz_v267 : Addr) (v276 : Value) (adz_v276 : Addr) (m5_ : Value) (m12_ : Value), a = putSel a0_ b [(1, 4, .int .i64 t264), (2, 5, v267), (4, 7, .int .i64 t269), (5, 8, m5_), (6, 9, .int .i64 (rd y266 t269)), (8, 11, .agg #[.int .i64 t272, .int .i64 t273]), (9, 12, v276), (11, 14, .int .i64 t278), (12, 15, m12_), (13, 16, .int .i64 (rd y275 t278)), (14, 17, .agg #[.int .i64 t264, .int .i64 (rd y266 t269), .int .i64 t272, .int .i64 t273, .int .i64 (rd y275 t278)])] ∧ (b 15 = false → w'.heap[gb263]? = some (.cells #[.int .i64 0, .int .i64 0, .int .i64 0, .int .i64 0, .int .i64 0] 90 (0, 0))) ∧ (b 1 = false → IsS112 w0 w' g s0_0 s0_1) ∧ (KeepBut w w' g none) ∧ (Below w0.heap.size w0 w') ∧ (b 1 = true → b 4 = false → IsS112 w0 w' g s0_0 t265) ∧ (b 2 = true → Kd.R (Kd.int .i64) 3 w' w.heap.size (fun _ => True) v267 y266) ∧ (b 2 = true → ∃ c_, (v267 : Value) = .slice (some adz_v267) y266.length c_) ∧ (b 4 = true → b 8 = false → IsS112 w0 w' g s0_0 t270) ∧ (b 8 = true → b 11 = false → IsS112 w0 w' g s0_0 t274) ∧ (b 9 = true → Kd.R (Kd.int .i64) 3 w' w.heap.size (fun _ => True) v276 y275) ∧ (b 9 = true → ∃ c_, (v276 : Value) = .slice (some adz_v276) y275.length c_) ∧ (b 11 = true → IsS112 w0 w' g s0_0 t279) ∧ (b 15 = true → w'.heap[gb263]? = some (.cells #[.int .i64 t264, .int .i64 (rd y266 t269), .int .i64 t272, .int .i64 t273, .int .i64 (rd y275 t278)] 90 (0, 0))) ∧ (b 5 = true → (m5_ : Value) = .pointer (some (adz_v267.add (t269).toNat))) ∧ (b 12 = true → (m12_ : Value) = .pointer (some (adz_v276.add (t278).toNat)))) HT_.out HW_.out (by kernel_rfl) (by kernel_rfl) ?_ ?_ ?_
     ·exact ⟨.bool false, ⟨0, 0, none⟩, .bool false, ⟨0, 0, none⟩, .bool false, .bool false, by simp only [putSel, Bool.false_eq_true, if_false], fun _ => BK263.out, fun _ => HI0.out, HK.out, HB.out, fun h_ => absurd h_ (by decide), fun h_ => absurd h_ (by decide), fun h_ => absurd h_ (by decide), fun h_ => absurd h_ (by decide), fun h_ => absurd h_ (by decide), fun h_ => absurd h_ (by decide), fun h_ => absurd h_ (by decide), fun h_ => absurd h_ (by decide), fun h_ => absurd h_ (by decide), fun h_ => absurd h_ (by decide), fun h_ => absurd h_ (by decide)⟩
     ·skip
      clear BK263 HB HI0 HK
      refine steps_cons ?_ ?_
      ·rintro b a w' ⟨v267, adz_v267, v276, adz_v276, m5_, m12_, ha, Q_BK263, Q_HI0, Q_HK, Q_HB, Q_HI0_e1, Q_HO268, Q_HA_HO268, Q_HI0_e4, Q_HI0_e8, Q_HO277, Q_HA_HO277, Q_HI0_e11, Q_BK263_e15, Q_X5_, Q_X12_⟩ hb_ hon hoff
       refine ⟨_, rfl, fun K hK => ?_⟩
       have e3 : a.tmps[3]? = some (.pointer (some ⟨g, 0, none⟩)) := by rw [ha]; exact (putSel_off rfl).trans rfl
       replace ha := Aside0.mk ha
       have BK263 := Aside0.mk (Q_BK263 (hoff 15 (by kernel_rfl)))
       have HI0 := Aside0.mk (Q_HI0 hb_)
       have HK := Aside0.mk Q_HK
       have HB := Aside0.mk Q_HB
       refine goes_ Try.func67 (by kernel_rfl) rfl #[.pointer (some ⟨g, 0, none⟩), .int .i64 4] (by rfl) rfl rfl (by first | (simp only [List.map_toArray, List.map_cons, List.map_nil, Act.eval, Array.getD_eq_getD_getElem?, Option.getD_some, e3]; done) | (simp only [List.map_toArray, List.map_cons, List.map_nil, Act.eval, Array.getD_eq_getD_getElem?, Option.getD_some, e3]; rfl)) ?_
       with_reducible refine (spec_l6Rd_pick.calls k g s0_0 s0_1 4 t264 t265 w0 _ ?side1 ?side2 A2.out).mono ?_
       (case side1 => repeat (first | (with_reducible first | exact HI0.out | apply IsS112.alloc | apply IsS112.drewN | apply IsS112.drew | apply IsS112.set_1 | refine IsS112.far ?_ NB0_263.out _) | exact HI0.out))
       (case side2 => repeat (first | (with_reducible first | exact HB.out | apply below_alloc | apply pw_below_drewN | apply below_drew1 | refine below_set ?_ (IsS112.ge HI0.out) | refine below_set ?_ GE263.out) | exact HB.out))
       rintro e w12 ⟨rfl, hi, hb, hk⟩
       refine ⟨_, rfl, ?_⟩
       have n0_ := Aside0.mk (KeepBut.blk hk (g' := gb263) (o := .cells #[.int .i64 0, .int .i64 0, .int .i64 0, .int .i64 0, .int .i64 0] 90 (0, 0)) (by (with_reducible repeat (first | refine blk_drewN ?_ _ | refine blk_drew ?_ | refine blk_alloc ?_ _)); exact BK263.out) NB263_0.out (by simp))
       have n1_ := Aside0.mk (KeepBut.trans (by repeat (first | (with_reducible first | exact HK.out | apply KeepBut.set_ | apply keep_drewN | apply keep_drew | apply keep_alloc | refine keep_far ?_ GW263.out _) | exact HK.out)) hk (.inl rfl))
       have n2_ := Aside0.mk (hb)
       have n3_ := Aside0.mk (hi)
       have z_HO268 := fun (h0_ : b 2 = true) => (show Kd.R (Kd.int .i64) 3 w12 w.heap.size (fun _ => True) v267 y266 from by first | exact (Kd.R_mono (Kd.R_keep (IsS112.apart (show IsS112 w0 _ g s0_0 s0_1 from by repeat (first | (with_reducible first | exact HI0.out | apply IsS112.alloc | apply IsS112.drewN | apply IsS112.drew | apply IsS112.set_1 | refine IsS112.far ?_ NB0_263.out _) | exact HI0.out)) (by (with_reducible repeat (first | apply Kd.R_alloc | apply Kd.R_drewN | apply Kd.R_drew)); exact (Q_HO268 h0_)) (by decide)) hk (fun _ h => h.2)) (fun _ h => h.1)) | exact Kd.R_mono (Kd.R_mono (Kd.R_keep (IsS112.apart (show IsS112 w0 _ g s0_0 s0_1 from by repeat (first | (with_reducible first | exact HI0.out | apply IsS112.alloc | apply IsS112.drewN | apply IsS112.drew | apply IsS112.set_1 | refine IsS112.far ?_ NB0_263.out _) | exact HI0.out)) (by (with_reducible repeat (first | apply Kd.R_alloc | apply Kd.R_drewN | apply Kd.R_drew)); exact (Q_HO268 h0_)) (by decide)) hk (fun _ h => h.2)) (fun _ h => h.1)) (fun _ h_ => by first | trivial | exact h_ | exact h_.1))
       have z_HO277 := fun (h0_ : b 9 = true) => (show Kd.R (Kd.int .i64) 3 w12 w.heap.size (fun _ => True) v276 y275 from by first | exact (Kd.R_mono (Kd.R_keep (IsS112.apart (show IsS112 w0 _ g s0_0 s0_1 from by repeat (first | (with_reducible first | exact HI0.out | apply IsS112.alloc | apply IsS112.drewN | apply IsS112.drew | apply IsS112.set_1 | refine IsS112.far ?_ NB0_263.out _) | exact HI0.out)) (by (with_reducible repeat (first | apply Kd.R_alloc | apply Kd.R_drewN | apply Kd.R_drew)); exact (Q_HO277 h0_)) (by decide)) hk (fun _ h => h.2)) (fun _ h => h.1)) | exact Kd.R_mono (Kd.R_mono (Kd.R_keep (IsS112.apart (show IsS112 w0 _ g s0_0 s0_1 from by repeat (first | (with_reducible first | exact HI0.out | apply IsS112.alloc | apply IsS112.drewN | apply IsS112.drew | apply IsS112.set_1 | refine IsS112.far ?_ NB0_263.out _) | exact HI0.out)) (by (with_reducible repeat (first | apply Kd.R_alloc | apply Kd.R_drewN | apply Kd.R_drew)); exact (Q_HO277 h0_)) (by decide)) hk (fun _ h => h.2)) (fun _ h => h.1)) (fun _ h_ => by first | trivial | exact h_ | exact h_.1))
       clear BK263
       clear HK
       clear HB
       clear HI0
       have BK263 := n0_
       have HK := n1_
       have HB := n2_
       have HI0 := n3_
       clear n0_ n1_ n2_ n3_
       (try clear hb)
       (try clear hb2)
       (try clear hk)
       (try clear hi)
       refine hK.out _ _ ⟨v267, adz_v267, v276, adz_v276, m5_, m12_, (by rw [ha.out]; exact putSel_upk 0 hb_ rfl rfl rfl), fun _ => (by (with_reducible repeat (first | refine blk_drewN ?_ _ | refine blk_drew ?_ | refine blk_alloc ?_ _)); exact BK263.out), fun h0_ => absurd ((up_self b 1).symm.trans h0_) (by decide), (by repeat (first | (with_reducible first | exact HK.out | apply KeepBut.set_ | apply keep_drewN | apply keep_drew | apply keep_alloc | refine keep_far ?_ GW263.out _) | exact HK.out)), (by repeat (first | (with_reducible first | exact HB.out | apply below_alloc | apply pw_below_drewN | apply below_drew1 | refine below_set ?_ (IsS112.ge HI0.out) | refine below_set ?_ GE263.out) | exact HB.out)), fun _ _ => (by repeat (first | (with_reducible first | exact HI0.out | apply IsS112.alloc | apply IsS112.drewN | apply IsS112.drew | apply IsS112.set_1 | refine IsS112.far ?_ NB0_263.out _) | exact HI0.out)), z_HO268, Q_HA_HO268, fun h0_ _ => absurd ((hoff 4 (by kernel_rfl)).symm.trans h0_) (by decide), fun h0_ _ => absurd ((hoff 8 (by kernel_rfl)).symm.trans h0_) (by decide), z_HO277, Q_HA_HO277, fun h0_ => absurd ((hoff 11 (by kernel_rfl)).symm.trans h0_) (by decide), fun h0_ => absurd ((hoff 15 (by kernel_rfl)).symm.trans h0_) (by decide), fun h0_ => absurd ((hoff 5 (by kernel_rfl)).symm.trans h0_) (by decide), fun h0_ => absurd ((hoff 12 (by kernel_rfl)).symm.trans h0_) (by decide)⟩
      refine steps_cons ?_ ?_
      ·rintro b a w' ⟨v267, adz_v267, v276, adz_v276, m5_, m12_, ha, Q_BK263, Q_HI0, Q_HK, Q_HB, Q_HI0_e1, Q_HO268, Q_HA_HO268, Q_HI0_e4, Q_HI0_e8, Q_HO277, Q_HA_HO277, Q_HI0_e11, Q_BK263_e15, Q_X5_, Q_X12_⟩ hb_ hon hoff
       refine ⟨_, rfl, fun K hK => ?_⟩
       replace ha := Aside0.mk ha
       have BK263 := Aside0.mk (Q_BK263 (hoff 15 (by kernel_rfl)))
       have HK := Aside0.mk Q_HK
       have HB := Aside0.mk Q_HB
       refine Kd.R_lit_step (Kd.int .i64) _ 3 ?hg (N := 5) ?hd (xs := ([0, 1, 2, 3, 4, 9, 10, 57, 99] : List Int)) (inner := [.int .i64 0, .int .i64 1, .int .i64 2, .int .i64 3, .int .i64 4, .int .i64 9, .int .i64 10, .int .i64 57, .int .i64 99]) (ok := fun _ => True) (okp := fun _ => True) ?hr ?hp (fun _ hk => hk) trivial (Below.refl _ _) (Nat.le_refl _) (by simp) ?_; (case hd => rfl); (case hg => rfl); (case hr => first | (go_simp; done) | (go_simp; rfl)); (case hp => exact (Reps.one (show Kd.M (Kd.int .i64) _ _ _ 0 [.int .i64 0] from rfl) (Reps.one (show Kd.M (Kd.int .i64) _ _ _ 1 [.int .i64 1] from rfl) (Reps.one (show Kd.M (Kd.int .i64) _ _ _ 2 [.int .i64 2] from rfl) (Reps.one (show Kd.M (Kd.int .i64) _ _ _ 3 [.int .i64 3] from rfl) (Reps.one (show Kd.M (Kd.int .i64) _ _ _ 4 [.int .i64 4] from rfl) (Reps.one (show Kd.M (Kd.int .i64) _ _ _ 9 [.int .i64 9] from rfl) (Reps.one (show Kd.M (Kd.int .i64) _ _ _ 10 [.int .i64 10] from rfl) (Reps.one (show Kd.M (Kd.int .i64) _ _ _ 57 [.int .i64 57] from rfl) (Reps.one (show Kd.M (Kd.int .i64) _ _ _ 99 [.int .i64 99] from rfl) (Reps.none _ _)))))))))))
       intro v267 w12 ho13 hb hg_ hnew_
       clear hg_ hnew_
       (first | rw [← Ny266.out] at ho13 | (simp only [Int.reduceToNat] at ho13; rw [← Ny266.out] at ho13))
       have n0_ := Aside0.mk (Kd.R_lower ho13 (keep_size (w := w) (g := g) (row := none) (by repeat (first | (with_reducible first | exact HK.out | apply KeepBut.set_ | apply keep_drewN | apply keep_drew | apply keep_alloc | refine keep_far ?_ GW263.out _) | exact HK.out))))
       have n2_ := Aside0.mk (blk_below (g := gb263) (o := .cells #[.int .i64 0, .int .i64 0, .int .i64 0, .int .i64 0, .int .i64 0] 90 (0, 0)) (by (with_reducible repeat (first | refine blk_drewN ?_ _ | refine blk_drew ?_ | refine blk_alloc ?_ _)); exact BK263.out) hb)
       have n3_ := Aside0.mk (KeepBut.trans (by repeat (first | (with_reducible first | exact HK.out | apply KeepBut.set_ | apply keep_drewN | apply keep_drew | apply keep_alloc | refine keep_far ?_ GW263.out _) | exact HK.out)) (KeepBut.of_below hb g none) (.inl rfl))
       have n4_ := Aside0.mk (below_step (by repeat (first | (with_reducible first | exact HB.out | apply below_alloc | apply pw_below_drewN | apply below_drew1 | refine below_set ?_ GE263.out) | exact HB.out)) hb)
       have z_HI0 := fun (h0_ : b 1 = false) => (show IsS112 w0 w12 g s0_0 s0_1 from by first | exact (IsS112.below (by repeat (first | (with_reducible first | exact (Q_HI0 h0_) | apply IsS112.alloc | apply IsS112.drewN | apply IsS112.drew | apply IsS112.set_1 | refine IsS112.far ?_ NB0_263.out _) | exact (Q_HI0 h0_))) hb))
       have z_HI0_e1 := fun (h0_ : b 1 = true) (h1_ : b 4 = false) => (show IsS112 w0 w12 g s0_0 t265 from by first | exact (IsS112.below (by repeat (first | (with_reducible first | exact (Q_HI0_e1 h0_ h1_) | apply IsS112.alloc | apply IsS112.drewN | apply IsS112.drew | apply IsS112.set_1 | refine IsS112.far ?_ NB0_263.out _) | exact (Q_HI0_e1 h0_ h1_))) hb))
       have z_HI0_e4 := fun (h0_ : b 4 = true) (h1_ : b 8 = false) => (show IsS112 w0 w12 g s0_0 t270 from by first | exact (IsS112.below (by repeat (first | (with_reducible first | exact (Q_HI0_e4 h0_ h1_) | apply IsS112.alloc | apply IsS112.drewN | apply IsS112.drew | apply IsS112.set_1 | refine IsS112.far ?_ NB0_263.out _) | exact (Q_HI0_e4 h0_ h1_))) hb))
       have z_HI0_e8 := fun (h0_ : b 8 = true) (h1_ : b 11 = false) => (show IsS112 w0 w12 g s0_0 t274 from by first | exact (IsS112.below (by repeat (first | (with_reducible first | exact (Q_HI0_e8 h0_ h1_) | apply IsS112.alloc | apply IsS112.drewN | apply IsS112.drew | apply IsS112.set_1 | refine IsS112.far ?_ NB0_263.out _) | exact (Q_HI0_e8 h0_ h1_))) hb))
       have z_HO277 := fun (h0_ : b 9 = true) => (show Kd.R (Kd.int .i64) 3 w12 w.heap.size (fun _ => True) v276 y275 from by first | exact (Kd.R_elder' (by (with_reducible repeat (first | apply Kd.R_alloc | apply Kd.R_drewN | apply Kd.R_drew)); exact (Q_HO277 h0_)) (Kd.R_base ho13) hb) | exact Kd.R_mono (Kd.R_elder' (by (with_reducible repeat (first | apply Kd.R_alloc | apply Kd.R_drewN | apply Kd.R_drew)); exact (Q_HO277 h0_)) (Kd.R_base ho13) hb) (fun _ h_ => by first | trivial | exact h_ | exact h_.1))
       have z_HI0_e11 := fun (h0_ : b 11 = true) => (show IsS112 w0 w12 g s0_0 t279 from by first | exact (IsS112.below (by repeat (first | (with_reducible first | exact (Q_HI0_e11 h0_) | apply IsS112.alloc | apply IsS112.drewN | apply IsS112.drew | apply IsS112.set_1 | refine IsS112.far ?_ NB0_263.out _) | exact (Q_HI0_e11 h0_))) hb))
       clear BK263
       clear HK
       clear HB
       have HO268 := n0_
       have BK263 := n2_
       have HK := n3_
       have HB := n4_
       clear n0_ n2_ n3_ n4_
       clear hb ho13
       obtain ⟨Ao14, co14, eo14⟩ := Kd.R_slice HO268.out
       subst eo14
       obtain ⟨ado14, fo14, _⟩ := Kd.at_int (Kd.R_reads' HO268.out).2.2 0 (by decide) (by rw [Ny266.out]; simp)
       cases fo14
       refine hK.out _ _ ⟨.slice (some ado14) y266.length co14, ado14, v276, adz_v276, m5_, m12_, (by rw [ha.out]; exact putSel_upk 1 hb_ rfl rfl rfl), fun _ => (by (with_reducible repeat (first | refine blk_drewN ?_ _ | refine blk_drew ?_ | refine blk_alloc ?_ _)); exact BK263.out), z_HI0, (by repeat (first | (with_reducible first | exact HK.out | apply KeepBut.set_ | apply keep_drewN | apply keep_drew | apply keep_alloc | refine keep_far ?_ GW263.out _) | exact HK.out)), (by repeat (first | (with_reducible first | exact HB.out | apply below_alloc | apply pw_below_drewN | apply below_drew1 | refine below_set ?_ GE263.out) | exact HB.out)), z_HI0_e1, fun _ => (by (with_reducible repeat (first | apply Kd.R_alloc | apply Kd.R_drewN | apply Kd.R_drew)); exact HO268.out), fun _ => ⟨_, rfl⟩, z_HI0_e4, z_HI0_e8, z_HO277, Q_HA_HO277, z_HI0_e11, fun h0_ => absurd ((hoff 15 (by kernel_rfl)).symm.trans h0_) (by decide), fun h0_ => absurd ((hoff 5 (by kernel_rfl)).symm.trans h0_) (by decide), Q_X12_⟩
      refine steps_cons ?_ ?_
      ·rintro b a w' ⟨v267, adz_v267, v276, adz_v276, m5_, m12_, ha, Q_BK263, Q_HI0, Q_HK, Q_HB, Q_HI0_e1, Q_HO268, Q_HA_HO268, Q_HI0_e4, Q_HI0_e8, Q_HO277, Q_HA_HO277, Q_HI0_e11, Q_BK263_e15, Q_X5_, Q_X12_⟩ hb_ hon hoff
       refine ⟨_, rfl, fun K hK => ?_⟩
       have e6 : a.tmps[6]? = some (.pointer (some ⟨g, 0, none⟩)) := by rw [ha]; exact (putSel_off rfl).trans rfl
       replace ha := Aside0.mk ha
       have BK263 := Aside0.mk (Q_BK263 (hoff 15 (by kernel_rfl)))
       have HK := Aside0.mk Q_HK
       have HB := Aside0.mk Q_HB
       have HI0 := Aside0.mk (Q_HI0_e1 (hon 1 (by kernel_rfl)) hb_)
       refine goes_ Try.func67 (by kernel_rfl) rfl #[.pointer (some ⟨g, 0, none⟩), .int .i64 9] (by rfl) rfl rfl (by first | (simp only [List.map_toArray, List.map_cons, List.map_nil, Act.eval, Array.getD_eq_getD_getElem?, Option.getD_some, e6]; done) | (simp only [List.map_toArray, List.map_cons, List.map_nil, Act.eval, Array.getD_eq_getD_getElem?, Option.getD_some, e6]; rfl)) ?_
       with_reducible refine (spec_l6Rd_pick.calls k g s0_0 t265 9 t269 t270 w0 _ ?side1 ?side2 A3.out).mono ?_
       (case side1 => repeat (first | (with_reducible first | exact HI0.out | apply IsS112.alloc | apply IsS112.drewN | apply IsS112.drew | apply IsS112.set_1 | refine IsS112.far ?_ NB0_263.out _) | exact HI0.out))
       (case side2 => repeat (first | (with_reducible first | exact HB.out | apply below_alloc | apply pw_below_drewN | apply below_drew1 | refine below_set ?_ (IsS112.ge HI0.out) | refine below_set ?_ GE263.out) | exact HB.out))
       rintro e w14 ⟨rfl, hi, hb, hk⟩
       refine ⟨_, rfl, ?_⟩
       have n0_ := Aside0.mk (KeepBut.blk hk (g' := gb263) (o := .cells #[.int .i64 0, .int .i64 0, .int .i64 0, .int .i64 0, .int .i64 0] 90 (0, 0)) (by (with_reducible repeat (first | refine blk_drewN ?_ _ | refine blk_drew ?_ | refine blk_alloc ?_ _)); exact BK263.out) NB263_0.out (by simp))
       have n1_ := Aside0.mk (KeepBut.trans (by repeat (first | (with_reducible first | exact HK.out | apply KeepBut.set_ | apply keep_drewN | apply keep_drew | apply keep_alloc | refine keep_far ?_ GW263.out _) | exact HK.out)) hk (.inl rfl))
       have n2_ := Aside0.mk (hb)
       have n3_ := Aside0.mk (hi)
       have z_HO268 := fun (h0_ : b 2 = true) => (show Kd.R (Kd.int .i64) 3 w14 w.heap.size (fun _ => True) v267 y266 from by first | exact (Kd.R_mono (Kd.R_keep (IsS112.apart (show IsS112 w0 _ g s0_0 t265 from by repeat (first | (with_reducible first | exact HI0.out | apply IsS112.alloc | apply IsS112.drewN | apply IsS112.drew | apply IsS112.set_1 | refine IsS112.far ?_ NB0_263.out _) | exact HI0.out)) (by (with_reducible repeat (first | apply Kd.R_alloc | apply Kd.R_drewN | apply Kd.R_drew)); exact (Q_HO268 h0_)) (by decide)) hk (fun _ h => h.2)) (fun _ h => h.1)) | exact Kd.R_mono (Kd.R_mono (Kd.R_keep (IsS112.apart (show IsS112 w0 _ g s0_0 t265 from by repeat (first | (with_reducible first | exact HI0.out | apply IsS112.alloc | apply IsS112.drewN | apply IsS112.drew | apply IsS112.set_1 | refine IsS112.far ?_ NB0_263.out _) | exact HI0.out)) (by (with_reducible repeat (first | apply Kd.R_alloc | apply Kd.R_drewN | apply Kd.R_drew)); exact (Q_HO268 h0_)) (by decide)) hk (fun _ h => h.2)) (fun _ h => h.1)) (fun _ h_ => by first | trivial | exact h_ | exact h_.1))
       have z_HO277 := fun (h0_ : b 9 = true) => (show Kd.R (Kd.int .i64) 3 w14 w.heap.size (fun _ => True) v276 y275 from by first | exact (Kd.R_mono (Kd.R_keep (IsS112.apart (show IsS112 w0 _ g s0_0 t265 from by repeat (first | (with_reducible first | exact HI0.out | apply IsS112.alloc | apply IsS112.drewN | apply IsS112.drew | apply IsS112.set_1 | refine IsS112.far ?_ NB0_263.out _) | exact HI0.out)) (by (with_reducible repeat (first | apply Kd.R_alloc | apply Kd.R_drewN | apply Kd.R_drew)); exact (Q_HO277 h0_)) (by decide)) hk (fun _ h => h.2)) (fun _ h => h.1)) | exact Kd.R_mono (Kd.R_mono (Kd.R_keep (IsS112.apart (show IsS112 w0 _ g s0_0 t265 from by repeat (first | (with_reducible first | exact HI0.out | apply IsS112.alloc | apply IsS112.drewN | apply IsS112.drew | apply IsS112.set_1 | refine IsS112.far ?_ NB0_263.out _) | exact HI0.out)) (by (with_reducible repeat (first | apply Kd.R_alloc | apply Kd.R_drewN | apply Kd.R_drew)); exact (Q_HO277 h0_)) (by decide)) hk (fun _ h => h.2)) (fun _ h => h.1)) (fun _ h_ => by first | trivial | exact h_ | exact h_.1))
       clear BK263
       clear HK
       clear HB
       clear HI0
       have BK263 := n0_
       have HK := n1_
       have HB := n2_
       have HI0 := n3_
       clear n0_ n1_ n2_ n3_
       (try clear hb)
       (try clear hb2)
       (try clear hk)
       (try clear hi)
       refine hK.out _ _ ⟨v267, adz_v267, v276, adz_v276, m5_, m12_, (by rw [ha.out]; exact putSel_upk 2 hb_ rfl rfl rfl), fun _ => (by (with_reducible repeat (first | refine blk_drewN ?_ _ | refine blk_drew ?_ | refine blk_alloc ?_ _)); exact BK263.out), fun h0_ => absurd ((hon 1 (by kernel_rfl)).symm.trans h0_) (by decide), (by repeat (first | (with_reducible first | exact HK.out | apply KeepBut.set_ | apply keep_drewN | apply keep_drew | apply keep_alloc | refine keep_far ?_ GW263.out _) | exact HK.out)), (by repeat (first | (with_reducible first | exact HB.out | apply below_alloc | apply pw_below_drewN | apply below_drew1 | refine below_set ?_ (IsS112.ge HI0.out) | refine below_set ?_ GE263.out) | exact HB.out)), fun _ h1_ => absurd ((up_self b 4).symm.trans h1_) (by decide), z_HO268, Q_HA_HO268, fun _ _ => (by repeat (first | (with_reducible first | exact HI0.out | apply IsS112.alloc | apply IsS112.drewN | apply IsS112.drew | apply IsS112.set_1 | refine IsS112.far ?_ NB0_263.out _) | exact HI0.out)), fun h0_ _ => absurd ((hoff 8 (by kernel_rfl)).symm.trans h0_) (by decide), z_HO277, Q_HA_HO277, fun h0_ => absurd ((hoff 11 (by kernel_rfl)).symm.trans h0_) (by decide), fun h0_ => absurd ((hoff 15 (by kernel_rfl)).symm.trans h0_) (by decide), fun h0_ => absurd ((hoff 5 (by kernel_rfl)).symm.trans h0_) (by decide), fun h0_ => absurd ((hoff 12 (by kernel_rfl)).symm.trans h0_) (by decide)⟩
      refine steps_cons ?_ ?_
      ·rintro b a w' ⟨v267, adz_v267, v276, adz_v276, m5_, m12_, ha, Q_BK263, Q_HI0, Q_HK, Q_HB, Q_HI0_e1, Q_HO268, Q_HA_HO268, Q_HI0_e4, Q_HI0_e8, Q_HO277, Q_HA_HO277, Q_HI0_e11, Q_BK263_e15, Q_X5_, Q_X12_⟩ hb_ hon hoff
       refine ⟨_, rfl, fun K hK => ?_⟩
       have e5 : a.tmps[5]? = some (v267) := by rw [ha]; exact putSel_on (e := (2, 5, v267)) 1 rfl rfl (hon 2 (by kernel_rfl)) rfl
       have e7 : a.tmps[7]? = some (.int .i64 t269) := by rw [ha]; exact putSel_on (e := (4, 7, .int .i64 t269)) 2 rfl rfl (hon 4 (by kernel_rfl)) rfl
       replace ha := Aside0.mk ha
       have BK263 := Aside0.mk (Q_BK263 (hoff 15 (by kernel_rfl)))
       have HK := Aside0.mk Q_HK
       have HB := Aside0.mk Q_HB
       have HO268 := Aside0.mk (Q_HO268 (hon 2 (by kernel_rfl)))
       have HA_HO268 := Aside0.mk (Q_HA_HO268 (hon 2 (by kernel_rfl)))
       obtain ⟨c_, hv_⟩ := HA_HO268.out
       rw [hv_] at e5
       refine value_ (w1 := w') (v := .pointer (some (adz_v267.add (t269).toNat))) (by rfl) rfl ?_ ?_
       ·go_simp
        (try simp only [i64_w])
        try rfl
       refine hK.out _ _ ⟨v267, adz_v267, v276, adz_v276, (.pointer (some (adz_v267.add (t269).toNat))), m12_, (by rw [ha.out]; exact putSel_upk 3 hb_ rfl rfl rfl), Q_BK263, fun h0_ => absurd ((hon 1 (by kernel_rfl)).symm.trans h0_) (by decide), Q_HK, Q_HB, fun _ h1_ => absurd ((hon 4 (by kernel_rfl)).symm.trans h1_) (by decide), Q_HO268, Q_HA_HO268, Q_HI0_e4, Q_HI0_e8, Q_HO277, Q_HA_HO277, Q_HI0_e11, fun h0_ => absurd ((hoff 15 (by kernel_rfl)).symm.trans h0_) (by decide), fun _ => rfl, Q_X12_⟩
      refine steps_cons ?_ ?_
      ·rintro b a w' ⟨v267, adz_v267, v276, adz_v276, m5_, m12_, ha, Q_BK263, Q_HI0, Q_HK, Q_HB, Q_HI0_e1, Q_HO268, Q_HA_HO268, Q_HI0_e4, Q_HI0_e8, Q_HO277, Q_HA_HO277, Q_HI0_e11, Q_BK263_e15, Q_X5_, Q_X12_⟩ hb_ hon hoff
       refine ⟨_, rfl, fun K hK => ?_⟩
       have e8 : a.tmps[8]? = some (m5_) := by rw [ha]; exact putSel_on (e := (5, 8, m5_)) 3 rfl rfl (hon 5 (by kernel_rfl)) rfl
       rw [Q_X5_ (hon 5 (by kernel_rfl))] at e8
       replace ha := Aside0.mk ha
       have BK263 := Aside0.mk (Q_BK263 (hoff 15 (by kernel_rfl)))
       have HK := Aside0.mk Q_HK
       have HB := Aside0.mk Q_HB
       have HO268 := Aside0.mk (Q_HO268 (hon 2 (by kernel_rfl)))
       have HA_HO268 := Aside0.mk (Q_HA_HO268 (hon 2 (by kernel_rfl)))
       obtain ⟨c_, hv_⟩ := HA_HO268.out
       have hF_ := HO268.out
       rw [hv_] at hF_
       obtain ⟨ad_, ea_, hx_⟩ := Kd.at_int (Kd.R_reads' hF_).2.2 t269 (of_eq_true pi271) (of_eq_true qi271)
       cases ea_
       refine value_ (w1 := w') (v := .int .i64 (rd y266 t269)) (by rfl) rfl ?_ ?_
       ·go_simp
        (try simp only [i64_w])
        try rfl
       refine hK.out _ _ ⟨v267, adz_v267, v276, adz_v276, m5_, m12_, (by rw [ha.out]; exact putSel_upk 4 hb_ rfl rfl rfl), Q_BK263, fun h0_ => absurd ((hon 1 (by kernel_rfl)).symm.trans h0_) (by decide), Q_HK, Q_HB, fun _ h1_ => absurd ((hon 4 (by kernel_rfl)).symm.trans h1_) (by decide), Q_HO268, Q_HA_HO268, Q_HI0_e4, Q_HI0_e8, Q_HO277, Q_HA_HO277, Q_HI0_e11, fun h0_ => absurd ((hoff 15 (by kernel_rfl)).symm.trans h0_) (by decide), Q_X5_, Q_X12_⟩
      refine steps_cons ?_ ?_
      ·rintro b a w' ⟨v267, adz_v267, v276, adz_v276, m5_, m12_, ha, Q_BK263, Q_HI0, Q_HK, Q_HB, Q_HI0_e1, Q_HO268, Q_HA_HO268, Q_HI0_e4, Q_HI0_e8, Q_HO277, Q_HA_HO277, Q_HI0_e11, Q_BK263_e15, Q_X5_, Q_X12_⟩ hb_ hon hoff
       refine ⟨_, rfl, fun K hK => ?_⟩
       have e10 : a.tmps[10]? = some (.pointer (some ⟨g, 0, none⟩)) := by rw [ha]; exact (putSel_off rfl).trans rfl
       replace ha := Aside0.mk ha
       have BK263 := Aside0.mk (Q_BK263 (hoff 15 (by kernel_rfl)))
       have HK := Aside0.mk Q_HK
       have HB := Aside0.mk Q_HB
       have HI0 := Aside0.mk (Q_HI0_e4 (hon 4 (by kernel_rfl)) hb_)
       refine goes_ Try.func98 (by kernel_rfl) rfl #[.pointer (some ⟨g, 0, none⟩)] (by rfl) rfl rfl (by first | (simp only [List.map_toArray, List.map_cons, List.map_nil, Act.eval, Array.getD_eq_getD_getElem?, Option.getD_some, e10]; done) | (simp only [List.map_toArray, List.map_cons, List.map_nil, Act.eval, Array.getD_eq_getD_getElem?, Option.getD_some, e10]; rfl)) ?_
       with_reducible refine (spec_l71Time.calls k g s0_0 t270 t272 t273 t274 w0 _ ?side1 ?side2 A6.out).mono ?_
       (case side1 => repeat (first | (with_reducible first | exact HI0.out | apply IsS112.alloc | apply IsS112.drewN | apply IsS112.drew | apply IsS112.set_1 | refine IsS112.far ?_ NB0_263.out _) | exact HI0.out))
       (case side2 => repeat (first | (with_reducible first | exact HB.out | apply below_alloc | apply pw_below_drewN | apply below_drew1 | refine below_set ?_ (IsS112.ge HI0.out) | refine below_set ?_ GE263.out) | exact HB.out))
       rintro e w15 ⟨rfl, hi, hb, hk⟩
       refine ⟨_, rfl, ?_⟩
       have n0_ := Aside0.mk (KeepBut.blk hk (g' := gb263) (o := .cells #[.int .i64 0, .int .i64 0, .int .i64 0, .int .i64 0, .int .i64 0] 90 (0, 0)) (by (with_reducible repeat (first | refine blk_drewN ?_ _ | refine blk_drew ?_ | refine blk_alloc ?_ _)); exact BK263.out) NB263_0.out (by simp))
       have n1_ := Aside0.mk (KeepBut.trans (by repeat (first | (with_reducible first | exact HK.out | apply KeepBut.set_ | apply keep_drewN | apply keep_drew | apply keep_alloc | refine keep_far ?_ GW263.out _) | exact HK.out)) hk (.inl rfl))
       have n2_ := Aside0.mk (hb)
       have n3_ := Aside0.mk (hi)
       have z_HO268 := fun (h0_ : b 2 = true) => (show Kd.R (Kd.int .i64) 3 w15 w.heap.size (fun _ => True) v267 y266 from by first | exact (Kd.R_mono (Kd.R_keep (IsS112.apart (show IsS112 w0 _ g s0_0 t270 from by repeat (first | (with_reducible first | exact HI0.out | apply IsS112.alloc | apply IsS112.drewN | apply IsS112.drew | apply IsS112.set_1 | refine IsS112.far ?_ NB0_263.out _) | exact HI0.out)) (by (with_reducible repeat (first | apply Kd.R_alloc | apply Kd.R_drewN | apply Kd.R_drew)); exact (Q_HO268 h0_)) (by decide)) hk (fun _ h => h.2)) (fun _ h => h.1)) | exact Kd.R_mono (Kd.R_mono (Kd.R_keep (IsS112.apart (show IsS112 w0 _ g s0_0 t270 from by repeat (first | (with_reducible first | exact HI0.out | apply IsS112.alloc | apply IsS112.drewN | apply IsS112.drew | apply IsS112.set_1 | refine IsS112.far ?_ NB0_263.out _) | exact HI0.out)) (by (with_reducible repeat (first | apply Kd.R_alloc | apply Kd.R_drewN | apply Kd.R_drew)); exact (Q_HO268 h0_)) (by decide)) hk (fun _ h => h.2)) (fun _ h => h.1)) (fun _ h_ => by first | trivial | exact h_ | exact h_.1))
       have z_HO277 := fun (h0_ : b 9 = true) => (show Kd.R (Kd.int .i64) 3 w15 w.heap.size (fun _ => True) v276 y275 from by first | exact (Kd.R_mono (Kd.R_keep (IsS112.apart (show IsS112 w0 _ g s0_0 t270 from by repeat (first | (with_reducible first | exact HI0.out | apply IsS112.alloc | apply IsS112.drewN | apply IsS112.drew | apply IsS112.set_1 | refine IsS112.far ?_ NB0_263.out _) | exact HI0.out)) (by (with_reducible repeat (first | apply Kd.R_alloc | apply Kd.R_drewN | apply Kd.R_drew)); exact (Q_HO277 h0_)) (by decide)) hk (fun _ h => h.2)) (fun _ h => h.1)) | exact Kd.R_mono (Kd.R_mono (Kd.R_keep (IsS112.apart (show IsS112 w0 _ g s0_0 t270 from by repeat (first | (with_reducible first | exact HI0.out | apply IsS112.alloc | apply IsS112.drewN | apply IsS112.drew | apply IsS112.set_1 | refine IsS112.far ?_ NB0_263.out _) | exact HI0.out)) (by (with_reducible repeat (first | apply Kd.R_alloc | apply Kd.R_drewN | apply Kd.R_drew)); exact (Q_HO277 h0_)) (by decide)) hk (fun _ h => h.2)) (fun _ h => h.1)) (fun _ h_ => by first | trivial | exact h_ | exact h_.1))
       clear BK263
       clear HK
       clear HB
       clear HI0
       have BK263 := n0_
       have HK := n1_
       have HB := n2_
       have HI0 := n3_
       clear n0_ n1_ n2_ n3_
       (try clear hb)
       (try clear hb2)
       (try clear hk)
       (try clear hi)
       refine hK.out _ _ ⟨v267, adz_v267, v276, adz_v276, m5_, m12_, (by rw [ha.out]; exact putSel_upk 5 hb_ rfl rfl rfl), fun _ => (by (with_reducible repeat (first | refine blk_drewN ?_ _ | refine blk_drew ?_ | refine blk_alloc ?_ _)); exact BK263.out), fun h0_ => absurd ((hon 1 (by kernel_rfl)).symm.trans h0_) (by decide), (by repeat (first | (with_reducible first | exact HK.out | apply KeepBut.set_ | apply keep_drewN | apply keep_drew | apply keep_alloc | refine keep_far ?_ GW263.out _) | exact HK.out)), (by repeat (first | (with_reducible first | exact HB.out | apply below_alloc | apply pw_below_drewN | apply below_drew1 | refine below_set ?_ (IsS112.ge HI0.out) | refine below_set ?_ GE263.out) | exact HB.out)), fun _ h1_ => absurd ((hon 4 (by kernel_rfl)).symm.trans h1_) (by decide), z_HO268, Q_HA_HO268, fun _ h1_ => absurd ((up_self b 8).symm.trans h1_) (by decide), fun _ _ => (by repeat (first | (with_reducible first | exact HI0.out | apply IsS112.alloc | apply IsS112.drewN | apply IsS112.drew | apply IsS112.set_1 | refine IsS112.far ?_ NB0_263.out _) | exact HI0.out)), z_HO277, Q_HA_HO277, fun h0_ => absurd ((hoff 11 (by kernel_rfl)).symm.trans h0_) (by decide), fun h0_ => absurd ((hoff 15 (by kernel_rfl)).symm.trans h0_) (by decide), Q_X5_, fun h0_ => absurd ((hoff 12 (by kernel_rfl)).symm.trans h0_) (by decide)⟩
      refine steps_cons ?_ ?_
      ·rintro b a w' ⟨v267, adz_v267, v276, adz_v276, m5_, m12_, ha, Q_BK263, Q_HI0, Q_HK, Q_HB, Q_HI0_e1, Q_HO268, Q_HA_HO268, Q_HI0_e4, Q_HI0_e8, Q_HO277, Q_HA_HO277, Q_HI0_e11, Q_BK263_e15, Q_X5_, Q_X12_⟩ hb_ hon hoff
       refine ⟨_, rfl, fun K hK => ?_⟩
       replace ha := Aside0.mk ha
       have BK263 := Aside0.mk (Q_BK263 (hoff 15 (by kernel_rfl)))
       have HK := Aside0.mk Q_HK
       have HB := Aside0.mk Q_HB
       refine Kd.R_lit_step (Kd.int .i64) _ 3 ?hg (N := 12) ?hd (xs := ([1, 1, 1, 2, (-1), (-1), 3, 0] : List Int)) (inner := [.int .i64 1, .int .i64 1, .int .i64 1, .int .i64 2, .int .i64 (-1), .int .i64 (-1), .int .i64 3, .int .i64 0]) (ok := fun _ => True) (okp := fun _ => True) ?hr ?hp (fun _ hk => hk) trivial (Below.refl _ _) (Nat.le_refl _) (by simp) ?_; (case hd => rfl); (case hg => rfl); (case hr => first | (go_simp; done) | (go_simp; rfl)); (case hp => exact (Reps.one (show Kd.M (Kd.int .i64) _ _ _ 1 [.int .i64 1] from rfl) (Reps.one (show Kd.M (Kd.int .i64) _ _ _ 1 [.int .i64 1] from rfl) (Reps.one (show Kd.M (Kd.int .i64) _ _ _ 1 [.int .i64 1] from rfl) (Reps.one (show Kd.M (Kd.int .i64) _ _ _ 2 [.int .i64 2] from rfl) (Reps.one (show Kd.M (Kd.int .i64) _ _ _ (-1) [.int .i64 (-1)] from rfl) (Reps.one (show Kd.M (Kd.int .i64) _ _ _ (-1) [.int .i64 (-1)] from rfl) (Reps.one (show Kd.M (Kd.int .i64) _ _ _ 3 [.int .i64 3] from rfl) (Reps.one (show Kd.M (Kd.int .i64) _ _ _ 0 [.int .i64 0] from rfl) (Reps.none _ _))))))))))
       intro v276 w12 ho13 hb hg_ hnew_
       clear hg_ hnew_
       (first | rw [← Ny275.out] at ho13 | (simp only [Int.reduceToNat] at ho13; rw [← Ny275.out] at ho13))
       have n0_ := Aside0.mk (Kd.R_lower ho13 (keep_size (w := w) (g := g) (row := none) (by repeat (first | (with_reducible first | exact HK.out | apply KeepBut.set_ | apply keep_drewN | apply keep_drew | apply keep_alloc | refine keep_far ?_ GW263.out _) | exact HK.out))))
       have n2_ := Aside0.mk (blk_below (g := gb263) (o := .cells #[.int .i64 0, .int .i64 0, .int .i64 0, .int .i64 0, .int .i64 0] 90 (0, 0)) (by (with_reducible repeat (first | refine blk_drewN ?_ _ | refine blk_drew ?_ | refine blk_alloc ?_ _)); exact BK263.out) hb)
       have n3_ := Aside0.mk (KeepBut.trans (by repeat (first | (with_reducible first | exact HK.out | apply KeepBut.set_ | apply keep_drewN | apply keep_drew | apply keep_alloc | refine keep_far ?_ GW263.out _) | exact HK.out)) (KeepBut.of_below hb g none) (.inl rfl))
       have n4_ := Aside0.mk (below_step (by repeat (first | (with_reducible first | exact HB.out | apply below_alloc | apply pw_below_drewN | apply below_drew1 | refine below_set ?_ GE263.out) | exact HB.out)) hb)
       have z_HI0 := fun (h0_ : b 1 = false) => (show IsS112 w0 w12 g s0_0 s0_1 from by first | exact (IsS112.below (by repeat (first | (with_reducible first | exact (Q_HI0 h0_) | apply IsS112.alloc | apply IsS112.drewN | apply IsS112.drew | apply IsS112.set_1 | refine IsS112.far ?_ NB0_263.out _) | exact (Q_HI0 h0_))) hb))
       have z_HI0_e1 := fun (h0_ : b 1 = true) (h1_ : b 4 = false) => (show IsS112 w0 w12 g s0_0 t265 from by first | exact (IsS112.below (by repeat (first | (with_reducible first | exact (Q_HI0_e1 h0_ h1_) | apply IsS112.alloc | apply IsS112.drewN | apply IsS112.drew | apply IsS112.set_1 | refine IsS112.far ?_ NB0_263.out _) | exact (Q_HI0_e1 h0_ h1_))) hb))
       have z_HO268 := fun (h0_ : b 2 = true) => (show Kd.R (Kd.int .i64) 3 w12 w.heap.size (fun _ => True) v267 y266 from by first | exact (Kd.R_elder' (by (with_reducible repeat (first | apply Kd.R_alloc | apply Kd.R_drewN | apply Kd.R_drew)); exact (Q_HO268 h0_)) (Kd.R_base ho13) hb) | exact Kd.R_mono (Kd.R_elder' (by (with_reducible repeat (first | apply Kd.R_alloc | apply Kd.R_drewN | apply Kd.R_drew)); exact (Q_HO268 h0_)) (Kd.R_base ho13) hb) (fun _ h_ => by first | trivial | exact h_ | exact h_.1))
       have z_HI0_e4 := fun (h0_ : b 4 = true) (h1_ : b 8 = false) => (show IsS112 w0 w12 g s0_0 t270 from by first | exact (IsS112.below (by repeat (first | (with_reducible first | exact (Q_HI0_e4 h0_ h1_) | apply IsS112.alloc | apply IsS112.drewN | apply IsS112.drew | apply IsS112.set_1 | refine IsS112.far ?_ NB0_263.out _) | exact (Q_HI0_e4 h0_ h1_))) hb))
       have z_HI0_e8 := fun (h0_ : b 8 = true) (h1_ : b 11 = false) => (show IsS112 w0 w12 g s0_0 t274 from by first | exact (IsS112.below (by repeat (first | (with_reducible first | exact (Q_HI0_e8 h0_ h1_) | apply IsS112.alloc | apply IsS112.drewN | apply IsS112.drew | apply IsS112.set_1 | refine IsS112.far ?_ NB0_263.out _) | exact (Q_HI0_e8 h0_ h1_))) hb))
       have z_HI0_e11 := fun (h0_ : b 11 = true) => (show IsS112 w0 w12 g s0_0 t279 from by first | exact (IsS112.below (by repeat (first | (with_reducible first | exact (Q_HI0_e11 h0_) | apply IsS112.alloc | apply IsS112.drewN | apply IsS112.drew | apply IsS112.set_1 | refine IsS112.far ?_ NB0_263.out _) | exact (Q_HI0_e11 h0_))) hb))
       clear BK263
       clear HK
       clear HB
       have HO277 := n0_
       have BK263 := n2_
       have HK := n3_
       have HB := n4_
       clear n0_ n2_ n3_ n4_
       clear hb ho13
       obtain ⟨Ao14, co14, eo14⟩ := Kd.R_slice HO277.out
       subst eo14
       obtain ⟨ado14, fo14, _⟩ := Kd.at_int (Kd.R_reads' HO277.out).2.2 0 (by decide) (by rw [Ny275.out]; simp)
       cases fo14
       refine hK.out _ _ ⟨v267, adz_v267, .slice (some ado14) y275.length co14, ado14, m5_, m12_, (by rw [ha.out]; exact putSel_upk 6 hb_ rfl rfl rfl), fun _ => (by (with_reducible repeat (first | refine blk_drewN ?_ _ | refine blk_drew ?_ | refine blk_alloc ?_ _)); exact BK263.out), z_HI0, (by repeat (first | (with_reducible first | exact HK.out | apply KeepBut.set_ | apply keep_drewN | apply keep_drew | apply keep_alloc | refine keep_far ?_ GW263.out _) | exact HK.out)), (by repeat (first | (with_reducible first | exact HB.out | apply below_alloc | apply pw_below_drewN | apply below_drew1 | refine below_set ?_ GE263.out) | exact HB.out)), z_HI0_e1, z_HO268, Q_HA_HO268, z_HI0_e4, z_HI0_e8, fun _ => (by (with_reducible repeat (first | apply Kd.R_alloc | apply Kd.R_drewN | apply Kd.R_drew)); exact HO277.out), fun _ => ⟨_, rfl⟩, z_HI0_e11, fun h0_ => absurd ((hoff 15 (by kernel_rfl)).symm.trans h0_) (by decide), Q_X5_, fun h0_ => absurd ((hoff 12 (by kernel_rfl)).symm.trans h0_) (by decide)⟩
      refine steps_cons ?_ ?_
      ·rintro b a w' ⟨v267, adz_v267, v276, adz_v276, m5_, m12_, ha, Q_BK263, Q_HI0, Q_HK, Q_HB, Q_HI0_e1, Q_HO268, Q_HA_HO268, Q_HI0_e4, Q_HI0_e8, Q_HO277, Q_HA_HO277, Q_HI0_e11, Q_BK263_e15, Q_X5_, Q_X12_⟩ hb_ hon hoff
       refine ⟨_, rfl, fun K hK => ?_⟩
       have e13 : a.tmps[13]? = some (.pointer (some ⟨g, 0, none⟩)) := by rw [ha]; exact (putSel_off rfl).trans rfl
       replace ha := Aside0.mk ha
       have BK263 := Aside0.mk (Q_BK263 (hoff 15 (by kernel_rfl)))
       have HK := Aside0.mk Q_HK
       have HB := Aside0.mk Q_HB
       have HI0 := Aside0.mk (Q_HI0_e8 (hon 8 (by kernel_rfl)) hb_)
       refine goes_ Try.func67 (by kernel_rfl) rfl #[.pointer (some ⟨g, 0, none⟩), .int .i64 8] (by rfl) rfl rfl (by first | (simp only [List.map_toArray, List.map_cons, List.map_nil, Act.eval, Array.getD_eq_getD_getElem?, Option.getD_some, e13]; done) | (simp only [List.map_toArray, List.map_cons, List.map_nil, Act.eval, Array.getD_eq_getD_getElem?, Option.getD_some, e13]; rfl)) ?_
       with_reducible refine (spec_l6Rd_pick.calls k g s0_0 t274 8 t278 t279 w0 _ ?side1 ?side2 A7.out).mono ?_
       (case side1 => repeat (first | (with_reducible first | exact HI0.out | apply IsS112.alloc | apply IsS112.drewN | apply IsS112.drew | apply IsS112.set_1 | refine IsS112.far ?_ NB0_263.out _) | exact HI0.out))
       (case side2 => repeat (first | (with_reducible first | exact HB.out | apply below_alloc | apply pw_below_drewN | apply below_drew1 | refine below_set ?_ (IsS112.ge HI0.out) | refine below_set ?_ GE263.out) | exact HB.out))
       rintro e w16 ⟨rfl, hi, hb, hk⟩
       refine ⟨_, rfl, ?_⟩
       have n0_ := Aside0.mk (KeepBut.blk hk (g' := gb263) (o := .cells #[.int .i64 0, .int .i64 0, .int .i64 0, .int .i64 0, .int .i64 0] 90 (0, 0)) (by (with_reducible repeat (first | refine blk_drewN ?_ _ | refine blk_drew ?_ | refine blk_alloc ?_ _)); exact BK263.out) NB263_0.out (by simp))
       have n1_ := Aside0.mk (KeepBut.trans (by repeat (first | (with_reducible first | exact HK.out | apply KeepBut.set_ | apply keep_drewN | apply keep_drew | apply keep_alloc | refine keep_far ?_ GW263.out _) | exact HK.out)) hk (.inl rfl))
       have n2_ := Aside0.mk (hb)
       have n3_ := Aside0.mk (hi)
       have z_HO268 := fun (h0_ : b 2 = true) => (show Kd.R (Kd.int .i64) 3 w16 w.heap.size (fun _ => True) v267 y266 from by first | exact (Kd.R_mono (Kd.R_keep (IsS112.apart (show IsS112 w0 _ g s0_0 t274 from by repeat (first | (with_reducible first | exact HI0.out | apply IsS112.alloc | apply IsS112.drewN | apply IsS112.drew | apply IsS112.set_1 | refine IsS112.far ?_ NB0_263.out _) | exact HI0.out)) (by (with_reducible repeat (first | apply Kd.R_alloc | apply Kd.R_drewN | apply Kd.R_drew)); exact (Q_HO268 h0_)) (by decide)) hk (fun _ h => h.2)) (fun _ h => h.1)) | exact Kd.R_mono (Kd.R_mono (Kd.R_keep (IsS112.apart (show IsS112 w0 _ g s0_0 t274 from by repeat (first | (with_reducible first | exact HI0.out | apply IsS112.alloc | apply IsS112.drewN | apply IsS112.drew | apply IsS112.set_1 | refine IsS112.far ?_ NB0_263.out _) | exact HI0.out)) (by (with_reducible repeat (first | apply Kd.R_alloc | apply Kd.R_drewN | apply Kd.R_drew)); exact (Q_HO268 h0_)) (by decide)) hk (fun _ h => h.2)) (fun _ h => h.1)) (fun _ h_ => by first | trivial | exact h_ | exact h_.1))
       have z_HO277 := fun (h0_ : b 9 = true) => (show Kd.R (Kd.int .i64) 3 w16 w.heap.size (fun _ => True) v276 y275 from by first | exact (Kd.R_mono (Kd.R_keep (IsS112.apart (show IsS112 w0 _ g s0_0 t274 from by repeat (first | (with_reducible first | exact HI0.out | apply IsS112.alloc | apply IsS112.drewN | apply IsS112.drew | apply IsS112.set_1 | refine IsS112.far ?_ NB0_263.out _) | exact HI0.out)) (by (with_reducible repeat (first | apply Kd.R_alloc | apply Kd.R_drewN | apply Kd.R_drew)); exact (Q_HO277 h0_)) (by decide)) hk (fun _ h => h.2)) (fun _ h => h.1)) | exact Kd.R_mono (Kd.R_mono (Kd.R_keep (IsS112.apart (show IsS112 w0 _ g s0_0 t274 from by repeat (first | (with_reducible first | exact HI0.out | apply IsS112.alloc | apply IsS112.drewN | apply IsS112.drew | apply IsS112.set_1 | refine IsS112.far ?_ NB0_263.out _) | exact HI0.out)) (by (with_reducible repeat (first | apply Kd.R_alloc | apply Kd.R_drewN | apply Kd.R_drew)); exact (Q_HO277 h0_)) (by decide)) hk (fun _ h => h.2)) (fun _ h => h.1)) (fun _ h_ => by first | trivial | exact h_ | exact h_.1))
       clear BK263
       clear HK
       clear HB
       clear HI0
       have BK263 := n0_
       have HK := n1_
       have HB := n2_
       have HI0 := n3_
       clear n0_ n1_ n2_ n3_
       (try clear hb)
       (try clear hb2)
       (try clear hk)
       (try clear hi)
       refine hK.out _ _ ⟨v267, adz_v267, v276, adz_v276, m5_, m12_, (by rw [ha.out]; exact putSel_upk 7 hb_ rfl rfl rfl), fun _ => (by (with_reducible repeat (first | refine blk_drewN ?_ _ | refine blk_drew ?_ | refine blk_alloc ?_ _)); exact BK263.out), fun h0_ => absurd ((hon 1 (by kernel_rfl)).symm.trans h0_) (by decide), (by repeat (first | (with_reducible first | exact HK.out | apply KeepBut.set_ | apply keep_drewN | apply keep_drew | apply keep_alloc | refine keep_far ?_ GW263.out _) | exact HK.out)), (by repeat (first | (with_reducible first | exact HB.out | apply below_alloc | apply pw_below_drewN | apply below_drew1 | refine below_set ?_ (IsS112.ge HI0.out) | refine below_set ?_ GE263.out) | exact HB.out)), fun _ h1_ => absurd ((hon 4 (by kernel_rfl)).symm.trans h1_) (by decide), z_HO268, Q_HA_HO268, fun _ h1_ => absurd ((hon 8 (by kernel_rfl)).symm.trans h1_) (by decide), fun _ h1_ => absurd ((up_self b 11).symm.trans h1_) (by decide), z_HO277, Q_HA_HO277, fun _ => (by repeat (first | (with_reducible first | exact HI0.out | apply IsS112.alloc | apply IsS112.drewN | apply IsS112.drew | apply IsS112.set_1 | refine IsS112.far ?_ NB0_263.out _) | exact HI0.out)), fun h0_ => absurd ((hoff 15 (by kernel_rfl)).symm.trans h0_) (by decide), Q_X5_, fun h0_ => absurd ((hoff 12 (by kernel_rfl)).symm.trans h0_) (by decide)⟩
      refine steps_cons ?_ ?_
      ·rintro b a w' ⟨v267, adz_v267, v276, adz_v276, m5_, m12_, ha, Q_BK263, Q_HI0, Q_HK, Q_HB, Q_HI0_e1, Q_HO268, Q_HA_HO268, Q_HI0_e4, Q_HI0_e8, Q_HO277, Q_HA_HO277, Q_HI0_e11, Q_BK263_e15, Q_X5_, Q_X12_⟩ hb_ hon hoff
       refine ⟨_, rfl, fun K hK => ?_⟩
       have e12 : a.tmps[12]? = some (v276) := by rw [ha]; exact putSel_on (e := (9, 12, v276)) 6 rfl rfl (hon 9 (by kernel_rfl)) rfl
       have e14 : a.tmps[14]? = some (.int .i64 t278) := by rw [ha]; exact putSel_on (e := (11, 14, .int .i64 t278)) 7 rfl rfl (hon 11 (by kernel_rfl)) rfl
       replace ha := Aside0.mk ha
       have BK263 := Aside0.mk (Q_BK263 (hoff 15 (by kernel_rfl)))
       have HK := Aside0.mk Q_HK
       have HB := Aside0.mk Q_HB
       have HO277 := Aside0.mk (Q_HO277 (hon 9 (by kernel_rfl)))
       have HA_HO277 := Aside0.mk (Q_HA_HO277 (hon 9 (by kernel_rfl)))
       have HI0 := Aside0.mk (Q_HI0_e11 (hon 11 (by kernel_rfl)))
       obtain ⟨c_, hv_⟩ := HA_HO277.out
       rw [hv_] at e12
       refine value_ (w1 := w') (v := .pointer (some (adz_v276.add (t278).toNat))) (by rfl) rfl ?_ ?_
       ·go_simp
        (try simp only [i64_w])
        try rfl
       refine hK.out _ _ ⟨v267, adz_v267, v276, adz_v276, m5_, (.pointer (some (adz_v276.add (t278).toNat))), (by rw [ha.out]; exact putSel_upk 8 hb_ rfl rfl rfl), Q_BK263, fun h0_ => absurd ((hon 1 (by kernel_rfl)).symm.trans h0_) (by decide), Q_HK, Q_HB, fun _ h1_ => absurd ((hon 4 (by kernel_rfl)).symm.trans h1_) (by decide), Q_HO268, Q_HA_HO268, fun _ h1_ => absurd ((hon 8 (by kernel_rfl)).symm.trans h1_) (by decide), fun _ h1_ => absurd ((hon 11 (by kernel_rfl)).symm.trans h1_) (by decide), Q_HO277, Q_HA_HO277, Q_HI0_e11, fun h0_ => absurd ((hoff 15 (by kernel_rfl)).symm.trans h0_) (by decide), Q_X5_, fun _ => rfl⟩
      refine steps_cons ?_ ?_
      ·rintro b a w' ⟨v267, adz_v267, v276, adz_v276, m5_, m12_, ha, Q_BK263, Q_HI0, Q_HK, Q_HB, Q_HI0_e1, Q_HO268, Q_HA_HO268, Q_HI0_e4, Q_HI0_e8, Q_HO277, Q_HA_HO277, Q_HI0_e11, Q_BK263_e15, Q_X5_, Q_X12_⟩ hb_ hon hoff
       refine ⟨_, rfl, fun K hK => ?_⟩
       have e15 : a.tmps[15]? = some (m12_) := by rw [ha]; exact putSel_on (e := (12, 15, m12_)) 8 rfl rfl (hon 12 (by kernel_rfl)) rfl
       rw [Q_X12_ (hon 12 (by kernel_rfl))] at e15
       replace ha := Aside0.mk ha
       have BK263 := Aside0.mk (Q_BK263 (hoff 15 (by kernel_rfl)))
       have HK := Aside0.mk Q_HK
       have HB := Aside0.mk Q_HB
       have HO277 := Aside0.mk (Q_HO277 (hon 9 (by kernel_rfl)))
       have HA_HO277 := Aside0.mk (Q_HA_HO277 (hon 9 (by kernel_rfl)))
       have HI0 := Aside0.mk (Q_HI0_e11 (hon 11 (by kernel_rfl)))
       obtain ⟨c_, hv_⟩ := HA_HO277.out
       have hF_ := HO277.out
       rw [hv_] at hF_
       obtain ⟨ad_, ea_, hx_⟩ := Kd.at_int (Kd.R_reads' hF_).2.2 t278 (of_eq_true pi280) (of_eq_true qi280)
       cases ea_
       refine value_ (w1 := w') (v := .int .i64 (rd y275 t278)) (by rfl) rfl ?_ ?_
       ·go_simp
        (try simp only [i64_w])
        try rfl
       refine hK.out _ _ ⟨v267, adz_v267, v276, adz_v276, m5_, m12_, (by rw [ha.out]; exact putSel_upk 9 hb_ rfl rfl rfl), Q_BK263, fun h0_ => absurd ((hon 1 (by kernel_rfl)).symm.trans h0_) (by decide), Q_HK, Q_HB, fun _ h1_ => absurd ((hon 4 (by kernel_rfl)).symm.trans h1_) (by decide), Q_HO268, Q_HA_HO268, fun _ h1_ => absurd ((hon 8 (by kernel_rfl)).symm.trans h1_) (by decide), fun _ h1_ => absurd ((hon 11 (by kernel_rfl)).symm.trans h1_) (by decide), Q_HO277, Q_HA_HO277, Q_HI0_e11, fun h0_ => absurd ((hoff 15 (by kernel_rfl)).symm.trans h0_) (by decide), Q_X5_, Q_X12_⟩
      refine steps_cons ?_ ?_
      ·rintro b a w' ⟨v267, adz_v267, v276, adz_v276, m5_, m12_, ha, Q_BK263, Q_HI0, Q_HK, Q_HB, Q_HI0_e1, Q_HO268, Q_HA_HO268, Q_HI0_e4, Q_HI0_e8, Q_HO277, Q_HA_HO277, Q_HI0_e11, Q_BK263_e15, Q_X5_, Q_X12_⟩ hb_ hon hoff
       refine ⟨_, rfl, fun K hK => ?_⟩
       have e4 : a.tmps[4]? = some (.int .i64 t264) := by rw [ha]; exact putSel_on (e := (1, 4, .int .i64 t264)) 0 rfl rfl (hon 1 (by kernel_rfl)) rfl
       have e9 : a.tmps[9]? = some (.int .i64 (rd y266 t269)) := by rw [ha]; exact putSel_on (e := (6, 9, .int .i64 (rd y266 t269))) 4 rfl rfl (hon 6 (by kernel_rfl)) rfl
       have e11 : a.tmps[11]? = some (.agg #[.int .i64 t272, .int .i64 t273]) := by rw [ha]; exact putSel_on (e := (8, 11, .agg #[.int .i64 t272, .int .i64 t273])) 5 rfl rfl (hon 8 (by kernel_rfl)) rfl
       have e16 : a.tmps[16]? = some (.int .i64 (rd y275 t278)) := by rw [ha]; exact putSel_on (e := (13, 16, .int .i64 (rd y275 t278))) 9 rfl rfl (hon 13 (by kernel_rfl)) rfl
       replace ha := Aside0.mk ha
       have BK263 := Aside0.mk (Q_BK263 (hoff 15 (by kernel_rfl)))
       have HK := Aside0.mk Q_HK
       have HB := Aside0.mk Q_HB
       have HO268 := Aside0.mk (Q_HO268 (hon 2 (by kernel_rfl)))
       have HA_HO268 := Aside0.mk (Q_HA_HO268 (hon 2 (by kernel_rfl)))
       have HO277 := Aside0.mk (Q_HO277 (hon 9 (by kernel_rfl)))
       have HA_HO277 := Aside0.mk (Q_HA_HO277 (hon 9 (by kernel_rfl)))
       have HI0 := Aside0.mk (Q_HI0_e11 (hon 11 (by kernel_rfl)))
       refine value_ (w1 := w') (v := .agg #[.int .i64 t264, .int .i64 (rd y266 t269), .int .i64 t272, .int .i64 t273, .int .i64 (rd y275 t278)]) (by rfl) rfl ?_ ?_
       ·go_simp
        (try simp only [i64_w])
        try rfl
       refine hK.out _ _ ⟨v267, adz_v267, v276, adz_v276, m5_, m12_, (by rw [ha.out]; exact putSel_upk 10 hb_ rfl rfl rfl), Q_BK263, fun h0_ => absurd ((hon 1 (by kernel_rfl)).symm.trans h0_) (by decide), Q_HK, Q_HB, fun _ h1_ => absurd ((hon 4 (by kernel_rfl)).symm.trans h1_) (by decide), Q_HO268, Q_HA_HO268, fun _ h1_ => absurd ((hon 8 (by kernel_rfl)).symm.trans h1_) (by decide), fun _ h1_ => absurd ((hon 11 (by kernel_rfl)).symm.trans h1_) (by decide), Q_HO277, Q_HA_HO277, Q_HI0_e11, fun h0_ => absurd ((hoff 15 (by kernel_rfl)).symm.trans h0_) (by decide), Q_X5_, Q_X12_⟩
      refine steps_cons ?_ ?_
      ·rintro b a w' ⟨v267, adz_v267, v276, adz_v276, m5_, m12_, ha, Q_BK263, Q_HI0, Q_HK, Q_HB, Q_HI0_e1, Q_HO268, Q_HA_HO268, Q_HI0_e4, Q_HI0_e8, Q_HO277, Q_HA_HO277, Q_HI0_e11, Q_BK263_e15, Q_X5_, Q_X12_⟩ hb_ hon hoff
       refine ⟨_, rfl, fun K hK => ?_⟩
       have e2 : a.tmps[2]? = some (.pointer (some ⟨gb263, 0, none⟩)) := by rw [ha]; exact (putSel_off rfl).trans rfl
       have e17 : a.tmps[17]? = some (.agg #[.int .i64 t264, .int .i64 (rd y266 t269), .int .i64 t272, .int .i64 t273, .int .i64 (rd y275 t278)]) := by rw [ha]; exact putSel_on (e := (14, 17, .agg #[.int .i64 t264, .int .i64 (rd y266 t269), .int .i64 t272, .int .i64 t273, .int .i64 (rd y275 t278)])) 10 rfl rfl (hon 14 (by kernel_rfl)) rfl
       replace ha := Aside0.mk ha
       have BK263 := Aside0.mk (Q_BK263 hb_)
       have HK := Aside0.mk Q_HK
       have HB := Aside0.mk Q_HB
       have HO268 := Aside0.mk (Q_HO268 (hon 2 (by kernel_rfl)))
       have HA_HO268 := Aside0.mk (Q_HA_HO268 (hon 2 (by kernel_rfl)))
       have HO277 := Aside0.mk (Q_HO277 (hon 9 (by kernel_rfl)))
       have HA_HO277 := Aside0.mk (Q_HA_HO277 (hon 9 (by kernel_rfl)))
       have HI0 := Aside0.mk (Q_HI0_e11 (hon 11 (by kernel_rfl)))
       obtain ⟨co23, eo23⟩ := HA_HO268.out
       clear HA_HO268
       subst eo23
       obtain ⟨co24, eo24⟩ := HA_HO277.out
       clear HA_HO277
       subst eo24
       have hs25 : w'.cell? ⟨gb263, 0, none⟩ = some (.int .i64 0) := (blk_cell BK263.out 0).trans rfl
       have hfs25 := blk_frozen BK263.out 0
       have hs26 : w'.cell? ⟨gb263, 1, none⟩ = some (.int .i64 0) := (blk_cell BK263.out 1).trans rfl
       have hfs26 := blk_frozen BK263.out 1
       have hs27 : w'.cell? ⟨gb263, 2, none⟩ = some (.int .i64 0) := (blk_cell BK263.out 2).trans rfl
       have hfs27 := blk_frozen BK263.out 2
       have hs28 : w'.cell? ⟨gb263, 3, none⟩ = some (.int .i64 0) := (blk_cell BK263.out 3).trans rfl
       have hfs28 := blk_frozen BK263.out 3
       have hs29 : w'.cell? ⟨gb263, 4, none⟩ = some (.int .i64 0) := (blk_cell BK263.out 4).trans rfl
       have hfs29 := blk_frozen BK263.out 4
       refine skip_ (w1 := ?_) (by rfl) rfl ?_ ?_
       rotate_left
       ·go_simp
        rfl
       refine hK.out _ _ ⟨.slice (some adz_v267) y266.length co23, adz_v267, .slice (some adz_v276) y275.length co24, adz_v276, m5_, m12_, (by rw [ha.out]; exact putSel_none (v := undef) rfl), fun h0_ => absurd ((up_self b 15).symm.trans h0_) (by decide), fun h0_ => absurd ((hon 1 (by kernel_rfl)).symm.trans h0_) (by decide), (by repeat (first | (with_reducible first | exact HK.out | apply KeepBut.set_ | apply keep_drewN | apply keep_drew | apply keep_alloc | refine keep_far ?_ GW263.out _) | exact HK.out)), (by repeat (first | (with_reducible first | exact HB.out | apply below_alloc | apply pw_below_drewN | apply below_drew1 | refine below_set ?_ (IsS112.ge HI0.out) | refine below_set ?_ GE263.out) | exact HB.out)), fun _ h1_ => absurd ((hon 4 (by kernel_rfl)).symm.trans h1_) (by decide), fun _ => (by (with_reducible repeat (first | apply Kd.R_alloc | apply Kd.R_drewN | apply Kd.R_drew)); exact Kd.R_mono (Kd.R_far (p := ⟨gb263, 4, none⟩) (Kd.R_far (p := ⟨gb263, 3, none⟩) (Kd.R_far (p := ⟨gb263, 2, none⟩) (Kd.R_far (p := ⟨gb263, 1, none⟩) (Kd.R_far (p := ⟨gb263, 0, none⟩) (Kd.R_types HO268.out BK263.out (by decide)) (fun _ hk => hk.2) (.int .i64 t264)) (fun _ hk => hk.2) (.int .i64 (rd y266 t269))) (fun _ hk => hk.2) (.int .i64 t272)) (fun _ hk => hk.2) (.int .i64 t273)) (fun _ hk => hk.2) (.int .i64 (rd y275 t278))) (fun _ hk => hk.1)), fun _ => ⟨_, rfl⟩, fun _ h1_ => absurd ((hon 8 (by kernel_rfl)).symm.trans h1_) (by decide), fun _ h1_ => absurd ((hon 11 (by kernel_rfl)).symm.trans h1_) (by decide), fun _ => (by (with_reducible repeat (first | apply Kd.R_alloc | apply Kd.R_drewN | apply Kd.R_drew)); exact Kd.R_mono (Kd.R_far (p := ⟨gb263, 4, none⟩) (Kd.R_far (p := ⟨gb263, 3, none⟩) (Kd.R_far (p := ⟨gb263, 2, none⟩) (Kd.R_far (p := ⟨gb263, 1, none⟩) (Kd.R_far (p := ⟨gb263, 0, none⟩) (Kd.R_types HO277.out BK263.out (by decide)) (fun _ hk => hk.2) (.int .i64 t264)) (fun _ hk => hk.2) (.int .i64 (rd y266 t269))) (fun _ hk => hk.2) (.int .i64 t272)) (fun _ hk => hk.2) (.int .i64 t273)) (fun _ hk => hk.2) (.int .i64 (rd y275 t278))) (fun _ hk => hk.1)), fun _ => ⟨_, rfl⟩, fun _ => (by repeat (first | (with_reducible first | exact HI0.out | apply IsS112.alloc | apply IsS112.drewN | apply IsS112.drew | apply IsS112.set_1 | refine IsS112.far ?_ NB0_263.out _) | exact HI0.out)), fun _ => (by (with_reducible repeat (first | refine blk_drewN ?_ _ | refine blk_drew ?_ | refine blk_alloc ?_ _)); refine blk_put (cs := #[.int .i64 t264, .int .i64 (rd y266 t269), .int .i64 t272, .int .i64 t273, .int .i64 0]) ?_ 4 _ rfl; (with_reducible repeat (first | refine blk_drewN ?_ _ | refine blk_drew ?_ | refine blk_alloc ?_ _)); refine blk_put (cs := #[.int .i64 t264, .int .i64 (rd y266 t269), .int .i64 t272, .int .i64 0, .int .i64 0]) ?_ 3 _ rfl; (with_reducible repeat (first | refine blk_drewN ?_ _ | refine blk_drew ?_ | refine blk_alloc ?_ _)); refine blk_put (cs := #[.int .i64 t264, .int .i64 (rd y266 t269), .int .i64 0, .int .i64 0, .int .i64 0]) ?_ 2 _ rfl; (with_reducible repeat (first | refine blk_drewN ?_ _ | refine blk_drew ?_ | refine blk_alloc ?_ _)); refine blk_put (cs := #[.int .i64 t264, .int .i64 0, .int .i64 0, .int .i64 0, .int .i64 0]) ?_ 1 _ rfl; (with_reducible repeat (first | refine blk_drewN ?_ _ | refine blk_drew ?_ | refine blk_alloc ?_ _)); refine blk_put (cs := #[.int .i64 0, .int .i64 0, .int .i64 0, .int .i64 0, .int .i64 0]) ?_ 0 _ rfl; (with_reducible repeat (first | refine blk_drewN ?_ _ | refine blk_drew ?_ | refine blk_alloc ?_ _)); exact BK263.out), Q_X5_, Q_X12_⟩
      exact steps_nil
     rintro b a w27 hall ⟨v267, adz_v267, v276, adz_v276, m5_, m12_, ha, Q_BK263, Q_HI0, Q_HK, Q_HB, Q_HI0_e1, Q_HO268, Q_HA_HO268, Q_HI0_e4, Q_HI0_e8, Q_HO277, Q_HA_HO277, Q_HI0_e11, Q_BK263_e15, Q_X5_, Q_X12_⟩
     clear BK263 HB HI0 HK
     have hb1_ := hall 1 (by kernel_rfl)
     have hb2_ := hall 2 (by kernel_rfl)
     have hb4_ := hall 4 (by kernel_rfl)
     have hb5_ := hall 5 (by kernel_rfl)
     have hb6_ := hall 6 (by kernel_rfl)
     have hb8_ := hall 8 (by kernel_rfl)
     have hb9_ := hall 9 (by kernel_rfl)
     have hb11_ := hall 11 (by kernel_rfl)
     have hb12_ := hall 12 (by kernel_rfl)
     have hb13_ := hall 13 (by kernel_rfl)
     have hb14_ := hall 14 (by kernel_rfl)
     have hb15_ := hall 15 (by kernel_rfl)
     subst ha
     obtain rfl := Q_X5_ hb5_
     obtain rfl := Q_X12_ hb12_
     simp only [putSel, hb1_, hb2_, hb4_, hb5_, hb6_, hb8_, hb9_, hb11_, hb12_, hb13_, hb14_, hb15_, if_true, Act.put, List.setIfInBounds_toArray, List.set_cons_zero, List.set_cons_succ]
     clear Q_BK263
     clear Q_HI0
     have HK := Aside0.mk Q_HK
     clear Q_HK
     have HB := Aside0.mk Q_HB
     clear Q_HB
     clear Q_HI0_e1
     have HO268 := Aside0.mk (Q_HO268 hb2_)
     clear Q_HO268
     have HA_HO268 := Aside0.mk (Q_HA_HO268 hb2_)
     clear Q_HA_HO268
     clear Q_HI0_e4
     clear Q_HI0_e8
     have HO277 := Aside0.mk (Q_HO277 hb9_)
     clear Q_HO277
     have HA_HO277 := Aside0.mk (Q_HA_HO277 hb9_)
     clear Q_HA_HO277
     have HI0 := Aside0.mk (Q_HI0_e11 hb11_)
     clear Q_HI0_e11
     have BK263 := Aside0.mk (Q_BK263_e15 hb15_)
     clear Q_BK263_e15
     clear hall hb1_ hb2_ hb4_ hb5_ hb6_ hb8_ hb9_ hb11_ hb12_ hb13_ hb14_ hb15_
     obtain ⟨co28, eo28⟩ := HA_HO268.out
     clear HA_HO268
     subst eo28
     obtain ⟨co29, eo29⟩ := HA_HO277.out
     clear HA_HO277
     subst eo29
     try go_wp2
     refine bodyPost_ret (results_cell_row rfl _ _ gb263 90 #[.int .i64 t264, .int .i64 (rd y266 t269), .int .i64 t272, .int .i64 t273, .int .i64 (rd y275 t278)] (0, 0) _ rfl (by (with_reducible repeat (first | refine blk_drewN ?_ _ | refine blk_drew ?_ | refine blk_alloc ?_ _)); exact BK263.out) Try.underlying90 rfl (by kernel_rfl)) rfl ?_
     exact ⟨by first | rfl | (simp [errW_none, errW_some] <;> rfl) | (simp [*, errW_none, errW_some] <;> rfl), by repeat (first | (with_reducible first | exact HI0.out | apply IsS112.alloc | apply IsS112.drewN | apply IsS112.drew | apply IsS112.set_1 | refine IsS112.far ?_ NB0_263.out _) | exact HI0.out), by repeat (first | (with_reducible first | exact HB.out | apply below_alloc | apply pw_below_drewN | apply below_drew1 | refine below_set ?_ (IsS112.ge HI0.out) | refine below_set ?_ GE263.out) | exact HB.out), by repeat (first | (with_reducible first | exact HK.out | apply KeepBut.set_ | apply keep_drewN | apply keep_drew | apply keep_alloc | refine keep_far ?_ GW263.out _) | exact HK.out)⟩
    ·rw [if_neg c9] at H
     exact absurd H (by simp)
   ·rw [if_neg c8] at H
    exact absurd H (by simp)
  ·rw [if_neg c5] at H
   exact absurd H (by simp)
 ·rw [if_neg c4] at H
  exact absurd H (by simp)
mutual
def spec_l71Rows.l0 : Nat → List (S90) → Int → List Int → Int → Option ((List (S90)) × Int)
 | 0, _, _, _, _ => none
 | k + 1, x5, x6, x1000, x1001 => if x6 > 0 then ((spec_l71Row.f k x1000 x1001).bind fun bt286 => (if (x5.length : Int) > 0 then ((spec_l6Rd_pick.f k x1000 bt286.2.2.2.2.2 3).bind fun bt293 => (spec_l71Rows.j1 k x5 x6 (bt293.1 == 0) x1000 bt293.2 bt286.1 bt286.2.1 bt286.2.2.1 bt286.2.2.2.1 bt286.2.2.2.2.1)) else (spec_l71Rows.j1 k x5 x6 false x1000 bt286.2.2.2.2.2 bt286.1 bt286.2.1 bt286.2.2.1 bt286.2.2.2.1 bt286.2.2.2.2.1))) else (some (x5, x1001))
def spec_l71Rows.j1 : Nat → List (S90) → Int → Bool → List Int → Int → Int → Int → Int → Int → Int → Option ((List (S90)) × Int)
 | 0, _, _, _, _, _, _, _, _, _, _ => none
 | k + 1, x5, x6, x27, x1000, x1001, x293000, x293001, x293002, x293003, x293004 => if x27 = true then ((spec_l6Rd_pick.f k x1000 x1001 (x5.length : Int)).bind fun bt295 => (if 0 ≤ bt295.1 then (if bt295.1 < (x5.length : Int) then ((spec_l6Rd_pick.f k x1000 bt295.2 2).bind fun bt299 => (if bt299.1 = 0 then (if x5.length < 3518437208883 then (spec_l71Rows.l0 k (x5 ++ [(⟨(rd_T90 x5 bt295.1).f0, (rd_T90 x5 bt295.1).f1, (⟨x293002, x293003⟩ : S36), wrap64 (-((rd_T90 x5 bt295.1).f3))⟩ : S90)]) (wrap64 (x6 - 1)) x1000 bt299.2) else (none)) else (if x5.length < 3518437208883 then (spec_l71Rows.l0 k (x5 ++ [(⟨(rd_T90 x5 bt295.1).f0, (rd_T90 x5 bt295.1).f1, (⟨x293002, x293003⟩ : S36), x293004⟩ : S90)]) (wrap64 (x6 - 1)) x1000 bt299.2) else (none)))) else (none)) else (none))) else (if x5.length < 3518437208883 then (spec_l71Rows.l0 k (x5 ++ [(⟨x293000, x293001, (⟨x293002, x293003⟩ : S36), x293004⟩ : S90)]) (wrap64 (x6 - 1)) x1000 x1001) else (none))
end
def spec_l71Rows.f (k : Nat) (s0_0 : List Int) (s0_1 : Int) (a1 : Int) : Option ((List (S90)) × Int) := (spec_l6Rd_pick.f k s0_0 s0_1 (wrap64 (a1 + 1))).bind fun bt284 => (spec_l71Rows.l0 k (([] : List (S90))) bt284.1 s0_0 bt284.2)
theorem spec_l71Rows.mono_l : ∀ k, (∀ y0 y1 y2 y3, LeO (spec_l71Rows.l0 k y0 y1 y2 y3) (spec_l71Rows.l0 (k + 1) y0 y1 y2 y3)) ∧ (∀ y0 y1 y2 y3 y4 y5 y6 y7 y8 y9, LeO (spec_l71Rows.j1 k y0 y1 y2 y3 y4 y5 y6 y7 y8 y9) (spec_l71Rows.j1 (k + 1) y0 y1 y2 y3 y4 y5 y6 y7 y8 y9))
 | 0 => ⟨fun _ _ _ _ r h => by simp [spec_l71Rows.l0] at h, fun _ _ _ _ _ _ _ _ _ _ r h => by simp [spec_l71Rows.j1] at h⟩
 | k + 1 => by
  obtain ⟨ih0, ih1⟩ := spec_l71Rows.mono_l k
  refine ⟨?_, ?_⟩
  ·intro y0 y1 y2 y3
   unfold spec_l71Rows.l0
   repeat' first
   | (with_reducible exact ih0 _ _ _ _)
   | (with_reducible exact ih1 _ _ _ _ _ _ _ _ _ _)
   | (with_reducible exact spec_l6Rd_pick.mono _ _ _ _)
   | (with_reducible exact spec_l71Row.mono _ _ _)
   | (with_reducible exact LeO.refl _)
   | (with_reducible exact LeO.none _)
   | (with_reducible refine LeO.ite ?_ ?_)
   | (with_reducible refine LeO.bind ?_ (fun _ => ?_))
   | exact ih0 _ _ _ _
   | exact ih1 _ _ _ _ _ _ _ _ _ _
   | exact spec_l6Rd_pick.mono _ _ _ _
   | exact spec_l71Row.mono _ _ _
   | exact LeO.none _
   | refine LeO.ite ?_ ?_
   | refine LeO.bind ?_ (fun _ => ?_)
  ·intro y0 y1 y2 y3 y4 y5 y6 y7 y8 y9
   unfold spec_l71Rows.j1
   repeat' first
   | (with_reducible exact ih0 _ _ _ _)
   | (with_reducible exact ih1 _ _ _ _ _ _ _ _ _ _)
   | (with_reducible exact spec_l6Rd_pick.mono _ _ _ _)
   | (with_reducible exact spec_l71Row.mono _ _ _)
   | (with_reducible exact LeO.refl _)
   | (with_reducible exact LeO.none _)
   | (with_reducible refine LeO.ite ?_ ?_)
   | (with_reducible refine LeO.bind ?_ (fun _ => ?_))
   | exact ih0 _ _ _ _
   | exact ih1 _ _ _ _ _ _ _ _ _ _
   | exact spec_l6Rd_pick.mono _ _ _ _
   | exact spec_l71Row.mono _ _ _
   | exact LeO.none _
   | refine LeO.ite ?_ ?_
   | refine LeO.bind ?_ (fun _ => ?_)
theorem spec_l71Rows.mono : ∀ a0 a1 a2 k, LeO (spec_l71Rows.f k a0 a1 a2) (spec_l71Rows.f (k + 1) a0 a1 a2) := by
 intro a0 a1 a2 k
 obtain ⟨ih0, ih1⟩ := spec_l71Rows.mono_l k
 unfold spec_l71Rows.f
 repeat' first
   | (with_reducible exact ih0 _ _ _ _)
   | (with_reducible exact ih1 _ _ _ _ _ _ _ _ _ _)
   | (with_reducible exact spec_l6Rd_pick.mono _ _ _ _)
   | (with_reducible exact spec_l71Row.mono _ _ _)
   | (with_reducible exact LeO.refl _)
   | (with_reducible exact LeO.none _)
   | (with_reducible refine LeO.ite ?_ ?_)
   | (with_reducible refine LeO.bind ?_ (fun _ => ?_))
   | exact ih0 _ _ _ _
   | exact ih1 _ _ _ _ _ _ _ _ _ _
   | exact spec_l6Rd_pick.mono _ _ _ _
   | exact spec_l71Row.mono _ _ _
   | exact LeO.none _
   | refine LeO.ite ?_ ?_
   | refine LeO.bind ?_ (fun _ => ?_)
set_option maxHeartbeats 8000000 in
set_option maxRecDepth 100000 in
theorem spec_l71Rows.calls (k : Nat) (g : Nat) (s0_0 : List Int) (s0_1 : Int) (a1 : Int) (r1 : List (S90)) (r2 : Int) (w0 w : World) (hI : IsS112 w0 w g s0_0 s0_1) (hB : Below w0.heap.size w0 w) (h : spec_l71Rows.f k s0_0 s0_1 a1 = some (r1, r2)) :
  Calls Try.prog 103 #[.pointer (some ⟨g, 0, none⟩), .int .i64 a1] w fun e w' => ∃ v0_ : Value, e = .returned (v0_) ∧ Kd.R k90 90 w' w.heap.size (fun _ => True) v0_ r1 ∧ IsS112 w0 w' g s0_0 r2 ∧ Below w0.heap.size w0 w' ∧ KeepBut w w' g none := by
 have hu90 := Try.underlying90
 have HI0 := Aside0.mk hI
 have HK := Aside0.mk (KeepBut.refl w g none)
 have HL := Aside0.mk hB.size
 clear hI
 have HW0 := Aside0.mk hB.size
 have HB := Aside0.mk hB
 clear hB
 have H : ((spec_l6Rd_pick.f k s0_0 s0_1 (wrap64 (a1 + 1))).bind fun bt284 => (spec_l71Rows.l0 k (([] : List (S90))) bt284.1 s0_0 bt284.2)) = some (r1, r2) := h
 clear h
 obtain ⟨y281, hy281⟩ : ∃ y_ : List (S90), y_ = (([] : List (S90))) := ⟨_, rfl⟩
 replace H : ((spec_l6Rd_pick.f k s0_0 s0_1 (wrap64 (a1 + 1))).bind fun bt284 => (spec_l71Rows.l0 k y281 bt284.1 s0_0 bt284.2)) = some (r1, r2) := by first | (rw [hy281]; with_reducible exact H) | (have H2_ := (Option.bind_some _ _).symm.trans H; rw [hy281]; with_reducible exact H2_) | (have H2_ := (Option.bind_some _ _).symm.trans H; with_reducible exact H2_) | with_reducible exact H | (rw [hy281]; exact H) | exact H
 have Ny281 := Aside0.mk hy281
 clear hy281
 replace H := Option.bind_eq_some_iff.mp H
 obtain ⟨⟨t284, t285⟩, A30, H⟩ := H
 replace H : (spec_l71Rows.l0 k y281 t284 s0_0 t285) = some (r1, r2) := H
 have A3 := Aside0.mk A30
 clear A30
 have H' := Aside0.mk H
 clear H
 go_enter Try.func103, Try.ntmps103
 go_wp2_with (first | ((with_reducible refine gate_dst (N := 9) rfl ?_); refine Kd.R_lit k90 _ 90 ?hg (N := 9) ?hd (xs := ([] : List (S90))) (inner := []) (ok := fun _ => True) (okp := fun _ => True) ?hr ?hp (fun _ hk => hk) trivial (Below.refl _ _) (Nat.le_refl _) (by simp) ?_; (case hd => rfl); (case hg => rfl); (case hr => first | (go_simp; done) | (go_simp; rfl)); (case hp => exact (Reps.none _ _)); intro v282 w4 ho5 hb hg_ hnew_; clear hg_ hnew_; (first | rw [← Ny281.out] at ho5 | (simp only [Int.reduceToNat] at ho5; rw [← Ny281.out] at ho5)); have n0_ := Aside0.mk (Kd.R_lower ho5 (keep_size (w := w) (g := g) (row := none) (by repeat (first | (with_reducible first | exact HK.out | apply KeepBut.set_ | apply keep_drewN | apply keep_drew | apply keep_alloc) | exact HK.out)))); have n1_ := Aside0.mk (IsS112.below (by repeat (first | (with_reducible first | exact HI0.out | apply IsS112.alloc | apply IsS112.drewN | apply IsS112.drew | apply IsS112.set_1) | exact HI0.out)) hb); have n2_ := Aside0.mk (KeepBut.trans (by repeat (first | (with_reducible first | exact HK.out | apply KeepBut.set_ | apply keep_drewN | apply keep_drew | apply keep_alloc) | exact HK.out)) (KeepBut.of_below hb g none) (.inl rfl)); have n3_ := Aside0.mk (below_step (by repeat (first | (with_reducible first | exact HB.out | apply below_alloc | apply pw_below_drewN | apply below_drew1 | refine below_set ?_ (IsS112.ge HI0.out)) | exact HB.out)) hb); clear HI0; clear HK; clear HB; have HO283 := n0_; have HI0 := n1_; have HK := n2_; have HB := n3_; clear n0_ n1_ n2_ n3_; clear hb ho5) | ((with_reducible refine gate_callee (f := 67) rfl ?_); refine goesL_ (some 13) rfl rfl Try.func67 (by kernel_rfl) rfl #[.pointer (some ⟨g, 0, none⟩), .int .i64 (wrap64 (a1 + 1))] rfl (by (try simp only [List.map_toArray, List.map_cons, List.map_nil]); first | done | rfl | (simp only [List.length_drop, List.length_take]; rfl)) ?_; (with_reducible refine (spec_l6Rd_pick.calls k g s0_0 s0_1 (wrap64 (a1 + 1)) t284 t285 w0 _ ?side1 ?side2 A3.out).mono ?_); (case side1 => repeat (first | (with_reducible first | exact HI0.out | apply IsS112.alloc | apply IsS112.drewN | apply IsS112.drew | apply IsS112.set_1) | exact HI0.out)); (case side2 => repeat (first | (with_reducible first | exact HB.out | apply below_alloc | apply pw_below_drewN | apply below_drew1 | refine below_set ?_ (IsS112.ge HI0.out)) | exact HB.out)); rintro e w6 ⟨rfl, hi, hb, hk⟩; refine ⟨_, rfl, ?_⟩; have n0_ := Aside0.mk (Kd.R_mono (Kd.R_keep (IsS112.apart (show IsS112 w0 _ g s0_0 s0_1 from by repeat (first | (with_reducible first | exact HI0.out | apply IsS112.alloc | apply IsS112.drewN | apply IsS112.drew | apply IsS112.set_1) | exact HI0.out)) (by (with_reducible repeat (first | apply Kd.R_alloc | apply Kd.R_drewN | apply Kd.R_drew)); exact HO283.out) (by decide)) hk (fun _ h => h.2)) (fun _ h => h.1)); have n1_ := Aside0.mk (KeepBut.trans (by repeat (first | (with_reducible first | exact HK.out | apply KeepBut.set_ | apply keep_drewN | apply keep_drew | apply keep_alloc) | exact HK.out)) hk (.inl rfl)); have n2_ := Aside0.mk (hb); have n3_ := Aside0.mk (hi); clear HO283; clear HK; clear HB; clear HI0; have HO283 := n0_; have HK := n1_; have HB := n2_; have HI0 := n3_; clear n0_ n1_ n2_ n3_; (try clear hb); (try clear hb2); (try clear hk); (try clear hi)))
 go_loopg [5, 6] k (fun kq v5 v6 w' => ∃ (x5_1 : List (S90)) (x6_1 : Int) (x1001_1 : Int), v6 = .int .i64 x6_1 ∧ Aside0 (spec_l71Rows.l0 kq x5_1 x6_1 s0_0 x1001_1 = some (r1, r2)) ∧ Aside0 (kq ≤ k) ∧ Aside0 (Kd.R k90 90 w' w.heap.size (fun _ => True) v5 x5_1) ∧ Aside0 (IsS112 w0 w' g s0_0 x1001_1) ∧ Aside0 (KeepBut w w' g none) ∧ Aside0 (Below w0.heap.size w0 w'))
 case atStart => exact ⟨(y281), (t284), (t285), (by first | rfl | (simp; done) | (simp [*]; done)), H', ⟨Nat.le_refl _⟩, ⟨by (with_reducible repeat (first | apply Kd.R_alloc | apply Kd.R_drewN | apply Kd.R_drew)); exact HO283.out⟩, ⟨by repeat (first | (with_reducible first | exact HI0.out | apply IsS112.alloc | apply IsS112.drewN | apply IsS112.drew | apply IsS112.set_1) | exact HI0.out)⟩, ⟨by repeat (first | (with_reducible first | exact HK.out | apply KeepBut.set_ | apply keep_drewN | apply keep_drew | apply keep_alloc) | exact HK.out)⟩, ⟨by repeat (first | (with_reducible first | exact HB.out | apply below_alloc | apply pw_below_drewN | apply below_drew1 | refine below_set ?_ (IsS112.ge HI0.out)) | exact HB.out)⟩⟩
 case round =>
  clear H'
  try clear c1
  try clear p2
  try clear c6
  try clear p6
  obtain ⟨x5_1, x6_1, x1001_1, rfl, HA, HK1, HO_5, HI0, HK, HB⟩ := hrel
  cases gk with
  | zero => exact absurd HA.out (by simp [spec_l71Rows.l0])
  | succ k1 =>
   have H := HA.out
   clear HA
   simp only [spec_l71Rows.l0] at H
   by_cases c7 : x6_1 > 0
   ·rw [if_pos c7] at H
    have c7b0 : decide (0 < x6_1) = true := decide_eq_true c7
    clear c7
    replace H := Option.bind_eq_some_iff.mp H
    obtain ⟨⟨t286, t287, t288, t289, t290, t291⟩, A80, H⟩ := H
    replace H : (if (x5_1.length : Int) > 0 then ((spec_l6Rd_pick.f k1 s0_0 t291 3).bind fun bt293 => (spec_l71Rows.j1 k1 x5_1 x6_1 (bt293.1 == 0) s0_0 bt293.2 t286 t287 t288 t289 t290)) else (spec_l71Rows.j1 k1 x5_1 x6_1 false s0_0 t291 t286 t287 t288 t289 t290)) = some (r1, r2) := H
    have A8 := Aside0.mk A80
    clear A80
    have HC9 := Aside0.mk H
    clear H
    go_upto_region 6 with (first | ((with_reducible refine gate_callee (f := 125) rfl ?_); refine goesL_ (some 19) rfl rfl Try.func125 (by kernel_rfl) rfl #[.pointer (some ⟨g, 0, none⟩)] rfl (by (try simp only [List.map_toArray, List.map_cons, List.map_nil]); first | done | rfl | (simp only [List.length_drop, List.length_take]; rfl)) ?_; (with_reducible refine (spec_l71Row.calls k1 g s0_0 x1001_1 t286 t287 t288 t289 t290 t291 w0 _ ?side1 ?side2 A8.out).mono ?_); (case side1 => repeat (first | (with_reducible first | exact HI0.out | apply IsS112.alloc | apply IsS112.drewN | apply IsS112.drew | apply IsS112.set_1) | exact HI0.out)); (case side2 => repeat (first | (with_reducible first | exact HB.out | apply below_alloc | apply pw_below_drewN | apply below_drew1 | refine below_set ?_ (IsS112.ge HI0.out)) | exact HB.out)); rintro e w10 ⟨rfl, hi, hb, hk⟩; refine ⟨_, rfl, ?_⟩; have n0_ := Aside0.mk (Kd.R_mono (Kd.R_keep (IsS112.apart (show IsS112 w0 _ g s0_0 x1001_1 from by repeat (first | (with_reducible first | exact HI0.out | apply IsS112.alloc | apply IsS112.drewN | apply IsS112.drew | apply IsS112.set_1) | exact HI0.out)) (by (with_reducible repeat (first | apply Kd.R_alloc | apply Kd.R_drewN | apply Kd.R_drew)); exact HO_5.out) (by decide)) hk (fun _ h => h.2)) (fun _ h => h.1)); have n1_ := Aside0.mk (KeepBut.trans (by repeat (first | (with_reducible first | exact HK.out | apply KeepBut.set_ | apply keep_drewN | apply keep_drew | apply keep_alloc) | exact HK.out)) hk (.inl rfl)); have n2_ := Aside0.mk (hb); have n3_ := Aside0.mk (hi); clear HO_5; clear HK; clear HB; clear HI0; have HO_5 := n0_; have HK := n1_; have HB := n2_; have HI0 := n3_; clear n0_ n1_ n2_ n3_; (try clear hb); (try clear hb2); (try clear hk); (try clear hi)) | ((with_reducible refine gate_dst (N := 7) rfl ?_); refine box_event ?hg (N := 7) ?hd (cs := #[.int .i64 0, .int .i64 0, .int .i64 0, .int .i64 0, .int .i64 0]) (t := 90) ?hr ?_; (case hd => rfl); (case hg => rfl); (case hr => first | (go_simp; done) | (go_simp; rfl)); intro gb292 hg w11 hbox hb; have n0_ := Aside0.mk (Kd.R_below (Kd.R_elderB (by (with_reducible repeat (first | apply Kd.R_alloc | apply Kd.R_drewN | apply Kd.R_drew)); exact HO_5.out) gb292 (Nat.le_of_eq hg.symm)) hb); have n1_ := Aside0.mk (IsS112.below (by repeat (first | (with_reducible first | exact HI0.out | apply IsS112.alloc | apply IsS112.drewN | apply IsS112.drew | apply IsS112.set_1) | exact HI0.out)) hb); have n2_ := Aside0.mk (KeepBut.trans (by repeat (first | (with_reducible first | exact HK.out | apply KeepBut.set_ | apply keep_drewN | apply keep_drew | apply keep_alloc) | exact HK.out)) (KeepBut.of_below hb g none) (.inl rfl)); have n3_ := Aside0.mk (below_step (by repeat (first | (with_reducible first | exact HB.out | apply below_alloc | apply pw_below_drewN | apply below_drew1 | refine below_set ?_ (IsS112.ge HI0.out)) | exact HB.out)) hb); have n4_ := Aside0.mk (hbox); have n5_ := Aside0.mk ((by rw [hg]; exact (keep_size (w := w) (g := g) (row := none) (by repeat (first | (with_reducible first | exact HK.out | apply KeepBut.set_ | apply keep_drewN | apply keep_drew | apply keep_alloc) | exact HK.out))) : w.heap.size ≤ gb292)); have n6_ := Aside0.mk ((Nat.le_trans HW0.out (by rw [hg]; exact (keep_size (w := w) (g := g) (row := none) (by repeat (first | (with_reducible first | exact HK.out | apply KeepBut.set_ | apply keep_drewN | apply keep_drew | apply keep_alloc) | exact HK.out))) : w.heap.size ≤ gb292) : w0.heap.size ≤ gb292)); have n7_ := Aside0.mk ((by rw [hg]; exact Nat.ne_of_lt (IsS112.lt (show IsS112 w0 _ g s0_0 t291 from by repeat (first | (with_reducible first | exact HI0.out | apply IsS112.alloc | apply IsS112.drewN | apply IsS112.drew | apply IsS112.set_1) | exact HI0.out))) : g ≠ gb292)); have n8_ := Aside0.mk ((by rw [hg]; exact Nat.ne_of_gt (IsS112.lt (show IsS112 w0 _ g s0_0 t291 from by repeat (first | (with_reducible first | exact HI0.out | apply IsS112.alloc | apply IsS112.drewN | apply IsS112.drew | apply IsS112.set_1) | exact HI0.out))) : gb292 ≠ g)); clear HO_5; clear HI0; clear HK; clear HB; have HO_5 := n0_; have HI0 := n1_; have HK := n2_; have HB := n3_; have BK292 := n4_; have GW292 := n5_; have GE292 := n6_; have NB0_292 := n7_; have NB292_0 := n8_; clear n0_ n1_ n2_ n3_ n4_ n5_ n6_ n7_ n8_; clear hb hbox hg; have hnb12 := NB292_0.out; have hnc12 := NB0_292.out; have hcz13_0 : w11.cell? ⟨gb292, 0, none⟩ = some (.int .i64 0) := (blk_cell BK292.out 0).trans rfl; have hcz13_1 : w11.cell? ⟨gb292, 1, none⟩ = some (.int .i64 0) := (blk_cell BK292.out 1).trans rfl; have hcz13_2 : w11.cell? ⟨gb292, 2, none⟩ = some (.int .i64 0) := (blk_cell BK292.out 2).trans rfl; have hcz13_3 : w11.cell? ⟨gb292, 3, none⟩ = some (.int .i64 0) := (blk_cell BK292.out 3).trans rfl; have hcz13_4 : w11.cell? ⟨gb292, 4, none⟩ = some (.int .i64 0) := (blk_cell BK292.out 4).trans rfl; have hfz13_0 := blk_frozen BK292.out 0; have hfz13_1 := blk_frozen BK292.out 1; have hfz13_2 := blk_frozen BK292.out 2; have hfz13_3 := blk_frozen BK292.out 3; have hfz13_4 := blk_frozen BK292.out 4))
    (try simp only [Act.put, List.setIfInBounds_toArray, List.set_cons_zero, List.set_cons_succ])
    go_cut [27] (fun v27 wc => ∃ (kq : Nat) (x27_8 : Bool) (x1001_8 : Int), v27 = .bool x27_8 ∧ Aside0 (spec_l71Rows.j1 kq x5_1 x6_1 x27_8 s0_0 x1001_8 t286 t287 t288 t289 t290 = some (r1, r2)) ∧ Aside0 (kq ≤ k1) ∧ Aside0 (Kd.R k90 90 wc w.heap.size (fun k_ => k_ ≠ gb292) u5 x5_1) ∧ Aside0 (wc.heap[gb292]? = some (.cells #[.int .i64 t286, .int .i64 t287, .int .i64 t288, .int .i64 t289, .int .i64 t290] 90 (0, 0))) ∧ Aside0 (IsS112 w0 wc g s0_0 x1001_8) ∧ Aside0 (KeepBut w wc g none) ∧ Aside0 (Below w0.heap.size w0 wc))
    case first =>
     have H := HC9.out
     clear HC9
     by_cases c14 : (x5_1.length : Int) > 0
     ·rw [if_pos c14] at H
      have c14b0 : decide (0 < (x5_1.length : Int)) = true := decide_eq_true c14
      have c14b1 : decide (0 < x5_1.length) = true := decide_eq_true (by omega)
      clear c14
      (first | rw [c14b0] | (simp only [i64_w, i32_w]; rw [c14b0]) | skip)
      replace H := Option.bind_eq_some_iff.mp H
      obtain ⟨⟨t293, t294⟩, A150, H⟩ := H
      replace H : (spec_l71Rows.j1 k1 x5_1 x6_1 (t293 == 0) s0_0 t294 t286 t287 t288 t289 t290) = some (r1, r2) := H
      have A15 := Aside0.mk A150
      clear A150
      have H' := Aside0.mk H
      clear H
      obtain ⟨Ao16, co16, eo16⟩ := Kd.R_slice HO_5.out
      subst eo16
      go_wp2_with (first | (go_at_call 67; (with_reducible refine (spec_l6Rd_pick.calls k1 g s0_0 t291 3 t293 t294 w0 _ ?side1 ?side2 A15.out).mono ?_); (case side1 => repeat (first | (with_reducible first | exact HI0.out | apply IsS112.alloc | apply IsS112.drewN | apply IsS112.drew | apply IsS112.set_1 | refine IsS112.far ?_ NB0_292.out _) | exact HI0.out)); (case side2 => repeat (first | (with_reducible first | exact HB.out | apply below_alloc | apply pw_below_drewN | apply below_drew1 | refine below_set ?_ (IsS112.ge HI0.out) | refine below_set ?_ GE292.out) | exact HB.out)); rintro e w17 ⟨rfl, hi, hb, hk⟩; have n0_ := Aside0.mk (Kd.R_mono (Kd.R_keep (IsS112.apart (show IsS112 w0 _ g s0_0 t291 from by repeat (first | (with_reducible first | exact HI0.out | apply IsS112.alloc | apply IsS112.drewN | apply IsS112.drew | apply IsS112.set_1 | refine IsS112.far ?_ NB0_292.out _) | exact HI0.out)) (by (with_reducible repeat (first | apply Kd.R_alloc | apply Kd.R_drewN | apply Kd.R_drew)); exact (Kd.R_mono (Kd.R_far (p := ⟨gb292, 4, none⟩) (Kd.R_far (p := ⟨gb292, 3, none⟩) (Kd.R_far (p := ⟨gb292, 2, none⟩) (Kd.R_far (p := ⟨gb292, 1, none⟩) (Kd.R_far (p := ⟨gb292, 0, none⟩) (Kd.R_mono HO_5.out (fun k_ hk => (⟨hk, hk.2⟩ : _ ∧ k_ ≠ gb292))) (fun _ hk => hk.2) (.int .i64 t286)) (fun _ hk => hk.2) (.int .i64 t287)) (fun _ hk => hk.2) (.int .i64 t288)) (fun _ hk => hk.2) (.int .i64 t289)) (fun _ hk => hk.2) (.int .i64 t290)) (fun _ h_ => h_.1))) (by decide)) hk (fun _ h => h.2)) (fun _ h => h.1)); have n1_ := Aside0.mk (KeepBut.blk hk (g' := gb292) (o := .cells #[.int .i64 t286, .int .i64 t287, .int .i64 t288, .int .i64 t289, .int .i64 t290] 90 (0, 0)) (by (with_reducible repeat (first | refine blk_drewN ?_ _ | refine blk_drew ?_ | refine blk_alloc ?_ _)); refine blk_put (cs := #[.int .i64 t286, .int .i64 t287, .int .i64 t288, .int .i64 t289, .int .i64 0]) ?_ 4 _ rfl; (with_reducible repeat (first | refine blk_drewN ?_ _ | refine blk_drew ?_ | refine blk_alloc ?_ _)); refine blk_put (cs := #[.int .i64 t286, .int .i64 t287, .int .i64 t288, .int .i64 0, .int .i64 0]) ?_ 3 _ rfl; (with_reducible repeat (first | refine blk_drewN ?_ _ | refine blk_drew ?_ | refine blk_alloc ?_ _)); refine blk_put (cs := #[.int .i64 t286, .int .i64 t287, .int .i64 0, .int .i64 0, .int .i64 0]) ?_ 2 _ rfl; (with_reducible repeat (first | refine blk_drewN ?_ _ | refine blk_drew ?_ | refine blk_alloc ?_ _)); refine blk_put (cs := #[.int .i64 t286, .int .i64 0, .int .i64 0, .int .i64 0, .int .i64 0]) ?_ 1 _ rfl; (with_reducible repeat (first | refine blk_drewN ?_ _ | refine blk_drew ?_ | refine blk_alloc ?_ _)); refine blk_put (cs := #[.int .i64 0, .int .i64 0, .int .i64 0, .int .i64 0, .int .i64 0]) ?_ 0 _ rfl; (with_reducible repeat (first | refine blk_drewN ?_ _ | refine blk_drew ?_ | refine blk_alloc ?_ _)); exact BK292.out) NB292_0.out (by simp)); have n2_ := Aside0.mk (KeepBut.trans (by repeat (first | (with_reducible first | exact HK.out | apply KeepBut.set_ | apply keep_drewN | apply keep_drew | apply keep_alloc | refine keep_far ?_ GW292.out _) | exact HK.out)) hk (.inl rfl)); have n3_ := Aside0.mk (hb); have n4_ := Aside0.mk (hi); clear HO_5; clear BK292; clear HK; clear HB; clear HI0; have HO_5 := n0_; have BK292 := n1_; have HK := n2_; have HB := n3_; have HI0 := n4_; clear n0_ n1_ n2_ n3_ n4_; (try clear hb); (try clear hb2); (try clear hk); (try clear hi)))
      go_meet
      case rel => exact ⟨_, ((t293 == 0)), (t294), (by first | rfl | (simp; done) | (simp [*]; done)), H', ⟨by have := HK1.out; first | omega | exact Nat.le_refl _⟩, ⟨by (with_reducible repeat (first | apply Kd.R_alloc | apply Kd.R_drewN | apply Kd.R_drew)); exact Kd.R_mono HO_5.out (fun _ hk => hk.2)⟩, ⟨by (with_reducible repeat (first | refine blk_drewN ?_ _ | refine blk_drew ?_ | refine blk_alloc ?_ _)); exact BK292.out⟩, ⟨by repeat (first | (with_reducible first | exact HI0.out | apply IsS112.alloc | apply IsS112.drewN | apply IsS112.drew | apply IsS112.set_1 | refine IsS112.far ?_ NB0_292.out _) | exact HI0.out)⟩, ⟨by repeat (first | (with_reducible first | exact HK.out | apply KeepBut.set_ | apply keep_drewN | apply keep_drew | apply keep_alloc | refine keep_far ?_ GW292.out _) | exact HK.out)⟩, ⟨by repeat (first | (with_reducible first | exact HB.out | apply below_alloc | apply pw_below_drewN | apply below_drew1 | refine below_set ?_ (IsS112.ge HI0.out) | refine below_set ?_ GE292.out) | exact HB.out)⟩⟩
     ·rw [if_neg c14] at H
      have c14b0 : decide (0 < (x5_1.length : Int)) = false := decide_eq_false c14
      have c14b1 : decide (0 < x5_1.length) = false := decide_eq_false (by omega)
      clear c14
      (first | rw [c14b0] | (simp only [i64_w, i32_w]; rw [c14b0]) | skip)
      have H' := Aside0.mk H
      clear H
      obtain ⟨Ao18, co18, eo18⟩ := Kd.R_slice HO_5.out
      subst eo18
      go_wp2
      go_meet
      case rel => exact ⟨_, (false), (t291), (by first | rfl | (simp; done) | (simp [*]; done)), H', ⟨by have := HK1.out; first | omega | exact Nat.le_refl _⟩, ⟨by (with_reducible repeat (first | apply Kd.R_alloc | apply Kd.R_drewN | apply Kd.R_drew)); exact Kd.R_mono (Kd.R_far (p := ⟨gb292, 4, none⟩) (Kd.R_far (p := ⟨gb292, 3, none⟩) (Kd.R_far (p := ⟨gb292, 2, none⟩) (Kd.R_far (p := ⟨gb292, 1, none⟩) (Kd.R_far (p := ⟨gb292, 0, none⟩) (Kd.R_mono HO_5.out (fun k_ hk => (⟨hk, hk.2⟩ : _ ∧ k_ ≠ gb292))) (fun _ hk => hk.2) (.int .i64 t286)) (fun _ hk => hk.2) (.int .i64 t287)) (fun _ hk => hk.2) (.int .i64 t288)) (fun _ hk => hk.2) (.int .i64 t289)) (fun _ hk => hk.2) (.int .i64 t290)) (fun _ hk => hk.1.2)⟩, ⟨by (with_reducible repeat (first | refine blk_drewN ?_ _ | refine blk_drew ?_ | refine blk_alloc ?_ _)); refine blk_put (cs := #[.int .i64 t286, .int .i64 t287, .int .i64 t288, .int .i64 t289, .int .i64 0]) ?_ 4 _ rfl; (with_reducible repeat (first | refine blk_drewN ?_ _ | refine blk_drew ?_ | refine blk_alloc ?_ _)); refine blk_put (cs := #[.int .i64 t286, .int .i64 t287, .int .i64 t288, .int .i64 0, .int .i64 0]) ?_ 3 _ rfl; (with_reducible repeat (first | refine blk_drewN ?_ _ | refine blk_drew ?_ | refine blk_alloc ?_ _)); refine blk_put (cs := #[.int .i64 t286, .int .i64 t287, .int .i64 0, .int .i64 0, .int .i64 0]) ?_ 2 _ rfl; (with_reducible repeat (first | refine blk_drewN ?_ _ | refine blk_drew ?_ | refine blk_alloc ?_ _)); refine blk_put (cs := #[.int .i64 t286, .int .i64 0, .int .i64 0, .int .i64 0, .int .i64 0]) ?_ 1 _ rfl; (with_reducible repeat (first | refine blk_drewN ?_ _ | refine blk_drew ?_ | refine blk_alloc ?_ _)); refine blk_put (cs := #[.int .i64 0, .int .i64 0, .int .i64 0, .int .i64 0, .int .i64 0]) ?_ 0 _ rfl; (with_reducible repeat (first | refine blk_drewN ?_ _ | refine blk_drew ?_ | refine blk_alloc ?_ _)); exact BK292.out⟩, ⟨by repeat (first | (with_reducible first | exact HI0.out | apply IsS112.alloc | apply IsS112.drewN | apply IsS112.drew | apply IsS112.set_1 | refine IsS112.far ?_ NB0_292.out _) | exact HI0.out)⟩, ⟨by repeat (first | (with_reducible first | exact HK.out | apply KeepBut.set_ | apply keep_drewN | apply keep_drew | apply keep_alloc | refine keep_far ?_ GW292.out _) | exact HK.out)⟩, ⟨by repeat (first | (with_reducible first | exact HB.out | apply below_alloc | apply pw_below_drewN | apply below_drew1 | refine below_set ?_ (IsS112.ge HI0.out) | refine below_set ?_ GE292.out) | exact HB.out)⟩⟩
    case rest =>
     clear HC9
     try clear c1
     try clear p2
     try clear c6
     try clear p6
     try clear c7
     try clear c7b0
     try clear c10
     try clear c12
     try clear c14
     try clear c14b0
     try clear c14b1
     try clear hcz13_0
     try clear hcz13_1
     try clear hcz13_2
     try clear hcz13_3
     try clear hcz13_4
     try clear hfz13_0
     try clear hfz13_1
     try clear hfz13_2
     try clear hfz13_3
     try clear hfz13_4
     try clear p2
     try clear p6
     obtain ⟨kq, x27_8, x1001_8, rfl, HA, HJ8, HO_5, BK292, HI0, HK, HB⟩ := hcut
     cases kq with
     | zero => exact absurd HA.out (by simp [spec_l71Rows.j1])
     | succ kj8 =>
      have H := HA.out
      clear HA
      simp only [spec_l71Rows.j1] at H
      by_cases c19 : x27_8 = true
      ·subst c19
       have H1 : ((spec_l6Rd_pick.f kj8 s0_0 x1001_8 (x5_1.length : Int)).bind fun bt295 => (if 0 ≤ bt295.1 then (if bt295.1 < (x5_1.length : Int) then ((spec_l6Rd_pick.f kj8 s0_0 bt295.2 2).bind fun bt299 => (if bt299.1 = 0 then (if x5_1.length < 3518437208883 then (spec_l71Rows.l0 kj8 (x5_1 ++ [(⟨(rd_T90 x5_1 bt295.1).f0, (rd_T90 x5_1 bt295.1).f1, (⟨t288, t289⟩ : S36), wrap64 (-((rd_T90 x5_1 bt295.1).f3))⟩ : S90)]) (wrap64 (x6_1 - 1)) s0_0 bt299.2) else (none)) else (if x5_1.length < 3518437208883 then (spec_l71Rows.l0 kj8 (x5_1 ++ [(⟨(rd_T90 x5_1 bt295.1).f0, (rd_T90 x5_1 bt295.1).f1, (⟨t288, t289⟩ : S36), t290⟩ : S90)]) (wrap64 (x6_1 - 1)) s0_0 bt299.2) else (none)))) else (none)) else (none))) = some (r1, r2) := by rw [if_pos rfl] at H; exact H
       clear H
       have H := H1
       clear H1
       replace H := Option.bind_eq_some_iff.mp H
       obtain ⟨⟨t295, t296⟩, A200, H⟩ := H
       replace H : (if 0 ≤ t295 then (if t295 < (x5_1.length : Int) then ((spec_l6Rd_pick.f kj8 s0_0 t296 2).bind fun bt299 => (if bt299.1 = 0 then (if x5_1.length < 3518437208883 then (spec_l71Rows.l0 kj8 (x5_1 ++ [(⟨(rd_T90 x5_1 t295).f0, (rd_T90 x5_1 t295).f1, (⟨t288, t289⟩ : S36), wrap64 (-((rd_T90 x5_1 t295).f3))⟩ : S90)]) (wrap64 (x6_1 - 1)) s0_0 bt299.2) else (none)) else (if x5_1.length < 3518437208883 then (spec_l71Rows.l0 kj8 (x5_1 ++ [(⟨(rd_T90 x5_1 t295).f0, (rd_T90 x5_1 t295).f1, (⟨t288, t289⟩ : S36), t290⟩ : S90)]) (wrap64 (x6_1 - 1)) s0_0 bt299.2) else (none)))) else (none)) else (none)) = some (r1, r2) := H
       have A20 := Aside0.mk A200
       clear A200
       by_cases c21 : 0 ≤ t295
       ·rw [if_pos c21] at H
        have c21b0 : decide (0 ≤ t295) = true := decide_eq_true c21
        clear c21
        by_cases c22 : t295 < (x5_1.length : Int)
        ·rw [if_pos c22] at H
         have c22b0 : decide (t295 < (x5_1.length : Int)) = true := decide_eq_true c22
         clear c22
         replace H := Option.bind_eq_some_iff.mp H
         obtain ⟨⟨t299, t300⟩, A230, H⟩ := H
         replace H : (if t299 = 0 then (if x5_1.length < 3518437208883 then (spec_l71Rows.l0 kj8 (x5_1 ++ [(⟨(rd_T90 x5_1 t295).f0, (rd_T90 x5_1 t295).f1, (⟨t288, t289⟩ : S36), wrap64 (-((rd_T90 x5_1 t295).f3))⟩ : S90)]) (wrap64 (x6_1 - 1)) s0_0 t300) else (none)) else (if x5_1.length < 3518437208883 then (spec_l71Rows.l0 kj8 (x5_1 ++ [(⟨(rd_T90 x5_1 t295).f0, (rd_T90 x5_1 t295).f1, (⟨t288, t289⟩ : S36), t290⟩ : S90)]) (wrap64 (x6_1 - 1)) s0_0 t300) else (none))) = some (r1, r2) := H
         have A23 := Aside0.mk A230
         clear A230
         by_cases c24 : t299 = 0
         ·rw [if_pos c24] at H
          have c24b0 : (t299 == 0) = true := beq_iff_eq.mpr c24
          have c24b1 : (t299 != 0) = false := bne_eq_false_iff_eq.mpr c24
          clear c24
          by_cases c25 : x5_1.length < 3518437208883
          ·rw [if_pos c25] at H
           have LMc25 := Aside0.mk c25
           clear c25
           obtain ⟨y301, hy301⟩ : ∃ y_ : List (S90), y_ = (x5_1 ++ [(⟨(rd_T90 x5_1 t295).f0, (rd_T90 x5_1 t295).f1, (⟨t288, t289⟩ : S36), wrap64 (-((rd_T90 x5_1 t295).f3))⟩ : S90)]) := ⟨_, rfl⟩
           replace H : (spec_l71Rows.l0 kj8 y301 (wrap64 (x6_1 - 1)) s0_0 t300) = some (r1, r2) := by first | (rw [hy301]; with_reducible exact H) | (have H2_ := (Option.bind_some _ _).symm.trans H; rw [hy301]; with_reducible exact H2_) | (have H2_ := (Option.bind_some _ _).symm.trans H; with_reducible exact H2_) | with_reducible exact H | (rw [hy301]; exact H) | exact H
           have Ny301 := Aside0.mk hy301
           clear hy301
           have H' := Aside0.mk H
           clear H
           obtain ⟨Ao26, co26, eo26⟩ := Kd.R_slice HO_5.out
           subst eo26
           go_wp2_with (first | ((with_reducible refine gate_callee (f := 67) rfl ?_); refine goesL_ (some 32) rfl rfl Try.func67 (by kernel_rfl) rfl #[.pointer (some ⟨g, 0, none⟩), .int .i64 (x5_1.length : Int)] rfl (by (try simp only [List.map_toArray, List.map_cons, List.map_nil]); first | done | rfl | (simp only [List.length_drop, List.length_take]; rfl)) ?_; (with_reducible refine (spec_l6Rd_pick.calls kj8 g s0_0 x1001_8 (x5_1.length : Int) t295 t296 w0 _ ?side1 ?side2 A20.out).mono ?_); (case side1 => repeat (first | (with_reducible first | exact HI0.out | apply IsS112.alloc | apply IsS112.drewN | apply IsS112.drew | apply IsS112.set_1 | refine IsS112.far ?_ NB0_292.out _) | exact HI0.out)); (case side2 => repeat (first | (with_reducible first | exact HB.out | apply below_alloc | apply pw_below_drewN | apply below_drew1 | refine below_set ?_ (IsS112.ge HI0.out) | refine below_set ?_ GE292.out) | exact HB.out)); rintro e w27 ⟨rfl, hi, hb, hk⟩; refine ⟨_, rfl, ?_⟩; have n0_ := Aside0.mk (Kd.R_mono (Kd.R_keep (IsS112.apart (show IsS112 w0 _ g s0_0 x1001_8 from by repeat (first | (with_reducible first | exact HI0.out | apply IsS112.alloc | apply IsS112.drewN | apply IsS112.drew | apply IsS112.set_1 | refine IsS112.far ?_ NB0_292.out _) | exact HI0.out)) (by (with_reducible repeat (first | apply Kd.R_alloc | apply Kd.R_drewN | apply Kd.R_drew)); exact HO_5.out) (by decide)) hk (fun _ h => h.2)) (fun _ h => h.1)); have n1_ := Aside0.mk (KeepBut.blk hk (g' := gb292) (o := .cells #[.int .i64 t286, .int .i64 t287, .int .i64 t288, .int .i64 t289, .int .i64 t290] 90 (0, 0)) (by (with_reducible repeat (first | refine blk_drewN ?_ _ | refine blk_drew ?_ | refine blk_alloc ?_ _)); exact BK292.out) NB292_0.out (by simp)); have n2_ := Aside0.mk (KeepBut.trans (by repeat (first | (with_reducible first | exact HK.out | apply KeepBut.set_ | apply keep_drewN | apply keep_drew | apply keep_alloc | refine keep_far ?_ GW292.out _) | exact HK.out)) hk (.inl rfl)); have n3_ := Aside0.mk (hb); have n4_ := Aside0.mk (hi); clear HO_5; clear BK292; clear HK; clear HB; clear HI0; have HO_5 := n0_; have BK292 := n1_; have HK := n2_; have HB := n3_; have HI0 := n4_; clear n0_ n1_ n2_ n3_ n4_; (try clear hb); (try clear hb2); (try clear hk); (try clear hi); have p297 : 0 ≤ (t295 : Int) := of_decide_eq_true (by first | (with_reducible assumption) | assumption); have q297 : t295 < (x5_1.length : Int) := of_decide_eq_true (by first | (with_reducible assumption) | assumption); obtain ⟨ad297, e297, hx297_0, hx297_1, hx297_2, hx297_3, hx297_4⟩ := at_T90 (Kd.R_reads' HO_5.out).2.2 t295 p297 q297; cases e297; replace p297 := eq_true p297; replace q297 := eq_true q297) | ((with_reducible refine gate_dst (N := 8) rfl ?_); refine box_event ?hg (N := 8) ?hd (cs := #[.int .i64 0, .int .i64 0, .int .i64 0, .int .i64 0, .int .i64 0]) (t := 90) ?hr ?_; (case hd => rfl); (case hg => rfl); (case hr => first | (go_simp; done) | (go_simp; rfl)); intro gb298 hg w28 hbox hb; have n0_ := Aside0.mk (Kd.R_below (Kd.R_elderB (by (with_reducible repeat (first | apply Kd.R_alloc | apply Kd.R_drewN | apply Kd.R_drew)); exact HO_5.out) gb298 (Nat.le_of_eq hg.symm)) hb); have n1_ := Aside0.mk (blk_below (g := gb292) (o := .cells #[.int .i64 t286, .int .i64 t287, .int .i64 t288, .int .i64 t289, .int .i64 t290] 90 (0, 0)) (by (with_reducible repeat (first | refine blk_drewN ?_ _ | refine blk_drew ?_ | refine blk_alloc ?_ _)); exact BK292.out) hb); have n2_ := Aside0.mk (IsS112.below (by repeat (first | (with_reducible first | exact HI0.out | apply IsS112.alloc | apply IsS112.drewN | apply IsS112.drew | apply IsS112.set_1 | refine IsS112.far ?_ NB0_292.out _) | exact HI0.out)) hb); have n3_ := Aside0.mk (KeepBut.trans (by repeat (first | (with_reducible first | exact HK.out | apply KeepBut.set_ | apply keep_drewN | apply keep_drew | apply keep_alloc | refine keep_far ?_ GW292.out _) | exact HK.out)) (KeepBut.of_below hb g none) (.inl rfl)); have n4_ := Aside0.mk (below_step (by repeat (first | (with_reducible first | exact HB.out | apply below_alloc | apply pw_below_drewN | apply below_drew1 | refine below_set ?_ (IsS112.ge HI0.out) | refine below_set ?_ GE292.out) | exact HB.out)) hb); have n5_ := Aside0.mk (hbox); have n6_ := Aside0.mk ((by rw [hg]; exact (keep_size (w := w) (g := g) (row := none) (by repeat (first | (with_reducible first | exact HK.out | apply KeepBut.set_ | apply keep_drewN | apply keep_drew | apply keep_alloc | refine keep_far ?_ GW292.out _) | exact HK.out))) : w.heap.size ≤ gb298)); have n7_ := Aside0.mk ((Nat.le_trans HW0.out (by rw [hg]; exact (keep_size (w := w) (g := g) (row := none) (by repeat (first | (with_reducible first | exact HK.out | apply KeepBut.set_ | apply keep_drewN | apply keep_drew | apply keep_alloc | refine keep_far ?_ GW292.out _) | exact HK.out))) : w.heap.size ≤ gb298) : w0.heap.size ≤ gb298)); have n8_ := Aside0.mk ((by rw [hg]; exact Nat.ne_of_lt (blk_lt (g := gb292) (o := .cells #[.int .i64 t286, .int .i64 t287, .int .i64 t288, .int .i64 t289, .int .i64 t290] 90 (0, 0)) (by (with_reducible repeat (first | refine blk_drewN ?_ _ | refine blk_drew ?_ | refine blk_alloc ?_ _)); exact BK292.out)) : gb292 ≠ gb298)); have n9_ := Aside0.mk ((by rw [hg]; exact Nat.ne_of_gt (blk_lt (g := gb292) (o := .cells #[.int .i64 t286, .int .i64 t287, .int .i64 t288, .int .i64 t289, .int .i64 t290] 90 (0, 0)) (by (with_reducible repeat (first | refine blk_drewN ?_ _ | refine blk_drew ?_ | refine blk_alloc ?_ _)); exact BK292.out)) : gb298 ≠ gb292)); have n10_ := Aside0.mk ((by rw [hg]; exact Nat.ne_of_lt (IsS112.lt (show IsS112 w0 _ g s0_0 t296 from by repeat (first | (with_reducible first | exact HI0.out | apply IsS112.alloc | apply IsS112.drewN | apply IsS112.drew | apply IsS112.set_1 | refine IsS112.far ?_ NB0_292.out _) | exact HI0.out))) : g ≠ gb298)); have n11_ := Aside0.mk ((by rw [hg]; exact Nat.ne_of_gt (IsS112.lt (show IsS112 w0 _ g s0_0 t296 from by repeat (first | (with_reducible first | exact HI0.out | apply IsS112.alloc | apply IsS112.drewN | apply IsS112.drew | apply IsS112.set_1 | refine IsS112.far ?_ NB0_292.out _) | exact HI0.out))) : gb298 ≠ g)); clear HO_5; clear BK292; clear HI0; clear HK; clear HB; have HO_5 := n0_; have BK292 := n1_; have HI0 := n2_; have HK := n3_; have HB := n4_; have BK298 := n5_; have GW298 := n6_; have GE298 := n7_; have NB292_298 := n8_; have NB298_292 := n9_; have NB0_298 := n10_; have NB298_0 := n11_; clear n0_ n1_ n2_ n3_ n4_ n5_ n6_ n7_ n8_ n9_ n10_ n11_; clear hb hbox hg; have hnb29 := NB298_292.out; have hnc29 := NB292_298.out; have hnb30 := NB298_0.out; have hnc30 := NB0_298.out; have hcz31_0 : w28.cell? ⟨gb298, 0, none⟩ = some (.int .i64 0) := (blk_cell BK298.out 0).trans rfl; have hcz31_1 : w28.cell? ⟨gb298, 1, none⟩ = some (.int .i64 0) := (blk_cell BK298.out 1).trans rfl; have hcz31_2 : w28.cell? ⟨gb298, 2, none⟩ = some (.int .i64 0) := (blk_cell BK298.out 2).trans rfl; have hcz31_3 : w28.cell? ⟨gb298, 3, none⟩ = some (.int .i64 0) := (blk_cell BK298.out 3).trans rfl; have hcz31_4 : w28.cell? ⟨gb298, 4, none⟩ = some (.int .i64 0) := (blk_cell BK298.out 4).trans rfl; have hfz31_0 := blk_frozen BK298.out 0; have hfz31_1 := blk_frozen BK298.out 1; have hfz31_2 := blk_frozen BK298.out 2; have hfz31_3 := blk_frozen BK298.out 3; have hfz31_4 := blk_frozen BK298.out 4; have hnb32 := NB292_0.out; have hnc32 := NB0_292.out; have hcz33_0 : w28.cell? ⟨gb292, 0, none⟩ = some (.int .i64 t286) := (blk_cell BK292.out 0).trans rfl; have hcz33_1 : w28.cell? ⟨gb292, 1, none⟩ = some (.int .i64 t287) := (blk_cell BK292.out 1).trans rfl; have hcz33_2 : w28.cell? ⟨gb292, 2, none⟩ = some (.int .i64 t288) := (blk_cell BK292.out 2).trans rfl; have hcz33_3 : w28.cell? ⟨gb292, 3, none⟩ = some (.int .i64 t289) := (blk_cell BK292.out 3).trans rfl; have hcz33_4 : w28.cell? ⟨gb292, 4, none⟩ = some (.int .i64 t290) := (blk_cell BK292.out 4).trans rfl; have hfz33_0 := blk_frozen BK292.out 0; have hfz33_1 := blk_frozen BK292.out 1; have hfz33_2 := blk_frozen BK292.out 2; have hfz33_3 := blk_frozen BK292.out 3; have hfz33_4 := blk_frozen BK292.out 4) | ((with_reducible refine gate_callee (f := 67) rfl ?_); refine goesL_ (some 42) rfl rfl Try.func67 (by kernel_rfl) rfl #[.pointer (some ⟨g, 0, none⟩), .int .i64 2] rfl (by (try simp only [List.map_toArray, List.map_cons, List.map_nil]); first | done | rfl | (simp only [List.length_drop, List.length_take]; rfl)) ?_; (with_reducible refine (spec_l6Rd_pick.calls kj8 g s0_0 t296 2 t299 t300 w0 _ ?side1 ?side2 A23.out).mono ?_); (case side1 => repeat (first | (with_reducible first | exact HI0.out | apply IsS112.alloc | apply IsS112.drewN | apply IsS112.drew | apply IsS112.set_1 | refine IsS112.far ?_ NB0_292.out _ | refine IsS112.far ?_ NB0_298.out _) | exact HI0.out)); (case side2 => repeat (first | (with_reducible first | exact HB.out | apply below_alloc | apply pw_below_drewN | apply below_drew1 | refine below_set ?_ (IsS112.ge HI0.out) | refine below_set ?_ GE292.out | refine below_set ?_ GE298.out) | exact HB.out)); rintro e w34 ⟨rfl, hi, hb, hk⟩; refine ⟨_, rfl, ?_⟩; have n0_ := Aside0.mk (Kd.R_mono (Kd.R_keep (IsS112.apart (show IsS112 w0 _ g s0_0 t296 from by repeat (first | (with_reducible first | exact HI0.out | apply IsS112.alloc | apply IsS112.drewN | apply IsS112.drew | apply IsS112.set_1 | refine IsS112.far ?_ NB0_292.out _ | refine IsS112.far ?_ NB0_298.out _) | exact HI0.out)) (by (with_reducible repeat (first | apply Kd.R_alloc | apply Kd.R_drewN | apply Kd.R_drew)); exact (Kd.R_mono (Kd.R_mono (Kd.R_far (p := ⟨gb292, 1, none⟩) (Kd.R_far (p := ⟨gb292, 0, none⟩) (Kd.R_far (p := ⟨gb298, 4, none⟩) (Kd.R_far (p := ⟨gb298, 3, none⟩) (Kd.R_far (p := ⟨gb298, 2, none⟩) (Kd.R_far (p := ⟨gb298, 1, none⟩) (Kd.R_far (p := ⟨gb298, 0, none⟩) (Kd.R_mono (Kd.R_mono HO_5.out (fun k_ hk => (⟨hk, hk.2⟩ : _ ∧ k_ ≠ gb298))) (fun k_ hk => (⟨hk, hk.1.1⟩ : _ ∧ k_ ≠ gb292))) (fun _ hk => hk.1.2) (.int .i64 ((rd_T90 x5_1 t295).f0))) (fun _ hk => hk.1.2) (.int .i64 ((rd_T90 x5_1 t295).f1))) (fun _ hk => hk.1.2) (.int .i64 ((rd_T90 x5_1 t295).f2.f0))) (fun _ hk => hk.1.2) (.int .i64 ((rd_T90 x5_1 t295).f2.f1))) (fun _ hk => hk.1.2) (.int .i64 ((rd_T90 x5_1 t295).f3))) (fun _ hk => hk.2) (.int .i64 ((rd_T90 x5_1 t295).f0))) (fun _ hk => hk.2) (.int .i64 ((rd_T90 x5_1 t295).f1))) (fun _ h_ => h_.1)) (fun _ h_ => h_.1))) (by decide)) hk (fun _ h => h.2)) (fun _ h => h.1)); have n1_ := Aside0.mk (KeepBut.blk hk (g' := gb292) (o := .cells #[.int .i64 ((rd_T90 x5_1 t295).f0), .int .i64 ((rd_T90 x5_1 t295).f1), .int .i64 t288, .int .i64 t289, .int .i64 t290] 90 (0, 0)) (by (with_reducible repeat (first | refine blk_drewN ?_ _ | refine blk_drew ?_ | refine blk_alloc ?_ _)); refine blk_put (cs := #[.int .i64 ((rd_T90 x5_1 t295).f0), .int .i64 t287, .int .i64 t288, .int .i64 t289, .int .i64 t290]) ?_ 1 _ rfl; (with_reducible repeat (first | refine blk_drewN ?_ _ | refine blk_drew ?_ | refine blk_alloc ?_ _)); refine blk_put (cs := #[.int .i64 t286, .int .i64 t287, .int .i64 t288, .int .i64 t289, .int .i64 t290]) ?_ 0 _ rfl; (with_reducible repeat (first | refine blk_drewN ?_ _ | refine blk_drew ?_ | refine blk_alloc ?_ _)); refine blk_far ?_ NB292_298.out _; (with_reducible repeat (first | refine blk_drewN ?_ _ | refine blk_drew ?_ | refine blk_alloc ?_ _)); refine blk_far ?_ NB292_298.out _; (with_reducible repeat (first | refine blk_drewN ?_ _ | refine blk_drew ?_ | refine blk_alloc ?_ _)); refine blk_far ?_ NB292_298.out _; (with_reducible repeat (first | refine blk_drewN ?_ _ | refine blk_drew ?_ | refine blk_alloc ?_ _)); refine blk_far ?_ NB292_298.out _; (with_reducible repeat (first | refine blk_drewN ?_ _ | refine blk_drew ?_ | refine blk_alloc ?_ _)); refine blk_far ?_ NB292_298.out _; (with_reducible repeat (first | refine blk_drewN ?_ _ | refine blk_drew ?_ | refine blk_alloc ?_ _)); exact BK292.out) NB292_0.out (by simp)); have n2_ := Aside0.mk (KeepBut.blk hk (g' := gb298) (o := .cells #[.int .i64 ((rd_T90 x5_1 t295).f0), .int .i64 ((rd_T90 x5_1 t295).f1), .int .i64 ((rd_T90 x5_1 t295).f2.f0), .int .i64 ((rd_T90 x5_1 t295).f2.f1), .int .i64 ((rd_T90 x5_1 t295).f3)] 90 (0, 0)) (by (with_reducible repeat (first | refine blk_drewN ?_ _ | refine blk_drew ?_ | refine blk_alloc ?_ _)); refine blk_far ?_ NB298_292.out _; (with_reducible repeat (first | refine blk_drewN ?_ _ | refine blk_drew ?_ | refine blk_alloc ?_ _)); refine blk_far ?_ NB298_292.out _; (with_reducible repeat (first | refine blk_drewN ?_ _ | refine blk_drew ?_ | refine blk_alloc ?_ _)); refine blk_put (cs := #[.int .i64 ((rd_T90 x5_1 t295).f0), .int .i64 ((rd_T90 x5_1 t295).f1), .int .i64 ((rd_T90 x5_1 t295).f2.f0), .int .i64 ((rd_T90 x5_1 t295).f2.f1), .int .i64 0]) ?_ 4 _ rfl; (with_reducible repeat (first | refine blk_drewN ?_ _ | refine blk_drew ?_ | refine blk_alloc ?_ _)); refine blk_put (cs := #[.int .i64 ((rd_T90 x5_1 t295).f0), .int .i64 ((rd_T90 x5_1 t295).f1), .int .i64 ((rd_T90 x5_1 t295).f2.f0), .int .i64 0, .int .i64 0]) ?_ 3 _ rfl; (with_reducible repeat (first | refine blk_drewN ?_ _ | refine blk_drew ?_ | refine blk_alloc ?_ _)); refine blk_put (cs := #[.int .i64 ((rd_T90 x5_1 t295).f0), .int .i64 ((rd_T90 x5_1 t295).f1), .int .i64 0, .int .i64 0, .int .i64 0]) ?_ 2 _ rfl; (with_reducible repeat (first | refine blk_drewN ?_ _ | refine blk_drew ?_ | refine blk_alloc ?_ _)); refine blk_put (cs := #[.int .i64 ((rd_T90 x5_1 t295).f0), .int .i64 0, .int .i64 0, .int .i64 0, .int .i64 0]) ?_ 1 _ rfl; (with_reducible repeat (first | refine blk_drewN ?_ _ | refine blk_drew ?_ | refine blk_alloc ?_ _)); refine blk_put (cs := #[.int .i64 0, .int .i64 0, .int .i64 0, .int .i64 0, .int .i64 0]) ?_ 0 _ rfl; (with_reducible repeat (first | refine blk_drewN ?_ _ | refine blk_drew ?_ | refine blk_alloc ?_ _)); exact BK298.out) NB298_0.out (by simp)); have n3_ := Aside0.mk (KeepBut.trans (by repeat (first | (with_reducible first | exact HK.out | apply KeepBut.set_ | apply keep_drewN | apply keep_drew | apply keep_alloc | refine keep_far ?_ GW292.out _ | refine keep_far ?_ GW298.out _) | exact HK.out)) hk (.inl rfl)); have n4_ := Aside0.mk (hb); have n5_ := Aside0.mk (hi); clear HO_5; clear BK292; clear BK298; clear HK; clear HB; clear HI0; have HO_5 := n0_; have BK292 := n1_; have BK298 := n2_; have HK := n3_; have HB := n4_; have HI0 := n5_; clear n0_ n1_ n2_ n3_ n4_ n5_; (try clear hb); (try clear hb2); (try clear hk); (try clear hi); have hcz35_0 : w34.cell? ⟨gb298, 0, none⟩ = some (.int .i64 ((rd_T90 x5_1 t295).f0)) := (blk_cell BK298.out 0).trans rfl; have hcz35_1 : w34.cell? ⟨gb298, 1, none⟩ = some (.int .i64 ((rd_T90 x5_1 t295).f1)) := (blk_cell BK298.out 1).trans rfl; have hcz35_2 : w34.cell? ⟨gb298, 2, none⟩ = some (.int .i64 ((rd_T90 x5_1 t295).f2.f0)) := (blk_cell BK298.out 2).trans rfl; have hcz35_3 : w34.cell? ⟨gb298, 3, none⟩ = some (.int .i64 ((rd_T90 x5_1 t295).f2.f1)) := (blk_cell BK298.out 3).trans rfl; have hcz35_4 : w34.cell? ⟨gb298, 4, none⟩ = some (.int .i64 ((rd_T90 x5_1 t295).f3)) := (blk_cell BK298.out 4).trans rfl; have hfz35_0 := blk_frozen BK298.out 0; have hfz35_1 := blk_frozen BK298.out 1; have hfz35_2 := blk_frozen BK298.out 2; have hfz35_3 := blk_frozen BK298.out 3; have hfz35_4 := blk_frozen BK298.out 4; have hcz36_0 : w34.cell? ⟨gb292, 0, none⟩ = some (.int .i64 ((rd_T90 x5_1 t295).f0)) := (blk_cell BK292.out 0).trans rfl; have hcz36_1 : w34.cell? ⟨gb292, 1, none⟩ = some (.int .i64 ((rd_T90 x5_1 t295).f1)) := (blk_cell BK292.out 1).trans rfl; have hcz36_2 : w34.cell? ⟨gb292, 2, none⟩ = some (.int .i64 t288) := (blk_cell BK292.out 2).trans rfl; have hcz36_3 : w34.cell? ⟨gb292, 3, none⟩ = some (.int .i64 t289) := (blk_cell BK292.out 3).trans rfl; have hcz36_4 : w34.cell? ⟨gb292, 4, none⟩ = some (.int .i64 t290) := (blk_cell BK292.out 4).trans rfl; have hfz36_0 := blk_frozen BK292.out 0; have hfz36_1 := blk_frozen BK292.out 1; have hfz36_2 := blk_frozen BK292.out 2; have hfz36_3 := blk_frozen BK292.out 3; have hfz36_4 := blk_frozen BK292.out 4) | ((with_reducible refine gate_builtin (b := .append) (xs := #[.tmp 48, .tmp 50]) rfl ?_); at_builtin; refine Kd.R_append k90 w.heap.size rfl (.tmp 48) (.tmp 50) 59 90 (.agg #[(.int .i64 0), (.int .i64 0), (.int .i64 0), (.int .i64 0), (.int .i64 0)]) 40 rfl Try.underlying59 info90 rfl (by decide) (by omega) (.slice (some ad297) x5_1.length co26) x5_1 (⟨(rd_T90 x5_1 t295).f0, (rd_T90 x5_1 t295).f1, (⟨t288, t289⟩ : S36), wrap64 (-((rd_T90 x5_1 t295).f3))⟩ : S90) [.int .i64 ((rd_T90 x5_1 t295).f0), .int .i64 ((rd_T90 x5_1 t295).f1), .int .i64 t288, .int .i64 t289, .int .i64 (wrap64 (-((rd_T90 x5_1 t295).f3)))] (fun k_ => k_ ≠ gb292 ∧ k_ ≠ gb298) (fun _ => False) rfl (by first | (go_simp; done) | (go_simp; rfl)) ?aP (fun _ hk => hk.elim) ?aF ?aO (Below.refl _ _) ?aS ?aL ?_; (case aP => exact k90_mkM _ _ _ (⟨(rd_T90 x5_1 t295).f0, (rd_T90 x5_1 t295).f1, (⟨t288, t289⟩ : S36), wrap64 (-((rd_T90 x5_1 t295).f3))⟩ : S90)); (case aF => exact (fun k_ hk => ⟨Kd.freshB (g := gb292) (o := .cells #[.int .i64 ((rd_T90 x5_1 t295).f0), .int .i64 ((rd_T90 x5_1 t295).f1), .int .i64 t288, .int .i64 t289, .int .i64 (wrap64 (-((rd_T90 x5_1 t295).f3)))] 90 (0, 0)) (by (with_reducible repeat (first | refine blk_drewN ?_ _ | refine blk_drew ?_ | refine blk_alloc ?_ _)); refine blk_put (cs := #[.int .i64 ((rd_T90 x5_1 t295).f0), .int .i64 ((rd_T90 x5_1 t295).f1), .int .i64 t288, .int .i64 t289, .int .i64 t290]) ?_ 4 _ rfl; (with_reducible repeat (first | refine blk_drewN ?_ _ | refine blk_drew ?_ | refine blk_alloc ?_ _)); exact BK292.out) k_ hk, Kd.freshB (g := gb298) (o := .cells #[.int .i64 ((rd_T90 x5_1 t295).f0), .int .i64 ((rd_T90 x5_1 t295).f1), .int .i64 ((rd_T90 x5_1 t295).f2.f0), .int .i64 ((rd_T90 x5_1 t295).f2.f1), .int .i64 ((rd_T90 x5_1 t295).f3)] 90 (0, 0)) (by (with_reducible repeat (first | refine blk_drewN ?_ _ | refine blk_drew ?_ | refine blk_alloc ?_ _)); refine blk_far ?_ NB298_292.out _; (with_reducible repeat (first | refine blk_drewN ?_ _ | refine blk_drew ?_ | refine blk_alloc ?_ _)); exact BK298.out) k_ hk⟩)); (case aO => exact (by (with_reducible repeat (first | apply Kd.R_alloc | apply Kd.R_drewN | apply Kd.R_drew)); exact Kd.R_mono (Kd.R_far (p := ⟨gb292, 4, none⟩) (Kd.R_mono HO_5.out (fun k_ hk => (⟨hk, hk.1⟩ : _ ∧ k_ ≠ gb292))) (fun _ hk => hk.2) (.int .i64 (wrap64 (-((rd_T90 x5_1 t295).f3))))) (fun _ hk => ⟨hk.1.1, hk.1.2⟩))); (case aS => exact (keep_size (w := w) (g := g) (row := none) (by repeat (first | (with_reducible first | exact HK.out | apply KeepBut.set_ | apply keep_drewN | apply keep_drew | apply keep_alloc | refine keep_far ?_ GW292.out _ | refine keep_far ?_ GW298.out _) | exact HK.out)))); (case aL => have := LMc25.out; omega); intro v302 w37 ho hb hg hat; rw [← Ny301.out] at ho; have n0_ := Aside0.mk (blk_grown (g := gb292) (o := .cells #[.int .i64 ((rd_T90 x5_1 t295).f0), .int .i64 ((rd_T90 x5_1 t295).f1), .int .i64 t288, .int .i64 t289, .int .i64 (wrap64 (-((rd_T90 x5_1 t295).f3)))] 90 (0, 0)) (by (with_reducible repeat (first | refine blk_drewN ?_ _ | refine blk_drew ?_ | refine blk_alloc ?_ _)); refine blk_put (cs := #[.int .i64 ((rd_T90 x5_1 t295).f0), .int .i64 ((rd_T90 x5_1 t295).f1), .int .i64 t288, .int .i64 t289, .int .i64 t290]) ?_ 4 _ rfl; (with_reducible repeat (first | refine blk_drewN ?_ _ | refine blk_drew ?_ | refine blk_alloc ?_ _)); exact BK292.out) hg (Kd.R_away HO_5.out (fun _ hk => hk.1))); have n1_ := Aside0.mk (IsS112.grown (show IsS112 w0 _ g s0_0 t300 from by repeat (first | (with_reducible first | exact HI0.out | apply IsS112.alloc | apply IsS112.drewN | apply IsS112.drew | apply IsS112.set_1 | refine IsS112.far ?_ NB0_292.out _ | refine IsS112.far ?_ NB0_298.out _) | exact HI0.out)) hg (IsS112.own_ne HI0.out HO_5.out (by decide))); have n2_ := Aside0.mk (blk_grown (g := gb298) (o := .cells #[.int .i64 ((rd_T90 x5_1 t295).f0), .int .i64 ((rd_T90 x5_1 t295).f1), .int .i64 ((rd_T90 x5_1 t295).f2.f0), .int .i64 ((rd_T90 x5_1 t295).f2.f1), .int .i64 ((rd_T90 x5_1 t295).f3)] 90 (0, 0)) (by (with_reducible repeat (first | refine blk_drewN ?_ _ | refine blk_drew ?_ | refine blk_alloc ?_ _)); refine blk_far ?_ NB298_292.out _; (with_reducible repeat (first | refine blk_drewN ?_ _ | refine blk_drew ?_ | refine blk_alloc ?_ _)); exact BK298.out) hg (Kd.R_away HO_5.out (fun _ hk => hk.2))); have n3_ := Aside0.mk (below_weaken (by repeat (first | (with_reducible first | exact HB.out | apply below_alloc | apply pw_below_drewN | apply below_drew1 | refine below_set ?_ (IsS112.ge HI0.out) | refine below_set ?_ GE292.out | refine below_set ?_ GE298.out) | exact HB.out)) HL.out hb); have n4_ := Aside0.mk (KeepBut.trans (by repeat (first | (with_reducible first | exact HK.out | apply KeepBut.set_ | apply keep_drewN | apply keep_drew | apply keep_alloc | refine keep_far ?_ GW292.out _ | refine keep_far ?_ GW298.out _) | exact HK.out)) (KeepBut.of_grown hg g) (Kd.R_base2 HO_5.out)); have n5_ := Aside0.mk (ho); clear BK292; clear HI0; clear BK298; clear HB; clear HK; clear HO_5; have BK292 := n0_; have HI0 := n1_; have BK298 := n2_; have HB := n3_; have HK := n4_; have HO303 := n5_; clear n0_ n1_ n2_ n3_ n4_ n5_; clear ho hb hg hat))
           go_roundg kj8
           case measure => have := HK1.out; have := HJ8.out; omega
           case rel => exact ⟨(y301), (wrap64 (x6_1 - 1)), (t300), (by first | rfl | (simp; done) | (simp [*]; done)), H', ⟨by have := HK1.out; have := HJ8.out; omega⟩, ⟨by (with_reducible repeat (first | apply Kd.R_alloc | apply Kd.R_drewN | apply Kd.R_drew)); exact Kd.R_mono HO303.out (fun _ hk => trivial)⟩, ⟨by repeat (first | (with_reducible first | exact HI0.out | apply IsS112.alloc | apply IsS112.drewN | apply IsS112.drew | apply IsS112.set_1 | refine IsS112.far ?_ NB0_292.out _ | refine IsS112.far ?_ NB0_298.out _) | exact HI0.out)⟩, ⟨by repeat (first | (with_reducible first | exact HK.out | apply KeepBut.set_ | apply keep_drewN | apply keep_drew | apply keep_alloc | refine keep_far ?_ GW292.out _ | refine keep_far ?_ GW298.out _) | exact HK.out)⟩, ⟨by repeat (first | (with_reducible first | exact HB.out | apply below_alloc | apply pw_below_drewN | apply below_drew1 | refine below_set ?_ (IsS112.ge HI0.out) | refine below_set ?_ GE292.out | refine below_set ?_ GE298.out) | exact HB.out)⟩⟩
          ·rw [if_neg c25] at H
           exact absurd H (by simp)
         ·rw [if_neg c24] at H
          have c24b0 : (t299 == 0) = false := beq_eq_false_iff_ne.mpr c24
          have c24b1 : (t299 != 0) = true := bne_iff_ne.mpr c24
          by_cases c38 : x5_1.length < 3518437208883
          ·rw [if_pos c38] at H
           have LMc38 := Aside0.mk c38
           clear c38
           obtain ⟨y304, hy304⟩ : ∃ y_ : List (S90), y_ = (x5_1 ++ [(⟨(rd_T90 x5_1 t295).f0, (rd_T90 x5_1 t295).f1, (⟨t288, t289⟩ : S36), t290⟩ : S90)]) := ⟨_, rfl⟩
           replace H : (spec_l71Rows.l0 kj8 y304 (wrap64 (x6_1 - 1)) s0_0 t300) = some (r1, r2) := by first | (rw [hy304]; with_reducible exact H) | (have H2_ := (Option.bind_some _ _).symm.trans H; rw [hy304]; with_reducible exact H2_) | (have H2_ := (Option.bind_some _ _).symm.trans H; with_reducible exact H2_) | with_reducible exact H | (rw [hy304]; exact H) | exact H
           have Ny304 := Aside0.mk hy304
           clear hy304
           have H' := Aside0.mk H
           clear H
           obtain ⟨Ao39, co39, eo39⟩ := Kd.R_slice HO_5.out
           subst eo39
           go_wp2_with (first | ((with_reducible refine gate_callee (f := 67) rfl ?_); refine goesL_ (some 32) rfl rfl Try.func67 (by kernel_rfl) rfl #[.pointer (some ⟨g, 0, none⟩), .int .i64 (x5_1.length : Int)] rfl (by (try simp only [List.map_toArray, List.map_cons, List.map_nil]); first | done | rfl | (simp only [List.length_drop, List.length_take]; rfl)) ?_; (with_reducible refine (spec_l6Rd_pick.calls kj8 g s0_0 x1001_8 (x5_1.length : Int) t295 t296 w0 _ ?side1 ?side2 A20.out).mono ?_); (case side1 => repeat (first | (with_reducible first | exact HI0.out | apply IsS112.alloc | apply IsS112.drewN | apply IsS112.drew | apply IsS112.set_1 | refine IsS112.far ?_ NB0_292.out _) | exact HI0.out)); (case side2 => repeat (first | (with_reducible first | exact HB.out | apply below_alloc | apply pw_below_drewN | apply below_drew1 | refine below_set ?_ (IsS112.ge HI0.out) | refine below_set ?_ GE292.out) | exact HB.out)); rintro e w40 ⟨rfl, hi, hb, hk⟩; refine ⟨_, rfl, ?_⟩; have n0_ := Aside0.mk (Kd.R_mono (Kd.R_keep (IsS112.apart (show IsS112 w0 _ g s0_0 x1001_8 from by repeat (first | (with_reducible first | exact HI0.out | apply IsS112.alloc | apply IsS112.drewN | apply IsS112.drew | apply IsS112.set_1 | refine IsS112.far ?_ NB0_292.out _) | exact HI0.out)) (by (with_reducible repeat (first | apply Kd.R_alloc | apply Kd.R_drewN | apply Kd.R_drew)); exact HO_5.out) (by decide)) hk (fun _ h => h.2)) (fun _ h => h.1)); have n1_ := Aside0.mk (KeepBut.blk hk (g' := gb292) (o := .cells #[.int .i64 t286, .int .i64 t287, .int .i64 t288, .int .i64 t289, .int .i64 t290] 90 (0, 0)) (by (with_reducible repeat (first | refine blk_drewN ?_ _ | refine blk_drew ?_ | refine blk_alloc ?_ _)); exact BK292.out) NB292_0.out (by simp)); have n2_ := Aside0.mk (KeepBut.trans (by repeat (first | (with_reducible first | exact HK.out | apply KeepBut.set_ | apply keep_drewN | apply keep_drew | apply keep_alloc | refine keep_far ?_ GW292.out _) | exact HK.out)) hk (.inl rfl)); have n3_ := Aside0.mk (hb); have n4_ := Aside0.mk (hi); clear HO_5; clear BK292; clear HK; clear HB; clear HI0; have HO_5 := n0_; have BK292 := n1_; have HK := n2_; have HB := n3_; have HI0 := n4_; clear n0_ n1_ n2_ n3_ n4_; (try clear hb); (try clear hb2); (try clear hk); (try clear hi); have p297 : 0 ≤ (t295 : Int) := of_decide_eq_true (by first | (with_reducible assumption) | assumption); have q297 : t295 < (x5_1.length : Int) := of_decide_eq_true (by first | (with_reducible assumption) | assumption); obtain ⟨ad297, e297, hx297_0, hx297_1, hx297_2, hx297_3, hx297_4⟩ := at_T90 (Kd.R_reads' HO_5.out).2.2 t295 p297 q297; cases e297; replace p297 := eq_true p297; replace q297 := eq_true q297) | ((with_reducible refine gate_dst (N := 8) rfl ?_); refine box_event ?hg (N := 8) ?hd (cs := #[.int .i64 0, .int .i64 0, .int .i64 0, .int .i64 0, .int .i64 0]) (t := 90) ?hr ?_; (case hd => rfl); (case hg => rfl); (case hr => first | (go_simp; done) | (go_simp; rfl)); intro gb298 hg w41 hbox hb; have n0_ := Aside0.mk (Kd.R_below (Kd.R_elderB (by (with_reducible repeat (first | apply Kd.R_alloc | apply Kd.R_drewN | apply Kd.R_drew)); exact HO_5.out) gb298 (Nat.le_of_eq hg.symm)) hb); have n1_ := Aside0.mk (blk_below (g := gb292) (o := .cells #[.int .i64 t286, .int .i64 t287, .int .i64 t288, .int .i64 t289, .int .i64 t290] 90 (0, 0)) (by (with_reducible repeat (first | refine blk_drewN ?_ _ | refine blk_drew ?_ | refine blk_alloc ?_ _)); exact BK292.out) hb); have n2_ := Aside0.mk (IsS112.below (by repeat (first | (with_reducible first | exact HI0.out | apply IsS112.alloc | apply IsS112.drewN | apply IsS112.drew | apply IsS112.set_1 | refine IsS112.far ?_ NB0_292.out _) | exact HI0.out)) hb); have n3_ := Aside0.mk (KeepBut.trans (by repeat (first | (with_reducible first | exact HK.out | apply KeepBut.set_ | apply keep_drewN | apply keep_drew | apply keep_alloc | refine keep_far ?_ GW292.out _) | exact HK.out)) (KeepBut.of_below hb g none) (.inl rfl)); have n4_ := Aside0.mk (below_step (by repeat (first | (with_reducible first | exact HB.out | apply below_alloc | apply pw_below_drewN | apply below_drew1 | refine below_set ?_ (IsS112.ge HI0.out) | refine below_set ?_ GE292.out) | exact HB.out)) hb); have n5_ := Aside0.mk (hbox); have n6_ := Aside0.mk ((by rw [hg]; exact (keep_size (w := w) (g := g) (row := none) (by repeat (first | (with_reducible first | exact HK.out | apply KeepBut.set_ | apply keep_drewN | apply keep_drew | apply keep_alloc | refine keep_far ?_ GW292.out _) | exact HK.out))) : w.heap.size ≤ gb298)); have n7_ := Aside0.mk ((Nat.le_trans HW0.out (by rw [hg]; exact (keep_size (w := w) (g := g) (row := none) (by repeat (first | (with_reducible first | exact HK.out | apply KeepBut.set_ | apply keep_drewN | apply keep_drew | apply keep_alloc | refine keep_far ?_ GW292.out _) | exact HK.out))) : w.heap.size ≤ gb298) : w0.heap.size ≤ gb298)); have n8_ := Aside0.mk ((by rw [hg]; exact Nat.ne_of_lt (blk_lt (g := gb292) (o := .cells #[.int .i64 t286, .int .i64 t287, .int .i64 t288, .int .i64 t289, .int .i64 t290] 90 (0, 0)) (by (with_reducible repeat (first | refine blk_drewN ?_ _ | refine blk_drew ?_ | refine blk_alloc ?_ _)); exact BK292.out)) : gb292 ≠ gb298)); have n9_ := Aside0.mk ((by rw [hg]; exact Nat.ne_of_gt (blk_lt (g := gb292) (o := .cells #[.int .i64 t286, .int .i64 t287, .int .i64 t288, .int .i64 t289, .int .i64 t290] 90 (0, 0)) (by (with_reducible repeat (first | refine blk_drewN ?_ _ | refine blk_drew ?_ | refine blk_alloc ?_ _)); exact BK292.out)) : gb298 ≠ gb292)); have n10_ := Aside0.mk ((by rw [hg]; exact Nat.ne_of_lt (IsS112.lt (show IsS112 w0 _ g s0_0 t296 from by repeat (first | (with_reducible first | exact HI0.out | apply IsS112.alloc | apply IsS112.drewN | apply IsS112.drew | apply IsS112.set_1 | refine IsS112.far ?_ NB0_292.out _) | exact HI0.out))) : g ≠ gb298)); have n11_ := Aside0.mk ((by rw [hg]; exact Nat.ne_of_gt (IsS112.lt (show IsS112 w0 _ g s0_0 t296 from by repeat (first | (with_reducible first | exact HI0.out | apply IsS112.alloc | apply IsS112.drewN | apply IsS112.drew | apply IsS112.set_1 | refine IsS112.far ?_ NB0_292.out _) | exact HI0.out))) : gb298 ≠ g)); clear HO_5; clear BK292; clear HI0; clear HK; clear HB; have HO_5 := n0_; have BK292 := n1_; have HI0 := n2_; have HK := n3_; have HB := n4_; have BK298 := n5_; have GW298 := n6_; have GE298 := n7_; have NB292_298 := n8_; have NB298_292 := n9_; have NB0_298 := n10_; have NB298_0 := n11_; clear n0_ n1_ n2_ n3_ n4_ n5_ n6_ n7_ n8_ n9_ n10_ n11_; clear hb hbox hg; have hnb42 := NB298_292.out; have hnc42 := NB292_298.out; have hnb43 := NB298_0.out; have hnc43 := NB0_298.out; have hcz44_0 : w41.cell? ⟨gb298, 0, none⟩ = some (.int .i64 0) := (blk_cell BK298.out 0).trans rfl; have hcz44_1 : w41.cell? ⟨gb298, 1, none⟩ = some (.int .i64 0) := (blk_cell BK298.out 1).trans rfl; have hcz44_2 : w41.cell? ⟨gb298, 2, none⟩ = some (.int .i64 0) := (blk_cell BK298.out 2).trans rfl; have hcz44_3 : w41.cell? ⟨gb298, 3, none⟩ = some (.int .i64 0) := (blk_cell BK298.out 3).trans rfl; have hcz44_4 : w41.cell? ⟨gb298, 4, none⟩ = some (.int .i64 0) := (blk_cell BK298.out 4).trans rfl; have hfz44_0 := blk_frozen BK298.out 0; have hfz44_1 := blk_frozen BK298.out 1; have hfz44_2 := blk_frozen BK298.out 2; have hfz44_3 := blk_frozen BK298.out 3; have hfz44_4 := blk_frozen BK298.out 4; have hnb45 := NB292_0.out; have hnc45 := NB0_292.out; have hcz46_0 : w41.cell? ⟨gb292, 0, none⟩ = some (.int .i64 t286) := (blk_cell BK292.out 0).trans rfl; have hcz46_1 : w41.cell? ⟨gb292, 1, none⟩ = some (.int .i64 t287) := (blk_cell BK292.out 1).trans rfl; have hcz46_2 : w41.cell? ⟨gb292, 2, none⟩ = some (.int .i64 t288) := (blk_cell BK292.out 2).trans rfl; have hcz46_3 : w41.cell? ⟨gb292, 3, none⟩ = some (.int .i64 t289) := (blk_cell BK292.out 3).trans rfl; have hcz46_4 : w41.cell? ⟨gb292, 4, none⟩ = some (.int .i64 t290) := (blk_cell BK292.out 4).trans rfl; have hfz46_0 := blk_frozen BK292.out 0; have hfz46_1 := blk_frozen BK292.out 1; have hfz46_2 := blk_frozen BK292.out 2; have hfz46_3 := blk_frozen BK292.out 3; have hfz46_4 := blk_frozen BK292.out 4) | ((with_reducible refine gate_callee (f := 67) rfl ?_); refine goesL_ (some 42) rfl rfl Try.func67 (by kernel_rfl) rfl #[.pointer (some ⟨g, 0, none⟩), .int .i64 2] rfl (by (try simp only [List.map_toArray, List.map_cons, List.map_nil]); first | done | rfl | (simp only [List.length_drop, List.length_take]; rfl)) ?_; (with_reducible refine (spec_l6Rd_pick.calls kj8 g s0_0 t296 2 t299 t300 w0 _ ?side1 ?side2 A23.out).mono ?_); (case side1 => repeat (first | (with_reducible first | exact HI0.out | apply IsS112.alloc | apply IsS112.drewN | apply IsS112.drew | apply IsS112.set_1 | refine IsS112.far ?_ NB0_292.out _ | refine IsS112.far ?_ NB0_298.out _) | exact HI0.out)); (case side2 => repeat (first | (with_reducible first | exact HB.out | apply below_alloc | apply pw_below_drewN | apply below_drew1 | refine below_set ?_ (IsS112.ge HI0.out) | refine below_set ?_ GE292.out | refine below_set ?_ GE298.out) | exact HB.out)); rintro e w47 ⟨rfl, hi, hb, hk⟩; refine ⟨_, rfl, ?_⟩; have n0_ := Aside0.mk (Kd.R_mono (Kd.R_keep (IsS112.apart (show IsS112 w0 _ g s0_0 t296 from by repeat (first | (with_reducible first | exact HI0.out | apply IsS112.alloc | apply IsS112.drewN | apply IsS112.drew | apply IsS112.set_1 | refine IsS112.far ?_ NB0_292.out _ | refine IsS112.far ?_ NB0_298.out _) | exact HI0.out)) (by (with_reducible repeat (first | apply Kd.R_alloc | apply Kd.R_drewN | apply Kd.R_drew)); exact (Kd.R_mono (Kd.R_mono (Kd.R_far (p := ⟨gb292, 1, none⟩) (Kd.R_far (p := ⟨gb292, 0, none⟩) (Kd.R_far (p := ⟨gb298, 4, none⟩) (Kd.R_far (p := ⟨gb298, 3, none⟩) (Kd.R_far (p := ⟨gb298, 2, none⟩) (Kd.R_far (p := ⟨gb298, 1, none⟩) (Kd.R_far (p := ⟨gb298, 0, none⟩) (Kd.R_mono (Kd.R_mono HO_5.out (fun k_ hk => (⟨hk, hk.2⟩ : _ ∧ k_ ≠ gb298))) (fun k_ hk => (⟨hk, hk.1.1⟩ : _ ∧ k_ ≠ gb292))) (fun _ hk => hk.1.2) (.int .i64 ((rd_T90 x5_1 t295).f0))) (fun _ hk => hk.1.2) (.int .i64 ((rd_T90 x5_1 t295).f1))) (fun _ hk => hk.1.2) (.int .i64 ((rd_T90 x5_1 t295).f2.f0))) (fun _ hk => hk.1.2) (.int .i64 ((rd_T90 x5_1 t295).f2.f1))) (fun _ hk => hk.1.2) (.int .i64 ((rd_T90 x5_1 t295).f3))) (fun _ hk => hk.2) (.int .i64 ((rd_T90 x5_1 t295).f0))) (fun _ hk => hk.2) (.int .i64 ((rd_T90 x5_1 t295).f1))) (fun _ h_ => h_.1)) (fun _ h_ => h_.1))) (by decide)) hk (fun _ h => h.2)) (fun _ h => h.1)); have n1_ := Aside0.mk (KeepBut.blk hk (g' := gb292) (o := .cells #[.int .i64 ((rd_T90 x5_1 t295).f0), .int .i64 ((rd_T90 x5_1 t295).f1), .int .i64 t288, .int .i64 t289, .int .i64 t290] 90 (0, 0)) (by (with_reducible repeat (first | refine blk_drewN ?_ _ | refine blk_drew ?_ | refine blk_alloc ?_ _)); refine blk_put (cs := #[.int .i64 ((rd_T90 x5_1 t295).f0), .int .i64 t287, .int .i64 t288, .int .i64 t289, .int .i64 t290]) ?_ 1 _ rfl; (with_reducible repeat (first | refine blk_drewN ?_ _ | refine blk_drew ?_ | refine blk_alloc ?_ _)); refine blk_put (cs := #[.int .i64 t286, .int .i64 t287, .int .i64 t288, .int .i64 t289, .int .i64 t290]) ?_ 0 _ rfl; (with_reducible repeat (first | refine blk_drewN ?_ _ | refine blk_drew ?_ | refine blk_alloc ?_ _)); refine blk_far ?_ NB292_298.out _; (with_reducible repeat (first | refine blk_drewN ?_ _ | refine blk_drew ?_ | refine blk_alloc ?_ _)); refine blk_far ?_ NB292_298.out _; (with_reducible repeat (first | refine blk_drewN ?_ _ | refine blk_drew ?_ | refine blk_alloc ?_ _)); refine blk_far ?_ NB292_298.out _; (with_reducible repeat (first | refine blk_drewN ?_ _ | refine blk_drew ?_ | refine blk_alloc ?_ _)); refine blk_far ?_ NB292_298.out _; (with_reducible repeat (first | refine blk_drewN ?_ _ | refine blk_drew ?_ | refine blk_alloc ?_ _)); refine blk_far ?_ NB292_298.out _; (with_reducible repeat (first | refine blk_drewN ?_ _ | refine blk_drew ?_ | refine blk_alloc ?_ _)); exact BK292.out) NB292_0.out (by simp)); have n2_ := Aside0.mk (KeepBut.blk hk (g' := gb298) (o := .cells #[.int .i64 ((rd_T90 x5_1 t295).f0), .int .i64 ((rd_T90 x5_1 t295).f1), .int .i64 ((rd_T90 x5_1 t295).f2.f0), .int .i64 ((rd_T90 x5_1 t295).f2.f1), .int .i64 ((rd_T90 x5_1 t295).f3)] 90 (0, 0)) (by (with_reducible repeat (first | refine blk_drewN ?_ _ | refine blk_drew ?_ | refine blk_alloc ?_ _)); refine blk_far ?_ NB298_292.out _; (with_reducible repeat (first | refine blk_drewN ?_ _ | refine blk_drew ?_ | refine blk_alloc ?_ _)); refine blk_far ?_ NB298_292.out _; (with_reducible repeat (first | refine blk_drewN ?_ _ | refine blk_drew ?_ | refine blk_alloc ?_ _)); refine blk_put (cs := #[.int .i64 ((rd_T90 x5_1 t295).f0), .int .i64 ((rd_T90 x5_1 t295).f1), .int .i64 ((rd_T90 x5_1 t295).f2.f0), .int .i64 ((rd_T90 x5_1 t295).f2.f1), .int .i64 0]) ?_ 4 _ rfl; (with_reducible repeat (first | refine blk_drewN ?_ _ | refine blk_drew ?_ | refine blk_alloc ?_ _)); refine blk_put (cs := #[.int .i64 ((rd_T90 x5_1 t295).f0), .int .i64 ((rd_T90 x5_1 t295).f1), .int .i64 ((rd_T90 x5_1 t295).f2.f0), .int .i64 0, .int .i64 0]) ?_ 3 _ rfl; (with_reducible repeat (first | refine blk_drewN ?_ _ | refine blk_drew ?_ | refine blk_alloc ?_ _)); refine blk_put (cs := #[.int .i64 ((rd_T90 x5_1 t295).f0), .int .i64 ((rd_T90 x5_1 t295).f1), .int .i64 0, .int .i64 0, .int .i64 0]) ?_ 2 _ rfl; (with_reducible repeat (first | refine blk_drewN ?_ _ | refine blk_drew ?_ | refine blk_alloc ?_ _)); refine blk_put (cs := #[.int .i64 ((rd_T90 x5_1 t295).f0), .int .i64 0, .int .i64 0, .int .i64 0, .int .i64 0]) ?_ 1 _ rfl; (with_reducible repeat (first | refine blk_drewN ?_ _ | refine blk_drew ?_ | refine blk_alloc ?_ _)); refine blk_put (cs := #[.int .i64 0, .int .i64 0, .int .i64 0, .int .i64 0, .int .i64 0]) ?_ 0 _ rfl; (with_reducible repeat (first | refine blk_drewN ?_ _ | refine blk_drew ?_ | refine blk_alloc ?_ _)); exact BK298.out) NB298_0.out (by simp)); have n3_ := Aside0.mk (KeepBut.trans (by repeat (first | (with_reducible first | exact HK.out | apply KeepBut.set_ | apply keep_drewN | apply keep_drew | apply keep_alloc | refine keep_far ?_ GW292.out _ | refine keep_far ?_ GW298.out _) | exact HK.out)) hk (.inl rfl)); have n4_ := Aside0.mk (hb); have n5_ := Aside0.mk (hi); clear HO_5; clear BK292; clear BK298; clear HK; clear HB; clear HI0; have HO_5 := n0_; have BK292 := n1_; have BK298 := n2_; have HK := n3_; have HB := n4_; have HI0 := n5_; clear n0_ n1_ n2_ n3_ n4_ n5_; (try clear hb); (try clear hb2); (try clear hk); (try clear hi); have hcz48_0 : w47.cell? ⟨gb292, 0, none⟩ = some (.int .i64 ((rd_T90 x5_1 t295).f0)) := (blk_cell BK292.out 0).trans rfl; have hcz48_1 : w47.cell? ⟨gb292, 1, none⟩ = some (.int .i64 ((rd_T90 x5_1 t295).f1)) := (blk_cell BK292.out 1).trans rfl; have hcz48_2 : w47.cell? ⟨gb292, 2, none⟩ = some (.int .i64 t288) := (blk_cell BK292.out 2).trans rfl; have hcz48_3 : w47.cell? ⟨gb292, 3, none⟩ = some (.int .i64 t289) := (blk_cell BK292.out 3).trans rfl; have hcz48_4 : w47.cell? ⟨gb292, 4, none⟩ = some (.int .i64 t290) := (blk_cell BK292.out 4).trans rfl; have hfz48_0 := blk_frozen BK292.out 0; have hfz48_1 := blk_frozen BK292.out 1; have hfz48_2 := blk_frozen BK292.out 2; have hfz48_3 := blk_frozen BK292.out 3; have hfz48_4 := blk_frozen BK292.out 4) | ((with_reducible refine gate_builtin (b := .append) (xs := #[.tmp 48, .tmp 50]) rfl ?_); at_builtin; refine Kd.R_append k90 w.heap.size rfl (.tmp 48) (.tmp 50) 59 90 (.agg #[(.int .i64 0), (.int .i64 0), (.int .i64 0), (.int .i64 0), (.int .i64 0)]) 40 rfl Try.underlying59 info90 rfl (by decide) (by omega) (.slice (some ad297) x5_1.length co39) x5_1 (⟨(rd_T90 x5_1 t295).f0, (rd_T90 x5_1 t295).f1, (⟨t288, t289⟩ : S36), t290⟩ : S90) [.int .i64 ((rd_T90 x5_1 t295).f0), .int .i64 ((rd_T90 x5_1 t295).f1), .int .i64 t288, .int .i64 t289, .int .i64 t290] (fun k_ => k_ ≠ gb292 ∧ k_ ≠ gb298) (fun _ => False) rfl rfl ?aP (fun _ hk => hk.elim) ?aF ?aO (Below.refl _ _) ?aS ?aL ?_; (case aP => exact k90_mkM _ _ _ (⟨(rd_T90 x5_1 t295).f0, (rd_T90 x5_1 t295).f1, (⟨t288, t289⟩ : S36), t290⟩ : S90)); (case aF => exact (fun k_ hk => ⟨Kd.freshB (g := gb292) (o := .cells #[.int .i64 ((rd_T90 x5_1 t295).f0), .int .i64 ((rd_T90 x5_1 t295).f1), .int .i64 t288, .int .i64 t289, .int .i64 t290] 90 (0, 0)) (by (with_reducible repeat (first | refine blk_drewN ?_ _ | refine blk_drew ?_ | refine blk_alloc ?_ _)); exact BK292.out) k_ hk, Kd.freshB (g := gb298) (o := .cells #[.int .i64 ((rd_T90 x5_1 t295).f0), .int .i64 ((rd_T90 x5_1 t295).f1), .int .i64 ((rd_T90 x5_1 t295).f2.f0), .int .i64 ((rd_T90 x5_1 t295).f2.f1), .int .i64 ((rd_T90 x5_1 t295).f3)] 90 (0, 0)) (by (with_reducible repeat (first | refine blk_drewN ?_ _ | refine blk_drew ?_ | refine blk_alloc ?_ _)); exact BK298.out) k_ hk⟩)); (case aO => exact (by (with_reducible repeat (first | apply Kd.R_alloc | apply Kd.R_drewN | apply Kd.R_drew)); exact HO_5.out)); (case aS => exact (keep_size (w := w) (g := g) (row := none) (by repeat (first | (with_reducible first | exact HK.out | apply KeepBut.set_ | apply keep_drewN | apply keep_drew | apply keep_alloc | refine keep_far ?_ GW292.out _ | refine keep_far ?_ GW298.out _) | exact HK.out)))); (case aL => have := LMc38.out; omega); intro v305 w49 ho hb hg hat; rw [← Ny304.out] at ho; have n0_ := Aside0.mk (blk_grown (g := gb292) (o := .cells #[.int .i64 ((rd_T90 x5_1 t295).f0), .int .i64 ((rd_T90 x5_1 t295).f1), .int .i64 t288, .int .i64 t289, .int .i64 t290] 90 (0, 0)) (by (with_reducible repeat (first | refine blk_drewN ?_ _ | refine blk_drew ?_ | refine blk_alloc ?_ _)); exact BK292.out) hg (Kd.R_away HO_5.out (fun _ hk => hk.1))); have n1_ := Aside0.mk (IsS112.grown (show IsS112 w0 _ g s0_0 t300 from by repeat (first | (with_reducible first | exact HI0.out | apply IsS112.alloc | apply IsS112.drewN | apply IsS112.drew | apply IsS112.set_1 | refine IsS112.far ?_ NB0_292.out _ | refine IsS112.far ?_ NB0_298.out _) | exact HI0.out)) hg (IsS112.own_ne HI0.out HO_5.out (by decide))); have n2_ := Aside0.mk (blk_grown (g := gb298) (o := .cells #[.int .i64 ((rd_T90 x5_1 t295).f0), .int .i64 ((rd_T90 x5_1 t295).f1), .int .i64 ((rd_T90 x5_1 t295).f2.f0), .int .i64 ((rd_T90 x5_1 t295).f2.f1), .int .i64 ((rd_T90 x5_1 t295).f3)] 90 (0, 0)) (by (with_reducible repeat (first | refine blk_drewN ?_ _ | refine blk_drew ?_ | refine blk_alloc ?_ _)); exact BK298.out) hg (Kd.R_away HO_5.out (fun _ hk => hk.2))); have n3_ := Aside0.mk (below_weaken (by repeat (first | (with_reducible first | exact HB.out | apply below_alloc | apply pw_below_drewN | apply below_drew1 | refine below_set ?_ (IsS112.ge HI0.out) | refine below_set ?_ GE292.out | refine below_set ?_ GE298.out) | exact HB.out)) HL.out hb); have n4_ := Aside0.mk (KeepBut.trans (by repeat (first | (with_reducible first | exact HK.out | apply KeepBut.set_ | apply keep_drewN | apply keep_drew | apply keep_alloc | refine keep_far ?_ GW292.out _ | refine keep_far ?_ GW298.out _) | exact HK.out)) (KeepBut.of_grown hg g) (Kd.R_base2 HO_5.out)); have n5_ := Aside0.mk (ho); clear BK292; clear HI0; clear BK298; clear HB; clear HK; clear HO_5; have BK292 := n0_; have HI0 := n1_; have BK298 := n2_; have HB := n3_; have HK := n4_; have HO306 := n5_; clear n0_ n1_ n2_ n3_ n4_ n5_; clear ho hb hg hat))
           go_roundg kj8
           case measure => have := HK1.out; have := HJ8.out; omega
           case rel => exact ⟨(y304), (wrap64 (x6_1 - 1)), (t300), (by first | rfl | (simp; done) | (simp [*]; done)), H', ⟨by have := HK1.out; have := HJ8.out; omega⟩, ⟨by (with_reducible repeat (first | apply Kd.R_alloc | apply Kd.R_drewN | apply Kd.R_drew)); exact Kd.R_mono HO306.out (fun _ hk => trivial)⟩, ⟨by repeat (first | (with_reducible first | exact HI0.out | apply IsS112.alloc | apply IsS112.drewN | apply IsS112.drew | apply IsS112.set_1 | refine IsS112.far ?_ NB0_292.out _ | refine IsS112.far ?_ NB0_298.out _) | exact HI0.out)⟩, ⟨by repeat (first | (with_reducible first | exact HK.out | apply KeepBut.set_ | apply keep_drewN | apply keep_drew | apply keep_alloc | refine keep_far ?_ GW292.out _ | refine keep_far ?_ GW298.out _) | exact HK.out)⟩, ⟨by repeat (first | (with_reducible first | exact HB.out | apply below_alloc | apply pw_below_drewN | apply below_drew1 | refine below_set ?_ (IsS112.ge HI0.out) | refine below_set ?_ GE292.out | refine below_set ?_ GE298.out) | exact HB.out)⟩⟩
          ·rw [if_neg c38] at H
           exact absurd H (by simp)
        ·rw [if_neg c22] at H
         exact absurd H (by simp)
       ·rw [if_neg c21] at H
        exact absurd H (by simp)
      ·replace c19 := Bool.eq_false_iff.mpr c19
       subst c19
       have H1 : (if x5_1.length < 3518437208883 then (spec_l71Rows.l0 kj8 (x5_1 ++ [(⟨t286, t287, (⟨t288, t289⟩ : S36), t290⟩ : S90)]) (wrap64 (x6_1 - 1)) s0_0 x1001_8) else (none)) = some (r1, r2) := by rw [if_neg (show ¬ (false = true) by decide)] at H; exact H
       clear H
       have H := H1
       clear H1
       by_cases c50 : x5_1.length < 3518437208883
       ·rw [if_pos c50] at H
        have LMc50 := Aside0.mk c50
        clear c50
        obtain ⟨y307, hy307⟩ : ∃ y_ : List (S90), y_ = (x5_1 ++ [(⟨t286, t287, (⟨t288, t289⟩ : S36), t290⟩ : S90)]) := ⟨_, rfl⟩
        replace H : (spec_l71Rows.l0 kj8 y307 (wrap64 (x6_1 - 1)) s0_0 x1001_8) = some (r1, r2) := by first | (rw [hy307]; with_reducible exact H) | (have H2_ := (Option.bind_some _ _).symm.trans H; rw [hy307]; with_reducible exact H2_) | (have H2_ := (Option.bind_some _ _).symm.trans H; with_reducible exact H2_) | with_reducible exact H | (rw [hy307]; exact H) | exact H
        have Ny307 := Aside0.mk hy307
        clear hy307
        have H' := Aside0.mk H
        clear H
        have hnb51 := NB292_0.out
        have hnc51 := NB0_292.out
        have hcz52_0 : wc.cell? ⟨gb292, 0, none⟩ = some (.int .i64 t286) := (blk_cell BK292.out 0).trans rfl
        have hcz52_1 : wc.cell? ⟨gb292, 1, none⟩ = some (.int .i64 t287) := (blk_cell BK292.out 1).trans rfl
        have hcz52_2 : wc.cell? ⟨gb292, 2, none⟩ = some (.int .i64 t288) := (blk_cell BK292.out 2).trans rfl
        have hcz52_3 : wc.cell? ⟨gb292, 3, none⟩ = some (.int .i64 t289) := (blk_cell BK292.out 3).trans rfl
        have hcz52_4 : wc.cell? ⟨gb292, 4, none⟩ = some (.int .i64 t290) := (blk_cell BK292.out 4).trans rfl
        have hfz52_0 := blk_frozen BK292.out 0
        have hfz52_1 := blk_frozen BK292.out 1
        have hfz52_2 := blk_frozen BK292.out 2
        have hfz52_3 := blk_frozen BK292.out 3
        have hfz52_4 := blk_frozen BK292.out 4
        go_wp2_with (first | ((with_reducible refine gate_builtin (b := .append) (xs := #[.tmp 48, .tmp 50]) rfl ?_); at_builtin; refine Kd.R_append k90 w.heap.size rfl (.tmp 48) (.tmp 50) 59 90 (.agg #[(.int .i64 0), (.int .i64 0), (.int .i64 0), (.int .i64 0), (.int .i64 0)]) 40 rfl Try.underlying59 info90 rfl (by decide) (by omega) u5 x5_1 (⟨t286, t287, (⟨t288, t289⟩ : S36), t290⟩ : S90) [.int .i64 t286, .int .i64 t287, .int .i64 t288, .int .i64 t289, .int .i64 t290] (fun k_ => k_ ≠ gb292) (fun _ => False) rfl rfl ?aP (fun _ hk => hk.elim) ?aF ?aO (Below.refl _ _) ?aS ?aL ?_; (case aP => exact k90_mkM _ _ _ (⟨t286, t287, (⟨t288, t289⟩ : S36), t290⟩ : S90)); (case aF => exact (fun k_ hk => Kd.freshB (g := gb292) (o := .cells #[.int .i64 t286, .int .i64 t287, .int .i64 t288, .int .i64 t289, .int .i64 t290] 90 (0, 0)) (by (with_reducible repeat (first | refine blk_drewN ?_ _ | refine blk_drew ?_ | refine blk_alloc ?_ _)); exact BK292.out) k_ hk)); (case aO => exact (by (with_reducible repeat (first | apply Kd.R_alloc | apply Kd.R_drewN | apply Kd.R_drew)); exact HO_5.out)); (case aS => exact (keep_size (w := w) (g := g) (row := none) (by repeat (first | (with_reducible first | exact HK.out | apply KeepBut.set_ | apply keep_drewN | apply keep_drew | apply keep_alloc | refine keep_far ?_ GW292.out _) | exact HK.out)))); (case aL => have := LMc50.out; omega); intro v308 w53 ho hb hg hat; rw [← Ny307.out] at ho; have n0_ := Aside0.mk (blk_grown (g := gb292) (o := .cells #[.int .i64 t286, .int .i64 t287, .int .i64 t288, .int .i64 t289, .int .i64 t290] 90 (0, 0)) (by (with_reducible repeat (first | refine blk_drewN ?_ _ | refine blk_drew ?_ | refine blk_alloc ?_ _)); exact BK292.out) hg (Kd.R_away HO_5.out (fun _ hk => hk))); have n1_ := Aside0.mk (IsS112.grown (show IsS112 w0 _ g s0_0 x1001_8 from by repeat (first | (with_reducible first | exact HI0.out | apply IsS112.alloc | apply IsS112.drewN | apply IsS112.drew | apply IsS112.set_1 | refine IsS112.far ?_ NB0_292.out _) | exact HI0.out)) hg (IsS112.own_ne HI0.out HO_5.out (by decide))); have n2_ := Aside0.mk (below_weaken (by repeat (first | (with_reducible first | exact HB.out | apply below_alloc | apply pw_below_drewN | apply below_drew1 | refine below_set ?_ (IsS112.ge HI0.out) | refine below_set ?_ GE292.out) | exact HB.out)) HL.out hb); have n3_ := Aside0.mk (KeepBut.trans (by repeat (first | (with_reducible first | exact HK.out | apply KeepBut.set_ | apply keep_drewN | apply keep_drew | apply keep_alloc | refine keep_far ?_ GW292.out _) | exact HK.out)) (KeepBut.of_grown hg g) (Kd.R_base2 HO_5.out)); have n4_ := Aside0.mk (ho); clear BK292; clear HI0; clear HB; clear HK; clear HO_5; have BK292 := n0_; have HI0 := n1_; have HB := n2_; have HK := n3_; have HO309 := n4_; clear n0_ n1_ n2_ n3_ n4_; clear ho hb hg hat))
        go_roundg kj8
        case measure => have := HK1.out; have := HJ8.out; omega
        case rel => exact ⟨(y307), (wrap64 (x6_1 - 1)), (x1001_8), (by first | rfl | (simp; done) | (simp [*]; done)), H', ⟨by have := HK1.out; have := HJ8.out; omega⟩, ⟨by (with_reducible repeat (first | apply Kd.R_alloc | apply Kd.R_drewN | apply Kd.R_drew)); exact Kd.R_mono HO309.out (fun _ hk => trivial)⟩, ⟨by repeat (first | (with_reducible first | exact HI0.out | apply IsS112.alloc | apply IsS112.drewN | apply IsS112.drew | apply IsS112.set_1 | refine IsS112.far ?_ NB0_292.out _) | exact HI0.out)⟩, ⟨by repeat (first | (with_reducible first | exact HK.out | apply KeepBut.set_ | apply keep_drewN | apply keep_drew | apply keep_alloc | refine keep_far ?_ GW292.out _) | exact HK.out)⟩, ⟨by repeat (first | (with_reducible first | exact HB.out | apply below_alloc | apply pw_below_drewN | apply below_drew1 | refine below_set ?_ (IsS112.ge HI0.out) | refine below_set ?_ GE292.out) | exact HB.out)⟩⟩
       ·rw [if_neg c50] at H
        exact absurd H (by simp)
   ·rw [if_neg c7] at H
    have c7b0 : decide (0 < x6_1) = false := decide_eq_false c7
    clear c7
    simp only [Option.some.injEq, Prod.mk.injEq] at H
    obtain ⟨rfl, rfl⟩ := H
    go_wp2
    go_ret
    exact ⟨_, by first | rfl | (simp [errW_none, errW_some] <;> rfl) | (simp [*, errW_none, errW_some] <;> rfl), by (with_reducible repeat (first | apply Kd.R_alloc | apply Kd.R_drewN | apply Kd.R_drew)); exact HO_5.out, by repeat (first | (with_reducible first | exact HI0.out | apply IsS112.alloc | apply IsS112.drewN | apply IsS112.drew | apply IsS112.set_1) | exact HI0.out), by repeat (first | (with_reducible first | exact HB.out | apply below_alloc | apply pw_below_drewN | apply below_drew1 | refine below_set ?_ (IsS112.ge HI0.out)) | exact HB.out), by repeat (first | (with_reducible first | exact HK.out | apply KeepBut.set_ | apply keep_drewN | apply keep_drew | apply keep_alloc) | exact HK.out)⟩
def spec_l71Set.f (k : Nat) (s0_0 : List Int) (s0_1 : Int) : Option ((List (S80)) × Int) := (spec_l71Rows.f k s0_0 s0_1 8).bind fun bt310 => ((spec_BatchAt.f k bt310.1 7 7).bind fun t314 => ((spec_l6Rd_pick.f k s0_0 bt310.2 24).bind fun bt317 => (if bt317.1 = 0 then ((spec_l6Rd_pick.f k s0_0 bt317.2 6).bind fun bt319 => ((spec_l6Rd_pick.f k s0_0 bt319.2 120).bind fun bt321 => ((spec_l6Rd_pick.f k s0_0 bt321.2 3).bind fun bt323 => (if t314.length < 5864062014805 then (some ((t314 ++ [(⟨wrap64 (bt319.1 - 1), wrap64 (bt321.1 - 5), wrap64 (bt323.1 - 1)⟩ : S80)]), bt323.2)) else (none))))) else (if bt317.1 = 1 then (if (t314.length : Int) > 0 then ((spec_l6Rd_pick.f k s0_0 bt317.2 (t314.length : Int)).bind fun bt328 => (if 0 ≤ bt328.1 then (if bt328.1 < (t314.length : Int) then (some ((t314.set (bt328.1 : Int).toNat (⟨(rd_T80 t314 bt328.1).f0, (rd_T80 t314 bt328.1).f1, 0⟩ : S80)), bt328.2)) else (none)) else (none))) else (some (t314, bt317.2))) else (some (t314, bt317.2))))))
theorem spec_l71Set.mono : ∀ a0 a1 k, LeO (spec_l71Set.f k a0 a1) (spec_l71Set.f (k + 1) a0 a1) := by
 intro a0 a1 k
 unfold spec_l71Set.f
 repeat' first
   | (with_reducible exact spec_BatchAt.mono _ _ _ _)
   | (with_reducible exact spec_l6Rd_pick.mono _ _ _ _)
   | (with_reducible exact spec_l71Rows.mono _ _ _ _)
   | (with_reducible exact LeO.refl _)
   | (with_reducible exact LeO.none _)
   | (with_reducible refine LeO.ite ?_ ?_)
   | (with_reducible refine LeO.bind ?_ (fun _ => ?_))
   | exact spec_BatchAt.mono _ _ _ _
   | exact spec_l6Rd_pick.mono _ _ _ _
   | exact spec_l71Rows.mono _ _ _ _
   | exact LeO.none _
   | refine LeO.ite ?_ ?_
   | refine LeO.bind ?_ (fun _ => ?_)
end Go.Proofs.Ytpggfdjnebccnaa.PFnSetLess
