/- pdqsort_func with a 'less' that may lay blocks. Over any program. -/
import Derived.Test.YtpggfdjnebccnaaSrt1
import Derived.Test.YtpggfdjnebccnaaSrt2
import Derived.Test.YtpggfdjnebccnaaSrt3
import Derived.Test.YtpggfdjnebccnaaSrt4
import Derived.Test.YtpggfdjnebccnaaSrt5
namespace Go.Proofs.Ytpggfdjnebccnaa.Srt
open Go Go.Proofs Go.Shelf Go.RowKit Go.Lib Go.Sort
set_option linter.unusedVariables false
set_option linter.unusedSimpArgs false
variable {P : Program} {ρ : Ren} {α : Type} [Inhabited α]

/-- A call's contract, told of the state. -/
theorem St.call {enc : α → List Value} {k : Nat} {w W : World} {blk off B : Nat} {x y : Value} {d d' : Array α} {f : Nat} {args : Array Value} {R : Ending → Prop} (S : St enc k w blk off B x y d W) (h : Calls P f args W fun e w' => R e ∧ SWK enc k W blk off d' w') (hs : d'.size = d.size) (hne : B ≠ blk) (hblk : blk < w.heap.size) :
    Calls P f args W fun e w' => R e ∧ w'.cell? ⟨B, 0, none⟩ = some x ∧ w'.cell? ⟨B, 1, none⟩ = some y ∧ Aside (St enc k w blk off B x y d' w') :=
  h.mono fun _ _ ⟨he, hw⟩ => have T := S.step hw hs hne hblk; ⟨he, T.c0, T.c1, T⟩
theorem St.grown {enc : α → List Value} {k : Nat} {w W W' : World} {blk off B : Nat} {x y : Value} {d d0 : Array α} (S : St enc k w blk off B x y d W) (hH : HoldsK enc k w blk off d0) (hblk : blk < w.heap.size) (hs : d.size = d0.size) (h : ∃ n os, W' = grow (Sort.ahead W n) os) : SWK enc k W blk off d W' := by
  obtain ⟨n, os, rfl⟩ := h
  exact ⟨n, os, by unfold sortWorldK; rw [putRowK_self enc k _ blk off d (holdsK_ahead enc k W n blk off d (S.holds hH hblk hs))]⟩

set_option maxHeartbeats 12800000 in
set_option maxRecDepth 1000000 in
theorem pdqc (L : LaysGg.n14 P ρ) (enc : α → List Value) (k : Nat) (hk : ∀ x, (enc x).length = k) (lt : α → α → Bool) (hO : SWO lt) (g : Nat) (lb : Array Value) (sf : Nat) (sb : Array Value) (eg : ∀ args w, (callFunc g args).run P w = .ok (.enter g args) w) :
    ∀ (N blk off a b limit : Nat) (d : Array α) (w : World), b - a < N → LessLays P g lb enc k lt blk off d.size w → SwapSwapsK P sf sb enc k blk off d.size → HoldsK enc k w blk off d → blk < w.heap.size → a ≤ b → b ≤ d.size → d.size < 4611686018427387904 → limit < 4611686018427387904 → Below lt a b d →
    Calls P (ρ.f 14) #[.agg #[.func (.func g) #[] lb, .func (.func sf) #[] sb], .int .i64 a, .int .i64 b, .int .i64 limit] w fun e w' => e = .returned (.tuple #[]) ∧ SWK enc k w blk off (pdq lt d a b limit true true) w' := by
  have mixed := L.mixed; have t0 := L.t0; have a0 := L.a0; have z0 := L.z0; have v0 := L.v0; have t3 := L.t3; have a3 := L.a3; have z3 := L.z3; have v3 := L.v3; have t4 := L.t4; have a4 := L.a4; have z4 := L.z4; have v4 := L.v4; have t5 := L.t5; have a5 := L.a5; have z5 := L.z5; have v5 := L.v5; have t9 := L.t9; have a9 := L.a9; have z9 := L.z9; have v9 := L.v9; have t26 := L.t26; have a26 := L.a26; have z26 := L.z26; have v26 := L.v26; have t37 := L.t37; have a37 := L.a37; have z37 := L.z37; have v37 := L.v37; have t41 := L.t41; have a41 := L.a41; have z41 := L.z41; have v41 := L.v41; have t44 := L.t44; have a44 := L.a44; have z44 := L.z44; have v44 := L.v44; have t49 := L.t49; have a49 := L.a49; have z49 := L.z49; have v49 := L.v49; have t51 := L.t51; have a51 := L.a51; have z51 := L.z51; have v51 := L.v51; have t53 := L.t53; have a53 := L.a53; have z53 := L.z53; have v53 := L.v53; have t54 := L.t54; have a54 := L.a54; have z54 := L.z54; have v54 := L.v54; have t58 := L.t58; have a58 := L.a58; have z58 := L.z58; have v58 := L.v58; have t60 := L.t60; have a60 := L.a60; have z60 := L.z60; have v60 := L.v60; have t64 := L.t64; have a64 := L.a64; have z64 := L.z64; have v64 := L.v64; have t66 := L.t66; have a66 := L.a66; have z66 := L.z66; have v66 := L.v66; have t67 := L.t67; have a67 := L.a67; have z67 := L.z67; have v67 := L.v67
  have u44 := run_underlying L.t44
  have e26 : ∀ args w, (callFunc (ρ.f 26) args).run P w = .ok (.enter (ρ.f 26) args) w := enters_of L.f26 (by kernel_rfl) rfl
  have e27 : ∀ args w, (callFunc (ρ.f 27) args).run P w = .ok (.enter (ρ.f 27) args) w := enters_of L.f27 (by kernel_rfl) rfl
  have e28 : ∀ args w, (callFunc (ρ.f 28) args).run P w = .ok (.enter (ρ.f 28) args) w := enters_of L.f28 (by kernel_rfl) rfl
  have e29 : ∀ args w, (callFunc (ρ.f 29) args).run P w = .ok (.enter (ρ.f 29) args) w := enters_of L.f29 (by kernel_rfl) rfl
  have e30 : ∀ args w, (callFunc (ρ.f 30) args).run P w = .ok (.enter (ρ.f 30) args) w := enters_of L.f30 (by kernel_rfl) rfl
  have e31 : ∀ args w, (callFunc (ρ.f 31) args).run P w = .ok (.enter (ρ.f 31) args) w := enters_of L.f31 (by kernel_rfl) rfl
  have e32 : ∀ args w, (callFunc (ρ.f 32) args).run P w = .ok (.enter (ρ.f 32) args) w := enters_of L.f32 (by kernel_rfl) rfl
  have e33 : ∀ args w, (callFunc (ρ.f 33) args).run P w = .ok (.enter (ρ.f 33) args) w := enters_of L.f33 (by kernel_rfl) rfl
  have e14 : ∀ args w, (callFunc (ρ.f 14) args).run P w = .ok (.enter (ρ.f 14) args) w := enters_of L.f14 (by kernel_rfl) rfl
  intro N
  induction N with
  | zero => intro _ _ _ _ _ _ _ h; exact absurd h (Nat.not_lt_zero _)
  | succ N ih =>
    intro blk off a b limit d w hN hL hS hH hblk hab hb hsz hlimit hBel0
    have hne : w.heap.size ≠ blk := by omega
    have LR : Aside (∀ {D : Array α} {X : World}, St enc k w blk off w.heap.size (.func (.func g) #[] lb) (.func (.func sf) #[] sb) D X → D.size = d.size → LessLays P g lb enc k lt blk off D.size X) := fun {D X} hA hs => by rw [hs]; exact hL.at hblk hA.sw hs
    have SR : Aside (∀ {D : Array α}, D.size = d.size → SwapSwapsK P sf sb enc k blk off D.size) := fun {D} hs => by rw [hs]; exact hS
    have HH : Aside _ := hH
    have HL : Aside _ := hL
    have BX : Aside (St enc k w blk off w.heap.size (.func (.func g) #[] lb) (.func (.func sf) #[] sb) d (w.alloc (.cells #[.func (.func g) #[] lb, .func (.func sf) #[] sb] (ρ.t 44)))) := St.box hH _ _ _
    clear hL hS hH
    go_enter L.f14, BodyGg.n14_ntmps ρ
    go_wp2
    go_loopg [1, 2, 3, 8, 9] (b - a) (fun kx s1 s2 s3 s8 s9 wr => ∃ (a' b' lim : Nat) (wb wp : Bool) (dk : Array α), s1 = .int .i64 a' ∧ s2 = .int .i64 b' ∧ s3 = .int .i64 lim ∧ s8 = .bool wb ∧ s9 = .bool wp ∧
      a' ≤ b' ∧ b' ≤ d.size ∧ b' - a' ≤ kx ∧ kx ≤ b - a ∧ lim ≤ limit ∧ dk.size = d.size ∧ Below lt a' b' dk ∧ Aside (St enc k w blk off w.heap.size (.func (.func g) #[] lb) (.func (.func sf) #[] sb) dk wr) ∧ Hid (pdq lt dk a' b' lim wb wp = pdq lt d a b limit true true))
    case atStart => exact ⟨a, b, limit, true, true, d, rfl, rfl, rfl, rfl, rfl, hab, hb, Nat.le_refl _, Nat.le_refl _, Nat.le_refl _, rfl, hBel0, BX, rfl⟩
    case round =>
      obtain ⟨a', b', lim, wb, wp, dk, rfl, rfl, rfl, rfl, rfl, hab', hb', hkx, hkN, hlim, hds, hBel, S, A⟩ := hrel
      have x0 := S.out.c0; have x1 := S.out.c1
      by_cases h12 : b' - a' ≤ 12
      · have h12z : (b' : Int) - (a' : Int) ≤ 12 := by omega
        have hc := S.out.call (insertion (P := P) (ρ := ρ) { L with } enc k hk lt g lb sf sb blk off a' b' dk _ eg (LR.out S.out hds) (SR.out hds) (S.out.holds HH.out hblk hds) (S.out.inb hblk) hab' (by omega) (by omega)) (insertionSort_holds hO dk a' b' hab' (by omega)).1.1 hne hblk
        go_wp2_with (go_at_fn (ρ.f 26); refine hc.mono ?_; rintro e w1 ⟨rfl, y0, y1, S1⟩)
        (try simp only [Exit.inBlock, Exit.then]); refine bodyPost_ret (results_none rfl _ _ _) rfl ?_
        refine ⟨rfl, ?_⟩
        rw [← A.out, pdq_small h12]
        exact S1.out.sw
      · have h12z : ¬ ((b' : Int) - (a' : Int) ≤ 12) := by omega
        by_cases hl0 : lim = 0
        · subst hl0
          have hc := S.out.call (heap (P := P) (ρ := ρ) { L with } enc k hk lt g lb sf sb blk off a' b' dk _ eg (LR.out S.out hds) (SR.out hds) (S.out.holds HH.out hblk hds) (S.out.inb hblk) hab' (by omega) (by omega)) (heapSort_holds hO dk a' b' hab' (by omega)).1.1 hne hblk
          go_wp2_with (go_at_fn (ρ.f 27); refine hc.mono ?_; rintro e w1 ⟨rfl, y0, y1, S1⟩)
          (try simp only [Exit.inBlock, Exit.then]); refine bodyPost_ret (results_none rfl _ _ _) rfl ?_
          refine ⟨rfl, ?_⟩
          rw [← A.out, pdq_heap h12 rfl]
          exact S1.out.sw
        · have hl0z : ¬ ((lim : Int) = 0) := by omega
          obtain ⟨s1, B1, hc1, s2, B2, hpv, s3, B3⟩ := rd_facts (lt := lt) (limit := lim) (wb := wb) (wp := wp) hO partialInsertionSort_holds reverseRange_holds (show a' < b' by omega) (show b' ≤ dk.size by omega) hBel
          go_upto_if 35 with fail
          go_cut [3] from 19 (fun s3 wc => s3 = .int .i64 (rd lt dk a' b' lim wb wp).lim ∧ Aside (St enc k w blk off w.heap.size (.func (.func g) #[] lb) (.func (.func sf) #[] sb) (rd lt dk a' b' lim wb wp).d1 wc))
          case first =>
            cases wb
            · have hc := S.out.call (Any.breakPatterns_func_cells_w (P := P) (ρ := ρ) { L with } enc k hk (.func g) #[] lb sf sb blk off a' b' dk _ (SR.out hds) (S.out.holds HH.out hblk hds) (S.out.inb hblk) hab' (by omega) (by omega)) s1 hne hblk
              go_wp2_with (go_at_fn (ρ.f 28); refine hc.mono ?_; rintro e w1 ⟨rfl, y0, y1, S1⟩)
              go_meet
              case rel =>
                refine ⟨?_, S1⟩
                show Value.int .i64 ((lim : Int) - 1) = Value.int .i64 ((lim - 1 : Nat) : Int)
                congr 1
                omega
            · go_wp2_with fail
              go_meet
              case rel => exact ⟨rfl, S⟩
          case rest =>
            clear x0 x1 S
            obtain ⟨rfl, S1⟩ := hcut
            have x0 := S1.out.c0; have x1 := S1.out.c1
            have t1 := s1.trans hds
            have hc17 : Calls P (ρ.f 29) #[.agg #[.func (.func g) #[] lb, .func (.func sf) #[] sb], .int .i64 a', .int .i64 b'] wc fun e w' => e = .returned (.tuple #[.int .i64 (rd lt dk a' b' lim wb wp).c.1, .int .i64 (hintCode (rd lt dk a' b' lim wb wp).c.2)]) ∧ w'.cell? ⟨w.heap.size, 0, none⟩ = some (.func (.func g) #[] lb) ∧ w'.cell? ⟨w.heap.size, 1, none⟩ = some (.func (.func sf) #[] sb) ∧ Aside (St enc k w blk off w.heap.size (.func (.func g) #[] lb) (.func (.func sf) #[] sb) (rd lt dk a' b' lim wb wp).d1 w') :=
              S1.out.call ((pivotc (P := P) (ρ := ρ) { L with } enc k hk lt g lb (.func sf) #[] sb blk off a' b' wc (rd lt dk a' b' lim wb wp).d1 eg (LR.out S1.out t1) (S1.out.inb hblk) (S1.out.holds HH.out hblk t1) (by omega) (by omega) (by omega)).mono fun _ _ ⟨he, h⟩ => ⟨he, S1.out.grown HH.out hblk t1 h⟩) rfl hne hblk
            go_upto_if 50 with (go_at_fn (ρ.f 29); refine hc17.mono ?_; rintro e w2 ⟨rfl, z0, z1, S2⟩)
            clear S1 x0 x1 hc17
            go_cut [11, 12] from 19 (fun s11 s12 wc => s11 = .int .i64 (rd lt dk a' b' lim wb wp).pivot ∧ s12 = .int .i64 (hintCode (rd lt dk a' b' lim wb wp).hint) ∧ Aside (St enc k w blk off w.heap.size (.func (.func g) #[] lb) (.func (.func sf) #[] sb) (rd lt dk a' b' lim wb wp).d2 wc))
            case first =>
              by_cases hh : (rd lt dk a' b' lim wb wp).c.2 = .decreasing
              · have hcode : hintCode (rd lt dk a' b' lim wb wp).c.2 = 2 := by rw [hh]; rfl
                obtain ⟨e2, epv, eht⟩ := rd_dec hh
                have hc18 := S2.out.call (Any.reverseRange_func_cells_w (P := P) (ρ := ρ) { L with } enc k hk (.func g) #[] lb sf sb blk off a' b' (rd lt dk a' b' lim wb wp).d1 _ (SR.out t1) (S2.out.holds HH.out hblk t1) (S2.out.inb hblk) hab' (by omega) (by omega)) (by rw [← e2, s2, s1]) hne hblk
                go_wp2_with (go_at_fn (ρ.f 30); refine hc18.mono ?_; rintro e w3 ⟨rfl, y0, y1, S3⟩)
                go_meet
                case rel =>
                  refine ⟨?_, by rw [eht]; rfl, by rw [e2]; exact S3⟩
                  rw [epv]
                  congr 1
                  omega
              · have hcode : ¬ (hintCode (rd lt dk a' b' lim wb wp).c.2 = 2) := fun h => hh (hintCode_two h)
                obtain ⟨e2, epv, eht⟩ := rd_not hh
                go_wp2_with fail
                go_meet
                case rel => exact ⟨by rw [epv], by rw [eht], by rw [e2]; exact S2⟩
            case rest =>
              clear z0 z1 S2
              obtain ⟨rfl, rfl, S3⟩ := hcut
              have t2 := s2.trans hds
              have v0 := S3.out.c0; have v1 := S3.out.c1
              go_upto_region 16 with fail
              go_cut [12, 68] from 19 (fun s12 s68 wx => s12 = .int .i64 (hintCode (rd lt dk a' b' lim wb wp).hint) ∧ s68 = .bool (wb && wp && decide ((rd lt dk a' b' lim wb wp).hint = .increasing)) ∧ wx = wc)
              case first =>
                cases wb <;> cases wp <;> cases hh3 : (rd lt dk a' b' lim _ _).hint <;>
                  (have hcode3 := congrArg hintCode hh3
                   simp only [hintCode] at hcode3
                   go_wp2_with fail
                   go_meet
                   exact ⟨by simp [hh3, hintCode], by simp [hh3, hintCode], rfl⟩)
              case rest =>
                obtain ⟨rfl, rfl, rfl⟩ := hcut
                go_upto_if 68 with fail
                go_cut [] from 19 (fun wx => (rd lt dk a' b' lim wb wp).pi.2 = false ∧ Aside (St enc k w blk off w.heap.size (.func (.func g) #[] lb) (.func (.func sf) #[] sb) (rd lt dk a' b' lim wb wp).pi.1 wx))
                case first =>
                  cases h68 : (wb && wp && decide ((rd lt dk a' b' lim wb wp).hint = .increasing))
                  · have epi := rd_pi_no h68
                    go_wp2_with fail
                    go_meet
                    case rel => exact ⟨by rw [epi], by rw [epi]; exact S3⟩
                  · have epi := rd_pi_yes h68
                    have hc19 := partialIns (P := P) (ρ := ρ) { L with } enc k hk lt g lb sf sb blk off a' b' (rd lt dk a' b' lim wb wp).d2 wc eg (LR.out S3.out t2) (SR.out t2) (S3.out.holds HH.out hblk t2) (S3.out.inb hblk) (by omega) (by omega) (by omega)
                    rw [← epi] at hc19
                    have hc19 := S3.out.call hc19 (by rw [s3, s2]) hne hblk
                    go_wp2_with (go_at_fn (ρ.f 31); refine hc19.mono ?_; rintro e w4 ⟨rfl, y0, y1, S4⟩)
                    all_goals first
                      | (have hp2 : (rd lt dk a' b' lim wb wp).pi.2 = false := by rw [epi]; assumption
                         go_meet
                         exact ⟨hp2, S4⟩)
                      | (have hp2 : (rd lt dk a' b' lim wb wp).pi.2 = true := by rw [epi]; assumption
                         (try simp only [Exit.inBlock, Exit.then]); refine bodyPost_ret (results_none rfl _ _ _) rfl ?_
                         refine ⟨rfl, ?_⟩
                         rw [← A.out, pdq_done h12 hl0 hp2]
                         exact S4.out.sw)
                case rest =>
                  clear v0 v1 S3
                  obtain ⟨hp2, S5⟩ := hcut
                  have t3 := s3.trans hds
                  have y0 := S5.out.c0; have y1 := S5.out.c1
                  go_upto_region 18 with fail
                  go_cut [83] from 19 (fun s83 wx => s83 = .bool (decide (a' > 0) && !lt (rd lt dk a' b' lim wb wp).pi.1[a' - 1]! (rd lt dk a' b' lim wb wp).pi.1[(rd lt dk a' b' lim wb wp).pivot]!) ∧ Aside (St enc k w blk off w.heap.size (.func (.func g) #[] lb) (.func (.func sf) #[] sb) (rd lt dk a' b' lim wb wp).pi.1 wx))
                  case first =>
                    rcases Nat.eq_zero_or_pos a' with ha0 | ha0
                    · have ha0z : decide ((a' : Int) > 0) = false := decide_eq_false (by omega)
                      go_wp2_with fail
                      go_meet
                      case rel => exact ⟨by simp [ha0], S5⟩
                    · have ha0z : (a' : Int) > 0 := by omega
                      cases hlv : lt (rd lt dk a' b' lim wb wp).pi.1[a' - 1]! (rd lt dk a' b' lim wb wp).pi.1[(rd lt dk a' b' lim wb wp).pivot]! <;>
                        (have hl := S5.out.less HL.out t3 hne hblk (a' - 1) (rd lt dk a' b' lim wb wp).pivot (by omega) (by omega) hlv
                         rw [show ((a' - 1 : Nat) : Int) = (a' : Int) - 1 by omega] at hl
                         go_wp2_with (go_at_fn g; refine hl.mono ?_; rintro e w5 ⟨rfl, z0, z1, S6⟩)
                         go_meet
                         exact ⟨by simp [ha0, hlv], S6⟩)
                  case rest =>
                    clear y0 y1 S5
                    obtain ⟨rfl, S6⟩ := hcut
                    have q0 := S6.out.c0; have q1 := S6.out.c1
                    cases h87 : (decide (a' > 0) && !lt (rd lt dk a' b' lim wb wp).pi.1[a' - 1]! (rd lt dk a' b' lim wb wp).pi.1[(rd lt dk a' b' lim wb wp).pivot]!)
                    · obtain ⟨mid, ap, d4, hx⟩ : ∃ mid ap d4, partition lt (rd lt dk a' b' lim wb wp).pi.1 a' b' (rd lt dk a' b' lim wb wp).pivot = (mid, ap, d4) := ⟨_, _, _, rfl⟩
                      obtain ⟨r1, r2, r3, r4, r5, r6, r7⟩ := round_part hO (partition_holds lt) hpv.1 hpv.2 (show b' ≤ (rd lt dk a' b' lim wb wp).pi.1.size by omega) B3 hx
                      have hc22 := part (P := P) (ρ := ρ) { L with } enc k hk lt g lb sf sb blk off a' b' (rd lt dk a' b' lim wb wp).pivot (rd lt dk a' b' lim wb wp).pi.1 wc eg (LR.out S6.out t3) (SR.out t3) (S6.out.holds HH.out hblk t3) (S6.out.inb hblk) hpv.1 hpv.2 (by omega) (by omega)
                      rw [hx] at hc22
                      have hc22 := S6.out.call hc22 r3 hne hblk
                      have X : Hid (partition lt (rd lt dk a' b' lim wb wp).pi.1 a' b' (rd lt dk a' b' lim wb wp).pivot = (mid, ap, d4)) := hx
                      clear hx
                      go_upto_if 109 with (go_at_fn (ρ.f 33); refine hc22.mono ?_; rintro e w7 ⟨rfl, p0, p1, S7⟩)
                      have hx := X.out
                      have hs4 : d4.size = d.size := r3.trans t3
                      clear q0 q1 S6
                      by_cases h4 : mid - a' < b' - mid
                      · have h4z : (mid : Int) - (a' : Int) < (b' : Int) - (mid : Int) := by omega
                        obtain ⟨pL, sL⟩ := pdq_sorts lt hO d4 a' mid (rd lt dk a' b' lim wb wp).lim true true (by omega) (by omega) r4
                        have hih := S7.out.call (ih blk off a' mid (rd lt dk a' b' lim wb wp).lim d4 _ (by omega) (LR.out S7.out hs4) (SR.out hs4) (S7.out.holds HH.out hblk hs4) (S7.out.inb hblk) (by omega) (by omega) (by omega) (Nat.lt_of_le_of_lt (Nat.le_trans rd_lim_le hlim) hlimit) r4) pL.1 hne hblk
                        go_wp2_with (go_at_fn (ρ.f 14); refine hih.mono ?_; rintro e w8 ⟨rfl, n0, n1, S8⟩)
                        go_roundg (b' - (mid + 1))
                        case measure => omega
                        case rel =>
                          refine ⟨mid + 1, b', (rd lt dk a' b' lim wb wp).lim, decide (mid - a' ≥ (b' - a') / 8), ap, pdq lt d4 a' mid (rd lt dk a' b' lim wb wp).lim true true, by simp, rfl, rfl, ?_, rfl, by omega, by omega, Nat.le_refl _, by omega, Nat.le_trans rd_lim_le hlim, by rw [pL.1, hs4], (r6 _ pL sL).1, S8, ?_⟩
                          · exact congrArg Value.bool (eighth (by omega) (by omega))
                          · show _ = _
                            rw [← A.out, pdq_left h12 hl0 hp2 h87 (by rw [hx]; exact ⟨r1, r2⟩) (by rw [hx]; exact h4), hx]
                      · have h4z : ¬ ((mid : Int) - (a' : Int) < (b' : Int) - (mid : Int)) := by omega
                        obtain ⟨pL, sL⟩ := pdq_sorts lt hO d4 (mid + 1) b' (rd lt dk a' b' lim wb wp).lim true true (by omega) (by omega) r5
                        have hih := S7.out.call (ih blk off (mid + 1) b' (rd lt dk a' b' lim wb wp).lim d4 _ (by omega) (LR.out S7.out hs4) (SR.out hs4) (S7.out.holds HH.out hblk hs4) (S7.out.inb hblk) (by omega) (by omega) (by omega) (Nat.lt_of_le_of_lt (Nat.le_trans rd_lim_le hlim) hlimit) r5) pL.1 hne hblk
                        rw [show ((mid + 1 : Nat) : Int) = (mid : Int) + 1 by omega] at hih
                        go_wp2_with (go_at_fn (ρ.f 14); refine hih.mono ?_; rintro e w8 ⟨rfl, n0, n1, S8⟩)
                        go_roundg (mid - a')
                        case measure => omega
                        case rel =>
                          refine ⟨a', mid, (rd lt dk a' b' lim wb wp).lim, decide (b' - mid ≥ (b' - a') / 8), ap, pdq lt d4 (mid + 1) b' (rd lt dk a' b' lim wb wp).lim true true, rfl, rfl, rfl, ?_, rfl, by omega, by omega, Nat.le_refl _, by omega, Nat.le_trans rd_lim_le hlim, by rw [pL.1, hs4], (r7 _ pL sL).1, S8, ?_⟩
                          · exact congrArg Value.bool (eighth (by omega) (by omega))
                          · show _ = _
                            rw [← A.out, pdq_right h12 hl0 hp2 h87 (by rw [hx]; exact ⟨r1, r2⟩) (by rw [hx]; exact h4), hx]
                    · have h87' := h87
                      simp only [Bool.and_eq_true, decide_eq_true_eq, Bool.not_eq_true'] at h87'
                      obtain ⟨mid, d4, hx⟩ : ∃ mid d4, partitionEqual lt (rd lt dk a' b' lim wb wp).pi.1 a' b' (rd lt dk a' b' lim wb wp).pivot = (mid, d4) := ⟨_, _, rfl⟩
                      obtain ⟨r1, r2, r3, r4, _⟩ := round_eq hO (partitionEqual_holds lt) h87'.1 hpv.1 hpv.2 (show b' ≤ (rd lt dk a' b' lim wb wp).pi.1.size by omega) B3 h87'.2 hx
                      have hc21 := partEq (P := P) (ρ := ρ) { L with } enc k hk lt g lb sf sb blk off a' b' (rd lt dk a' b' lim wb wp).pivot (rd lt dk a' b' lim wb wp).pi.1 wc eg (LR.out S6.out t3) (SR.out t3) (S6.out.holds HH.out hblk t3) (S6.out.inb hblk) hpv.1 hpv.2 (by omega) (by omega)
                      rw [hx] at hc21
                      have hc21 := S6.out.call hc21 r3 hne hblk
                      have X : Hid (partitionEqual lt (rd lt dk a' b' lim wb wp).pi.1 a' b' (rd lt dk a' b' lim wb wp).pivot = (mid, d4)) := hx
                      clear hx
                      go_wp2_with (go_at_fn (ρ.f 32); refine hc21.mono ?_; rintro e w7 ⟨rfl, p0, p1, S7⟩)
                      go_roundg (b' - mid)
                      case measure => omega
                      case rel =>
                        have hx := X.out
                        exact ⟨mid, b', (rd lt dk a' b' lim wb wp).lim, wb, wp, d4, rfl, rfl, rfl, rfl, rfl, r2, hb', Nat.le_refl _, by omega, Nat.le_trans rd_lim_le hlim, by rw [r3, t3], r4, S7, (show Hid _ from by show _ = _; rw [← A.out, pdq_eq h12 hl0 hp2 h87 (by rw [hx]; exact ⟨r1, r2⟩), hx])⟩

/-- sort.Slice at a slice of structs, at whatever length above 1: a permutation, sorted. -/
theorem sortSlice (L : LaysGg.n6 P ρ) (t e : TypeId) (i ie : TypeInfo) (hi : P.info? t = some i) (hd : i.desc = .slice e) (hpk : P.packed t = false) (hie : P.info? e = some ie) (ke : Nat) (hke : ∀ w, (Extern.Rtype.kind e).run P w = .ok ke w)
    (enc : α → List Value) (k : Nat) (hk : ∀ x, (enc x).length = k) (hs1 : ie.size = k) (hagg : ∀ w, (isAgg e).run P w = .ok true w) (h1 : ∀ x, ∀ v ∈ enc x, v.oneCell' = true) (lt : α → α → Bool) (hO : SWO lt) (g : Nat) (lb : Array Value)
    (eg : ∀ args w, (callFunc g args).run P w = .ok (.enter g args) w) (blk off c : Nat) (d : Array α) (h2 : 2 ≤ d.size) (hsz : d.size < 4611686018427387904)
    (f : Nat) (hf : P.funcs.findIdx? (·.name == "internal/reflectlite" ++ ".Swapper$" ++ toString (swapperK d.size ie ke)) = some f)
    (gS : Bool) (hx : ∀ args W, (callFunc f args).run P W = ((Extern.ReflectliteSwapper.swap gS args).run P W).andThen fun v w' => .ok (.value v) w')
    (w : World) (hless : LessLays P g lb enc k lt blk off d.size w) (hH : HoldsK enc k w blk off d) (hblk : blk < w.heap.size) :
    Calls P (ρ.f 6) #[.iface t (.slice (some ⟨blk, off, none⟩) d.size c), .func (.func g) #[] lb] w fun e w' =>
      e = .returned (.tuple #[]) ∧ ∃ d', PermIn 0 d.size d d' ∧ SortedIn lt 0 d.size d' ∧ SWK enc k w blk off d' w' := by
  refine (Any.sort_Slice_of_pdq L t e i ie hi hd hpk hie ke hke _ d.size c hsz f hf (.func g) #[] lb w (SWK enc k w blk off (pdq lt d 0 d.size (Lib.bitLen d.size) true true)) ?_).mono fun _ _ ⟨he, hw⟩ => ?_
  · have hB : sliceBound P e ie ke (some ⟨blk, off, none⟩) d.size c = #[.slice (some ⟨blk, off, none⟩) d.size c, typeHandle P e] := by
      unfold sliceBound; rw [if_neg (swapperK_gt _ _ _ h2)]
    have hW : SWK enc k w blk off d (sliceWorld P ρ t (some ⟨blk, off, none⟩) d.size c w) := by
      unfold sliceWorld; exact ((SWK.start hH).alloc _).alloc _
    rw [hB]
    have hlim : Lib.bitLen d.size < 4611686018427387904 := Nat.lt_of_le_of_lt (Lib.bitLen_le d.size 62 (by omega) (by omega)) (by omega)
    have hp := pdqc (P := P) (ρ := ρ) { L with } enc k hk lt hO g lb f _ eg (d.size + 1) blk off 0 d.size (Lib.bitLen d.size) d _ (by omega) (hless.at hblk hW rfl)
      (swapSwapsK_of_literal gS f hx e ie hie enc k hk hs1 hagg h1 blk off d.size c) (hW.holds hblk hH rfl) (hW.lt hblk) (Nat.zero_le _) (Nat.le_refl _) hsz hlim (Or.inl rfl)
    refine hp.mono ?_
    rintro e w' ⟨rfl, h⟩
    exact ⟨rfl, swk_trans hW h hblk (pdq_sorts lt hO d 0 d.size (Lib.bitLen d.size) true true (Nat.zero_le _) (Nat.le_refl _) (Or.inl rfl)).1.1⟩
  · have h := pdq_sorts lt hO d 0 d.size (Lib.bitLen d.size) true true (Nat.zero_le _) (Nat.le_refl _) (Or.inl rfl)
    exact ⟨he, _, h.1, h.2, hw⟩
end Go.Proofs.Ytpggfdjnebccnaa.Srt
