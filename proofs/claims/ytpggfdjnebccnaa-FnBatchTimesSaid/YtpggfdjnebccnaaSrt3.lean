/- partialInsertionSort_func with a 'less' that may lay blocks. Over any program. -/
import Derived.Test.YtpggfdjnebccnaaSrt0
namespace Go.Proofs.Ytpggfdjnebccnaa.Srt
open Go Go.Proofs Go.Shelf Go.RowKit Go.Lib Go.Sort
set_option linter.unusedVariables false
set_option linter.unusedSimpArgs false
variable {P : Program} {ρ : Ren} {α : Type} [Inhabited α]

set_option maxHeartbeats 16000000 in
set_option maxRecDepth 1000000 in
theorem partialIns (L : LaysGg.n31 P ρ) (enc : α → List Value) (k : Nat) (hk : ∀ x, (enc x).length = k) (lt : α → α → Bool) (g : Nat) (lb : Array Value) (sf : Nat) (sb : Array Value) (blk off a b : Nat) (d : Array α) (w : World)
    (eg : ∀ args w, (callFunc g args).run P w = .ok (.enter g args) w) (hless : LessLays P g lb enc k lt blk off d.size w) (hswap : SwapSwapsK P sf sb enc k blk off d.size)
    (hH : HoldsK enc k w blk off d) (hblk : blk < w.heap.size) (hab : a < b) (hb : b ≤ d.size) (hsz : d.size < 4611686018427387904) :
    Calls P (ρ.f 31) #[.agg #[.func (.func g) #[] lb, .func (.func sf) #[] sb], .int .i64 a, .int .i64 b] w fun e w' => e = .returned (.bool (Sort.partialInsertionSort lt d a b).2) ∧ SWK enc k w blk off (Sort.partialInsertionSort lt d a b).1 w' := by
  have mixed := L.mixed; have t0 := L.t0; have a0 := L.a0; have z0 := L.z0; have v0 := L.v0; have t3 := L.t3; have a3 := L.a3; have z3 := L.z3; have v3 := L.v3; have t4 := L.t4; have a4 := L.a4; have z4 := L.z4; have v4 := L.v4; have t26 := L.t26; have a26 := L.a26; have z26 := L.z26; have v26 := L.v26; have t37 := L.t37; have a37 := L.a37; have z37 := L.z37; have v37 := L.v37; have t44 := L.t44; have a44 := L.a44; have z44 := L.z44; have v44 := L.v44
  have u44 := run_underlying L.t44
  have hne : w.heap.size ≠ blk := by omega
  have LL : Aside (∀ (X : Array α) (j : Nat) (v : Bool) (W : World), (St enc k w blk off w.heap.size (.func (.func g) #[] lb) (.func (.func sf) #[] sb) X W) → X.size = d.size → 1 ≤ j → j < d.size → lt X[j]! X[j - 1]! = v → Calls P g (#[.int .i64 (j : Int), .int .i64 ((j : Int) - 1)] ++ lb) W fun e w' => e = .returned (.bool v) ∧ w'.cell? ⟨w.heap.size, 0, none⟩ = some (.func (.func g) #[] lb) ∧ w'.cell? ⟨w.heap.size, 1, none⟩ = some (.func (.func sf) #[] sb) ∧ Aside (St enc k w blk off w.heap.size (.func (.func g) #[] lb) (.func (.func sf) #[] sb) X w')) := fun X j v W S hX h1 hj hv => by
    have h := S.less hless hX hne hblk j (j - 1) hj (by omega) hv
    rw [show ((j - 1 : Nat) : Int) = (j : Int) - 1 by omega] at h
    exact h
  have SS : Aside (∀ (X : Array α) (j : Nat) (W : World), (St enc k w blk off w.heap.size (.func (.func g) #[] lb) (.func (.func sf) #[] sb) X W) → X.size = d.size → 1 ≤ j → j < d.size → ∃ w', (callFunc sf (#[.int .i64 (j : Int), .int .i64 ((j : Int) - 1)] ++ sb)).run P W = .ok (.value (.tuple #[])) w' ∧ w'.cell? ⟨w.heap.size, 0, none⟩ = some (.func (.func g) #[] lb) ∧ w'.cell? ⟨w.heap.size, 1, none⟩ = some (.func (.func sf) #[] sb) ∧ Aside (St enc k w blk off w.heap.size (.func (.func g) #[] lb) (.func (.func sf) #[] sb) (swp X j (j - 1)) w')) := fun X j W S hX h1 hj => by
    have h := S.swap hswap hk hH rfl hX hne hblk j (j - 1) hj (by omega)
    rw [show ((j - 1 : Nat) : Int) = (j : Int) - 1 by omega] at h
    exact h
  have HH : Aside _ := hH
  clear hless hswap hH
  go_enter L.f31, BodyGg.n31_ntmps ρ
  go_wp2
  go_loopg [7, 8] 5 (fun g1 vi vs wr => ∃ (i s : Nat) (dk : Array α), vi = .int .i64 i ∧ vs = .int .i64 s ∧ s ≤ 5 ∧ 5 - s ≤ g1 ∧ a < i ∧ i ≤ b ∧ dk.size = d.size ∧ Aside (St enc k w blk off w.heap.size (.func (.func g) #[] lb) (.func (.func sf) #[] sb) dk wr) ∧ Hid (Sort.partialIns lt a b (5 - s) i dk = Sort.partialIns lt a b 5 (a + 1) d))
  case atStart => exact ⟨a + 1, 0, d, by go_num, rfl, by omega, by omega, by omega, by omega, rfl, St.box HH.out _ _ _, rfl⟩
  case round =>
    obtain ⟨i, s, dk, rfl, rfl, hs5, hg1, hai, hib, hsk, S, HO⟩ := hrel
    by_cases hs5' : s < 5
    · have hsz5 : (s : Int) < 5 := by omega
      go_wp2
      go_loopg [7] (b - i) (fun g2 vi wr2 => ∃ (kx : Nat), vi = .int .i64 kx ∧ i ≤ kx ∧ kx ≤ b ∧ b - kx ≤ g2 ∧ Aside (St enc k w blk off w.heap.size (.func (.func g) #[] lb) (.func (.func sf) #[] sb) dk wr2) ∧ Hid (scanSorted lt dk b kx = scanSorted lt dk b i))
      case atStart => exact ⟨i, rfl, Nat.le_refl _, hib, Nat.le_refl _, S, rfl⟩
      case round =>
        clear S
        obtain ⟨kx, rfl, hik, hkb, hg2, S, HSc⟩ := hrel
        have c0 := S.out.c0; have c1 := S.out.c1
        by_cases hkb' : kx < b
        · have hkz : (kx : Int) < (b : Int) := by omega
          cases hlv : lt dk[kx]! dk[kx - 1]! with
          | false =>
            have hl := LL.out dk kx _ _ S.out hsk (by omega) (by omega) hlv
            go_wp2_with (go_at_fn g; refine hl.mono ?_; rintro e w1 ⟨rfl, d0, d1, S1⟩)
            go_roundg (b - (kx + 1))
            case measure => omega
            case rel => exact ⟨kx + 1, by go_num, by omega, by omega, Nat.le_refl _, S1, (show Hid _ from by rw [← HSc.out, scanSorted_go lt dk b kx hkb' hlv]; exact rfl)⟩
          | true =>
            have hl := LL.out dk kx _ _ S.out hsk (by omega) (by omega) hlv
            have HK : Hid (scanSorted lt dk b i = kx) := by show _ = _; rw [← HSc.out, scanSorted_stop lt dk b kx (Or.inr hlv)]
            have hkne : ((kx : Int) == (b : Int)) = false := beq_eq_false_iff_ne.2 (by omega)
            by_cases h50 : b - a < 50
            · have h50z : (b : Int) - (a : Int) < 50 := by omega
              go_wp2_with (go_at_fn g; refine hl.mono ?_; rintro e w1 ⟨rfl, d0, d1, S1⟩)
              have hv : Sort.partialInsertionSort lt d a b = (dk, false) := by
                unfold Sort.partialInsertionSort
                rw [← HO.out, pi_short lt a b s i dk hs5' (by rw [HK.out]; omega) h50]
              rw [hv]
              go_ret
              exact ⟨rfl, S1.out.sw⟩
            · have h50z : ¬ ((b : Int) - (a : Int) < 50) := by omega
              have hX1 : (swp dk kx (kx - 1)).size = d.size := by rw [size_swp]; exact hsk
              by_cases hka : kx - a ≥ 2
              · have hkaz : (2 : Int) ≤ (kx : Int) - (a : Int) := by omega
                go_wp2_with (go_at_fn g; refine hl.mono ?_; rintro e w1 ⟨rfl, d0, d1, S1⟩; obtain ⟨w2, hs, e0, e1, S2⟩ := SS.out dk kx _ S1.out hsk (by omega) (by omega))
                go_loopg [9] (kx - 1) (fun g3 vj wr3 => ∃ (j : Nat) (dj : Array α), vj = .int .i64 j ∧ j ≤ kx - 1 ∧ j ≤ g3 ∧ dj.size = d.size ∧ Aside (St enc k w blk off w.heap.size (.func (.func g) #[] lb) (.func (.func sf) #[] sb) dj wr3) ∧ Hid (shiftDown lt j dj = shiftDown lt (kx - 1) (swp dk kx (kx - 1))))
                case atStart => exact ⟨kx - 1, (swp dk kx (kx - 1)), by congr 1; omega, Nat.le_refl _, Nat.le_refl _, hX1, S2, rfl⟩
                case round =>
                  obtain ⟨j, dj, rfl, hjk, hg3, hsj, SD, HDn⟩ := hrel
                  have f0 := SD.out.c0; have f1 := SD.out.c1
                  clear hl
                  by_cases hj1 : 1 ≤ j
                  · have hj1z : (1 : Int) ≤ (j : Int) := by omega
                    cases hlv2 : lt dj[j]! dj[j - 1]! with
                    | true =>
                      have hl := LL.out dj j _ _ SD.out hsj hj1 (by omega) hlv2
                      go_wp2_with (go_at_fn g; refine hl.mono ?_; rintro e w1 ⟨rfl, d0, d1, S4⟩; obtain ⟨w2, hs, e0, e1, S5⟩ := SS.out dj j _ S4.out hsj hj1 (by omega))
                      go_roundg (j - 1)
                      case measure => omega
                      case rel => exact ⟨j - 1, swp dj j (j - 1), by congr 1; omega, by omega, Nat.le_refl _, by rw [size_swp]; exact hsj, S5, (show Hid _ from by rw [← HDn.out, shiftDown_go lt j dj hj1 hlv2]; exact rfl)⟩
                    | false =>
                      have hl := LL.out dj j _ _ SD.out hsj hj1 (by omega) hlv2
                      have HD : Hid (fixDown lt a kx (swp dk kx (kx - 1)) = dj) := by show _ = _; unfold fixDown; rw [if_pos hka, ← HDn.out, shiftDown_stop lt j dj (Or.inr hlv2)]
                      by_cases hbk : b - kx ≥ 2
                      · have hbkz : (2 : Int) ≤ (b : Int) - (kx : Int) := by omega
                        go_wp2_with (go_at_fn g; refine hl.mono ?_; rintro e w1 ⟨rfl, d0, d1, S4⟩)
                        go_loopg [10] (b - (kx + 1)) (fun g4 vj wr4 => ∃ (ju : Nat) (du : Array α), vj = .int .i64 ju ∧ kx + 1 ≤ ju ∧ ju ≤ b ∧ b - ju ≤ g4 ∧ du.size = d.size ∧ Aside (St enc k w blk off w.heap.size (.func (.func g) #[] lb) (.func (.func sf) #[] sb) du wr4) ∧ Hid (shiftUp lt b ju du = shiftUp lt b (kx + 1) dj))
                        case atStart => exact ⟨kx + 1, dj, by go_num, Nat.le_refl _, by omega, Nat.le_refl _, hsj, S4, rfl⟩
                        case round =>
                          obtain ⟨ju, du, rfl, hkj, hjb, hg4, hsu, SU, HU⟩ := hrel
                          have u0 := SU.out.c0; have u1 := SU.out.c1
                          by_cases hjb' : ju < b
                          · have hjz : (ju : Int) < (b : Int) := by omega
                            cases hlv3 : lt du[ju]! du[ju - 1]! with
                            | true =>
                              have hl := LL.out du ju _ _ SU.out hsu (by omega) (by omega) hlv3
                              go_wp2_with (go_at_fn g; refine hl.mono ?_; rintro e w1 ⟨rfl, d0, d1, S8⟩; obtain ⟨w2, hs, e0, e1, S9⟩ := SS.out du ju _ S8.out hsu (by omega) (by omega))
                              go_roundg (b - (ju + 1))
                              case measure => omega
                              case rel => exact ⟨ju + 1, swp du ju (ju - 1), by go_num, by omega, by omega, Nat.le_refl _, by rw [size_swp]; exact hsu, S9, (show Hid _ from by rw [← HU.out, shiftUp_go lt b ju du hjb' hlv3]; exact rfl)⟩
                            | false =>
                              have hl := LL.out du ju _ _ SU.out hsu (by omega) (by omega) hlv3
                              go_wp2_with (go_at_fn g; refine hl.mono ?_; rintro e w1 ⟨rfl, d0, d1, S8⟩)
                              go_roundg (5 - (s + 1))
                              case measure => omega
                              case rel => exact ⟨kx, s + 1, du, rfl, by go_num, by omega, Nat.le_refl _, by omega, by omega, hsu, S8, (show Hid _ from by rw [← HO.out, pi_go lt a b s i kx dk hs5' HK.out (by omega) h50, HD.out, show fixUp lt b kx dj = du from by unfold fixUp; rw [if_pos hbk, ← HU.out, shiftUp_stop lt b ju du (Or.inr hlv3)]]; exact rfl)⟩
                          · have hjz : ¬ (ju : Int) < (b : Int) := by omega
                            go_wp2
                            go_roundg (5 - (s + 1))
                            case measure => omega
                            case rel => exact ⟨kx, s + 1, du, rfl, by go_num, by omega, Nat.le_refl _, by omega, by omega, hsu, SU, (show Hid _ from by rw [← HO.out, pi_go lt a b s i kx dk hs5' HK.out (by omega) h50, HD.out, show fixUp lt b kx dj = du from by unfold fixUp; rw [if_pos hbk, ← HU.out, shiftUp_stop lt b ju du (Or.inl hjb')]]; exact rfl)⟩
                      · have hbkz : ¬ (2 : Int) ≤ (b : Int) - (kx : Int) := by omega
                        go_wp2_with (go_at_fn g; refine hl.mono ?_; rintro e w1 ⟨rfl, d0, d1, S4⟩)
                        go_roundg (5 - (s + 1))
                        case measure => omega
                        case rel => exact ⟨kx, s + 1, dj, rfl, by go_num, by omega, Nat.le_refl _, by omega, by omega, hsj, S4, (show Hid _ from by rw [← HO.out, pi_go lt a b s i kx dk hs5' HK.out (by omega) h50, HD.out, show fixUp lt b kx dj = dj from by unfold fixUp; rw [if_neg hbk]]; exact rfl)⟩
                  · have hj1z : ¬ (1 : Int) ≤ (j : Int) := by omega
                    have HD : Hid (fixDown lt a kx (swp dk kx (kx - 1)) = dj) := by show _ = _; unfold fixDown; rw [if_pos hka, ← HDn.out, shiftDown_stop lt j dj (Or.inl (by omega))]
                    by_cases hbk : b - kx ≥ 2
                    · have hbkz : (2 : Int) ≤ (b : Int) - (kx : Int) := by omega
                      go_wp2
                      go_loopg [10] (b - (kx + 1)) (fun g4 vj wr4 => ∃ (ju : Nat) (du : Array α), vj = .int .i64 ju ∧ kx + 1 ≤ ju ∧ ju ≤ b ∧ b - ju ≤ g4 ∧ du.size = d.size ∧ Aside (St enc k w blk off w.heap.size (.func (.func g) #[] lb) (.func (.func sf) #[] sb) du wr4) ∧ Hid (shiftUp lt b ju du = shiftUp lt b (kx + 1) dj))
                      case atStart => exact ⟨kx + 1, dj, by go_num, Nat.le_refl _, by omega, Nat.le_refl _, hsj, SD, rfl⟩
                      case round =>
                        obtain ⟨ju, du, rfl, hkj, hjb, hg4, hsu, SU, HU⟩ := hrel
                        have u0 := SU.out.c0; have u1 := SU.out.c1
                        by_cases hjb' : ju < b
                        · have hjz : (ju : Int) < (b : Int) := by omega
                          cases hlv3 : lt du[ju]! du[ju - 1]! with
                          | true =>
                            have hl := LL.out du ju _ _ SU.out hsu (by omega) (by omega) hlv3
                            go_wp2_with (go_at_fn g; refine hl.mono ?_; rintro e w1 ⟨rfl, d0, d1, S8⟩; obtain ⟨w2, hs, e0, e1, S9⟩ := SS.out du ju _ S8.out hsu (by omega) (by omega))
                            go_roundg (b - (ju + 1))
                            case measure => omega
                            case rel => exact ⟨ju + 1, swp du ju (ju - 1), by go_num, by omega, by omega, Nat.le_refl _, by rw [size_swp]; exact hsu, S9, (show Hid _ from by rw [← HU.out, shiftUp_go lt b ju du hjb' hlv3]; exact rfl)⟩
                          | false =>
                            have hl := LL.out du ju _ _ SU.out hsu (by omega) (by omega) hlv3
                            go_wp2_with (go_at_fn g; refine hl.mono ?_; rintro e w1 ⟨rfl, d0, d1, S8⟩)
                            go_roundg (5 - (s + 1))
                            case measure => omega
                            case rel => exact ⟨kx, s + 1, du, rfl, by go_num, by omega, Nat.le_refl _, by omega, by omega, hsu, S8, (show Hid _ from by rw [← HO.out, pi_go lt a b s i kx dk hs5' HK.out (by omega) h50, HD.out, show fixUp lt b kx dj = du from by unfold fixUp; rw [if_pos hbk, ← HU.out, shiftUp_stop lt b ju du (Or.inr hlv3)]]; exact rfl)⟩
                        · have hjz : ¬ (ju : Int) < (b : Int) := by omega
                          go_wp2
                          go_roundg (5 - (s + 1))
                          case measure => omega
                          case rel => exact ⟨kx, s + 1, du, rfl, by go_num, by omega, Nat.le_refl _, by omega, by omega, hsu, SU, (show Hid _ from by rw [← HO.out, pi_go lt a b s i kx dk hs5' HK.out (by omega) h50, HD.out, show fixUp lt b kx dj = du from by unfold fixUp; rw [if_pos hbk, ← HU.out, shiftUp_stop lt b ju du (Or.inl hjb')]]; exact rfl)⟩
                    · have hbkz : ¬ (2 : Int) ≤ (b : Int) - (kx : Int) := by omega
                      go_wp2
                      go_roundg (5 - (s + 1))
                      case measure => omega
                      case rel => exact ⟨kx, s + 1, dj, rfl, by go_num, by omega, Nat.le_refl _, by omega, by omega, hsj, SD, (show Hid _ from by rw [← HO.out, pi_go lt a b s i kx dk hs5' HK.out (by omega) h50, HD.out, show fixUp lt b kx dj = dj from by unfold fixUp; rw [if_neg hbk]]; exact rfl)⟩
              · have hkaz : ¬ (2 : Int) ≤ (kx : Int) - (a : Int) := by omega
                have HD : Hid (fixDown lt a kx (swp dk kx (kx - 1)) = (swp dk kx (kx - 1))) := by show _ = _; unfold fixDown; rw [if_neg hka]
                by_cases hbk : b - kx ≥ 2
                · have hbkz : (2 : Int) ≤ (b : Int) - (kx : Int) := by omega
                  go_wp2_with (go_at_fn g; refine hl.mono ?_; rintro e w1 ⟨rfl, d0, d1, S1⟩; obtain ⟨w2, hs, e0, e1, S2⟩ := SS.out dk kx _ S1.out hsk (by omega) (by omega))
                  go_loopg [10] (b - (kx + 1)) (fun g4 vj wr4 => ∃ (ju : Nat) (du : Array α), vj = .int .i64 ju ∧ kx + 1 ≤ ju ∧ ju ≤ b ∧ b - ju ≤ g4 ∧ du.size = d.size ∧ Aside (St enc k w blk off w.heap.size (.func (.func g) #[] lb) (.func (.func sf) #[] sb) du wr4) ∧ Hid (shiftUp lt b ju du = shiftUp lt b (kx + 1) (swp dk kx (kx - 1))))
                  case atStart => exact ⟨kx + 1, (swp dk kx (kx - 1)), by go_num, Nat.le_refl _, by omega, Nat.le_refl _, hX1, S2, rfl⟩
                  case round =>
                    obtain ⟨ju, du, rfl, hkj, hjb, hg4, hsu, SU, HU⟩ := hrel
                    have u0 := SU.out.c0; have u1 := SU.out.c1
                    by_cases hjb' : ju < b
                    · have hjz : (ju : Int) < (b : Int) := by omega
                      cases hlv3 : lt du[ju]! du[ju - 1]! with
                      | true =>
                        have hl := LL.out du ju _ _ SU.out hsu (by omega) (by omega) hlv3
                        go_wp2_with (go_at_fn g; refine hl.mono ?_; rintro e w1 ⟨rfl, d0, d1, S8⟩; obtain ⟨w2, hs, e0, e1, S9⟩ := SS.out du ju _ S8.out hsu (by omega) (by omega))
                        go_roundg (b - (ju + 1))
                        case measure => omega
                        case rel => exact ⟨ju + 1, swp du ju (ju - 1), by go_num, by omega, by omega, Nat.le_refl _, by rw [size_swp]; exact hsu, S9, (show Hid _ from by rw [← HU.out, shiftUp_go lt b ju du hjb' hlv3]; exact rfl)⟩
                      | false =>
                        have hl := LL.out du ju _ _ SU.out hsu (by omega) (by omega) hlv3
                        go_wp2_with (go_at_fn g; refine hl.mono ?_; rintro e w1 ⟨rfl, d0, d1, S8⟩)
                        go_roundg (5 - (s + 1))
                        case measure => omega
                        case rel => exact ⟨kx, s + 1, du, rfl, by go_num, by omega, Nat.le_refl _, by omega, by omega, hsu, S8, (show Hid _ from by rw [← HO.out, pi_go lt a b s i kx dk hs5' HK.out (by omega) h50, HD.out, show fixUp lt b kx (swp dk kx (kx - 1)) = du from by unfold fixUp; rw [if_pos hbk, ← HU.out, shiftUp_stop lt b ju du (Or.inr hlv3)]]; exact rfl)⟩
                    · have hjz : ¬ (ju : Int) < (b : Int) := by omega
                      go_wp2
                      go_roundg (5 - (s + 1))
                      case measure => omega
                      case rel => exact ⟨kx, s + 1, du, rfl, by go_num, by omega, Nat.le_refl _, by omega, by omega, hsu, SU, (show Hid _ from by rw [← HO.out, pi_go lt a b s i kx dk hs5' HK.out (by omega) h50, HD.out, show fixUp lt b kx (swp dk kx (kx - 1)) = du from by unfold fixUp; rw [if_pos hbk, ← HU.out, shiftUp_stop lt b ju du (Or.inl hjb')]]; exact rfl)⟩
                · exfalso; omega
        · obtain rfl : kx = b := by omega
          have hkz : ¬ (kx : Int) < (kx : Int) := by omega
          go_wp2
          have hv : Sort.partialInsertionSort lt d a kx = (dk, true) := by
            unfold Sort.partialInsertionSort
            rw [← HO.out, pi_true lt a kx s i dk hs5' (by rw [← HSc.out, scanSorted_stop lt dk kx kx (Or.inl (by omega))])]
          rw [hv]
          go_ret
          exact ⟨rfl, S.out.sw⟩
    · obtain rfl : s = 5 := by omega
      go_wp2
      have hv : Sort.partialInsertionSort lt d a b = (dk, false) := by
        unfold Sort.partialInsertionSort
        rw [← HO.out, pi_end]
      rw [hv]
      go_ret
      exact ⟨rfl, S.out.sw⟩
end Go.Proofs.Ytpggfdjnebccnaa.Srt
