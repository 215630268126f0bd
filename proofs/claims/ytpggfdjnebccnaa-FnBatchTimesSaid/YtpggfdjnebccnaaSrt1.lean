/- Insertion sort with a 'less' that may lay blocks. Over any program. -/
import Derived.Test.YtpggfdjnebccnaaSrt0
namespace Go.Proofs.Ytpggfdjnebccnaa.Srt
open Go Go.Proofs Go.Shelf Go.RowKit Go.Lib Go.Sort
set_option linter.unusedVariables false
set_option linter.unusedSimpArgs false
variable {P : Program} {ρ : Ren} {α : Type} [Inhabited α]

set_option maxHeartbeats 4000000 in
set_option maxRecDepth 100000 in
theorem insertion (L : LaysGg.n26 P ρ) (enc : α → List Value) (k : Nat) (hk : ∀ x, (enc x).length = k) (lt : α → α → Bool) (g : Nat) (lb : Array Value) (sf : Nat) (sb : Array Value) (blk off a b : Nat) (d : Array α) (w : World)
    (eg : ∀ args w, (callFunc g args).run P w = .ok (.enter g args) w) (hless : LessLays P g lb enc k lt blk off d.size w) (hswap : SwapSwapsK P sf sb enc k blk off d.size)
    (hH : HoldsK enc k w blk off d) (hblk : blk < w.heap.size) (hab : a ≤ b) (hb : b ≤ d.size) (hsz : d.size < 4611686018427387904) :
    Calls P (ρ.f 26) #[.agg #[.func (.func g) #[] lb, .func (.func sf) #[] sb], .int .i64 a, .int .i64 b] w fun e w' => e = .returned (.tuple #[]) ∧ SWK enc k w blk off (Sort.insertionSort lt d a b) w' := by
  have mixed := L.mixed; have t0 := L.t0; have a0 := L.a0; have z0 := L.z0; have v0 := L.v0; have t3 := L.t3; have a3 := L.a3; have z3 := L.z3; have v3 := L.v3; have t4 := L.t4; have a4 := L.a4; have z4 := L.z4; have v4 := L.v4; have t26 := L.t26; have a26 := L.a26; have z26 := L.z26; have v26 := L.v26; have t37 := L.t37; have a37 := L.a37; have z37 := L.z37; have v37 := L.v37; have t44 := L.t44; have a44 := L.a44; have z44 := L.z44; have v44 := L.v44
  have u44 := run_underlying L.t44
  have hne : w.heap.size ≠ blk := by omega
  have HL : Aside _ := hless; have HS : Aside _ := hswap; have HH : Aside _ := hH
  clear hless hswap hH
  go_enter L.f26, BodyGg.n26_ntmps ρ
  go_wp2
  go_loopw [6] (fun vi wr => ∃ (i : Nat) (dk : Array α), vi = .int .i64 i ∧ a < i ∧ i ≤ b + 1 ∧ dk.size = d.size ∧ Aside (St enc k w blk off w.heap.size (.func (.func g) #[] lb) (.func (.func sf) #[] sb) dk wr) ∧ Hid (insOuter lt a b i dk = insOuter lt a b (a + 1) d)) (fun vi _ => b + 1 - (intOf vi).toNat)
  case atStart => exact ⟨a + 1, d, by go_num, by omega, by omega, rfl, St.box HH.out _ _ _, rfl⟩
  case round =>
    obtain ⟨i, dk, rfl, hai, hib, hsk, S, HO⟩ := hrel
    by_cases hlt : i < b
    · have hltz : (i : Int) < (b : Int) := by omega
      go_wp2
      go_loopw [7] (fun vj wr2 => ∃ (j : Nat) (dj : Array α), vj = .int .i64 j ∧ a ≤ j ∧ j ≤ i ∧ dj.size = d.size ∧ Aside (St enc k w blk off w.heap.size (.func (.func g) #[] lb) (.func (.func sf) #[] sb) dj wr2) ∧ Hid (insInner lt a j dj = insInner lt a i dk)) (fun vj _ => (intOf vj).toNat)
      case atStart => exact ⟨i, dk, rfl, by omega, Nat.le_refl _, hsk, S, rfl⟩
      case round =>
        clear S
        obtain ⟨j, dj, rfl, haj, hji, hsj, S, HI⟩ := hrel
        have c0 := S.out.c0; have c1 := S.out.c1
        by_cases hja : a < j
        · have hjz : (a : Int) < (j : Int) := by omega
          cases hlv : lt dj[j]! dj[j - 1]! with
          | true =>
            have hl := S.out.less HL.out hsj hne hblk j (j - 1) (by omega) (by omega) hlv
            rw [show (((j - 1 : Nat) : Int)) = (j : Int) - 1 by omega] at hl
            go_wp2_with (go_at_fn g; refine hl.mono ?_; rintro e w1 ⟨rfl, d0, d1, S1⟩; obtain ⟨w2, hs, e0, e1, S2⟩ := S1.out.swap HS.out hk HH.out rfl hsj hne hblk j (j - 1) (by omega) (by omega); rw [show (((j - 1 : Nat) : Int)) = (j : Int) - 1 by omega] at hs)
            go_roundw
            case rel => exact ⟨j - 1, swp dj j (j - 1), by congr 1; omega, by omega, by omega, by rw [size_swp]; exact hsj, S2, (show Hid _ from by rw [← HI.out, insInner_go lt a j dj hja hlv]; exact rfl)⟩
            case measure => simp [intOf]; omega
          | false =>
            have hl := S.out.less HL.out hsj hne hblk j (j - 1) (by omega) (by omega) hlv
            rw [show (((j - 1 : Nat) : Int)) = (j : Int) - 1 by omega] at hl
            go_wp2_with (go_at_fn g; refine hl.mono ?_; rintro e w1 ⟨rfl, d0, d1, S1⟩)
            go_roundw
            case rel => exact ⟨i + 1, dj, by go_num, by omega, by omega, hsj, S1, (show Hid _ from by rw [← HO.out, insOuter_go _ _ _ _ _ hlt, ← HI.out, insInner_stop _ _ _ _ (Or.inr hlv)]; exact rfl)⟩
            case measure => simp [intOf]; omega
        · have hjz : ¬ (a : Int) < (j : Int) := by omega
          go_wp2
          go_roundw
          case rel => exact ⟨i + 1, dj, by go_num, by omega, by omega, hsj, S, (show Hid _ from by rw [← HO.out, insOuter_go _ _ _ _ _ hlt, ← HI.out, insInner_stop _ _ _ _ (Or.inl (by omega))]; exact rfl)⟩
          case measure => simp [intOf]; omega
    · have hltz : ¬ (i : Int) < (b : Int) := by omega
      go_wp2
      go_end0
      refine ⟨rfl, ?_⟩
      unfold Sort.insertionSort; rw [← HO.out, insOuter_stop _ _ _ _ _ hlt]
      exact S.out.sw
end Go.Proofs.Ytpggfdjnebccnaa.Srt
