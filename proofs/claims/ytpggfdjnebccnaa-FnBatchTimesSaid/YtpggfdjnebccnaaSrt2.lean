/- siftDown and heap sort with a 'less' that may lay blocks. Over any program. -/
import Derived.Test.YtpggfdjnebccnaaSrt0
namespace Go.Proofs.Ytpggfdjnebccnaa.Srt
open Go Go.Proofs Go.Shelf Go.RowKit Go.Lib Go.Sort
set_option linter.unusedVariables false
set_option linter.unusedSimpArgs false
variable {P : Program} {ρ : Ren} {α : Type} [Inhabited α]

set_option maxHeartbeats 4000000 in
set_option maxRecDepth 1000000 in
theorem sift (L : LaysGg.n34 P ρ) (enc : α → List Value) (k : Nat) (hk : ∀ x, (enc x).length = k) (lt : α → α → Bool) (g : Nat) (lb : Array Value) (sf : Nat) (sb : Array Value) (blk off lo hi first : Nat) (d : Array α) (w : World)
    (eg : ∀ args w, (callFunc g args).run P w = .ok (.enter g args) w) (hless : LessLays P g lb enc k lt blk off d.size w) (hswap : SwapSwapsK P sf sb enc k blk off d.size)
    (hH : HoldsK enc k w blk off d) (hblk : blk < w.heap.size) (hlo : lo ≤ hi) (hb : first + hi ≤ d.size) (hsz : d.size < 4611686018427387904) :
    Calls P (ρ.f 34) #[.agg #[.func (.func g) #[] lb, .func (.func sf) #[] sb], .int .i64 lo, .int .i64 hi, .int .i64 first] w fun e w' => e = .returned (.tuple #[]) ∧ SWK enc k w blk off (siftDown lt hi first lo d) w' := by
  have mixed := L.mixed; have t0 := L.t0; have a0 := L.a0; have z0 := L.z0; have v0 := L.v0; have t3 := L.t3; have a3 := L.a3; have z3 := L.z3; have v3 := L.v3; have t4 := L.t4; have a4 := L.a4; have z4 := L.z4; have v4 := L.v4; have t26 := L.t26; have a26 := L.a26; have z26 := L.z26; have v26 := L.v26; have t37 := L.t37; have a37 := L.a37; have z37 := L.z37; have v37 := L.v37; have t44 := L.t44; have a44 := L.a44; have z44 := L.z44; have v44 := L.v44
  have u44 := run_underlying L.t44
  have hne : w.heap.size ≠ blk := by omega
  have HL : Aside _ := hless; have HS : Aside _ := hswap; have HH : Aside _ := hH
  clear hless hswap hH
  go_enter L.f34, BodyGg.n34_ntmps ρ
  go_wp2
  go_loopg [8] (hi - lo) (fun kx s8 wr => ∃ (root : Nat) (dk : Array α), s8 = .int .i64 root ∧ root ≤ hi ∧ hi - root ≤ kx ∧ dk.size = d.size ∧ Aside (St enc k w blk off w.heap.size (.func (.func g) #[] lb) (.func (.func sf) #[] sb) dk wr) ∧ Hid (siftDown lt hi first root dk = siftDown lt hi first lo d))
  case atStart => exact ⟨lo, d, rfl, hlo, Nat.le_refl _, rfl, St.box HH.out _ _ _, rfl⟩
  case round =>
    obtain ⟨root, dk, rfl, hr, hkx, hds, S, HE⟩ := hrel
    have c0 := S.out.c0; have c1 := S.out.c1
    by_cases h0 : hi ≤ 2 * root + 1
    · have h0z : (hi : Int) ≤ 2 * (root : Int) + 1 := by omega
      go_wp2
      go_end0
      refine ⟨rfl, ?_⟩
      rw [← HE.out, sd_end lt dk h0]
      exact S.out.sw
    · have h0z : ¬ ((hi : Int) ≤ 2 * (root : Int) + 1) := by omega
      by_cases h1 : 2 * root + 2 < hi
      · have h1z : 2 * (root : Int) + 1 + 1 < (hi : Int) := by omega
        cases hL : lt dk[first + (2 * root + 1)]! dk[first + (2 * root + 2)]! with
        | true =>
          have hl1 := S.out.less HL.out hds hne hblk (first + (2 * root + 1)) (first + (2 * root + 2)) (by omega) (by omega) hL
          rw [show ((first + (2 * root + 1) : Nat) : Int) = (first : Int) + (2 * (root : Int) + 1) by omega, show ((first + (2 * root + 2) : Nat) : Int) = (first : Int) + (2 * (root : Int) + 1) + 1 by omega] at hl1
          cases hG : lt dk[first + root]! dk[first + (2 * root + 2)]! with
          | true =>
            go_wp2_with (first
              | (go_at_fn g; refine hl1.mono ?_; rintro e w1 ⟨rfl, d0, d1, S1⟩
                 have hl2 := S1.out.less HL.out hds hne hblk (first + root) (first + (2 * root + 2)) (by omega) (by omega) hG
                 rw [show ((first + root : Nat) : Int) = (first : Int) + (root : Int) by omega, show ((first + (2 * root + 2) : Nat) : Int) = (first : Int) + (2 * (root : Int) + 1 + 1) by omega] at hl2
                 clear hl1)
              | (go_at_fn g; refine hl2.mono ?_; rintro e w2 ⟨rfl, e0, e1, S2⟩
                 obtain ⟨w3, hs, f0, f1, S3⟩ := S2.out.swap HS.out hk HH.out rfl hds hne hblk (first + root) (first + (2 * root + 2)) (by omega) (by omega)
                 rw [show ((first + root : Nat) : Int) = (first : Int) + (root : Int) by omega, show ((first + (2 * root + 2) : Nat) : Int) = (first : Int) + (2 * (root : Int) + 1 + 1) by omega] at hs))
            go_roundg (hi - (2 * root + 2))
            case measure => omega
            case rel => exact ⟨2 * root + 2, swp dk (first + root) (first + (2 * root + 2)), by go_num, by omega, Nat.le_refl _, by rw [size_swp]; exact hds, S3, (show Hid _ from by rw [← HE.out, sd_right_go lt dk h1 hL hG]; exact rfl)⟩
          | false =>
            go_wp2_with (first
              | (go_at_fn g; refine hl1.mono ?_; rintro e w1 ⟨rfl, d0, d1, S1⟩
                 have hl2 := S1.out.less HL.out hds hne hblk (first + root) (first + (2 * root + 2)) (by omega) (by omega) hG
                 rw [show ((first + root : Nat) : Int) = (first : Int) + (root : Int) by omega, show ((first + (2 * root + 2) : Nat) : Int) = (first : Int) + (2 * (root : Int) + 1 + 1) by omega] at hl2
                 clear hl1)
              | (go_at_fn g; refine hl2.mono ?_; rintro e w2 ⟨rfl, e0, e1, S2⟩))
            (try simp only [Exit.inBlock, Exit.then]); refine bodyPost_ret (results_none rfl _ _ _) rfl ?_
            refine ⟨rfl, ?_⟩
            rw [← HE.out, sd_right_stop lt dk h1 hL hG]
            exact S2.out.sw
        | false =>
          have hl1 := S.out.less HL.out hds hne hblk (first + (2 * root + 1)) (first + (2 * root + 2)) (by omega) (by omega) hL
          rw [show ((first + (2 * root + 1) : Nat) : Int) = (first : Int) + (2 * (root : Int) + 1) by omega, show ((first + (2 * root + 2) : Nat) : Int) = (first : Int) + (2 * (root : Int) + 1) + 1 by omega] at hl1
          cases hG : lt dk[first + root]! dk[first + (2 * root + 1)]! with
          | true =>
            go_wp2_with (first
              | (go_at_fn g; refine hl1.mono ?_; rintro e w1 ⟨rfl, d0, d1, S1⟩
                 have hl2 := S1.out.less HL.out hds hne hblk (first + root) (first + (2 * root + 1)) (by omega) (by omega) hG
                 rw [show ((first + root : Nat) : Int) = (first : Int) + (root : Int) by omega, show ((first + (2 * root + 1) : Nat) : Int) = (first : Int) + (2 * (root : Int) + 1) by omega] at hl2
                 clear hl1)
              | (go_at_fn g; refine hl2.mono ?_; rintro e w2 ⟨rfl, e0, e1, S2⟩
                 obtain ⟨w3, hs, f0, f1, S3⟩ := S2.out.swap HS.out hk HH.out rfl hds hne hblk (first + root) (first + (2 * root + 1)) (by omega) (by omega)
                 rw [show ((first + root : Nat) : Int) = (first : Int) + (root : Int) by omega, show ((first + (2 * root + 1) : Nat) : Int) = (first : Int) + (2 * (root : Int) + 1) by omega] at hs))
            go_roundg (hi - (2 * root + 1))
            case measure => omega
            case rel => exact ⟨2 * root + 1, swp dk (first + root) (first + (2 * root + 1)), by go_num, by omega, Nat.le_refl _, by rw [size_swp]; exact hds, S3, (show Hid _ from by rw [← HE.out, sd_left_go lt dk (by omega) (fun _ => hL) hG]; exact rfl)⟩
          | false =>
            go_wp2_with (first
              | (go_at_fn g; refine hl1.mono ?_; rintro e w1 ⟨rfl, d0, d1, S1⟩
                 have hl2 := S1.out.less HL.out hds hne hblk (first + root) (first + (2 * root + 1)) (by omega) (by omega) hG
                 rw [show ((first + root : Nat) : Int) = (first : Int) + (root : Int) by omega, show ((first + (2 * root + 1) : Nat) : Int) = (first : Int) + (2 * (root : Int) + 1) by omega] at hl2
                 clear hl1)
              | (go_at_fn g; refine hl2.mono ?_; rintro e w2 ⟨rfl, e0, e1, S2⟩))
            (try simp only [Exit.inBlock, Exit.then]); refine bodyPost_ret (results_none rfl _ _ _) rfl ?_
            refine ⟨rfl, ?_⟩
            rw [← HE.out, sd_left_stop lt dk (by omega) (fun _ => hL) hG]
            exact S2.out.sw
      · have h1z : ¬ (2 * (root : Int) + 1 + 1 < (hi : Int)) := by omega
        cases hG : lt dk[first + root]! dk[first + (2 * root + 1)]! with
        | true =>
          have hl2 := S.out.less HL.out hds hne hblk (first + root) (first + (2 * root + 1)) (by omega) (by omega) hG
          rw [show ((first + root : Nat) : Int) = (first : Int) + (root : Int) by omega, show ((first + (2 * root + 1) : Nat) : Int) = (first : Int) + (2 * (root : Int) + 1) by omega] at hl2
          go_wp2_with (go_at_fn g; refine hl2.mono ?_; rintro e w2 ⟨rfl, e0, e1, S2⟩; obtain ⟨w3, hs, f0, f1, S3⟩ := S2.out.swap HS.out hk HH.out rfl hds hne hblk (first + root) (first + (2 * root + 1)) (by omega) (by omega); rw [show ((first + root : Nat) : Int) = (first : Int) + (root : Int) by omega, show ((first + (2 * root + 1) : Nat) : Int) = (first : Int) + (2 * (root : Int) + 1) by omega] at hs)
          go_roundg (hi - (2 * root + 1))
          case measure => omega
          case rel => exact ⟨2 * root + 1, swp dk (first + root) (first + (2 * root + 1)), by go_num, by omega, Nat.le_refl _, by rw [size_swp]; exact hds, S3, (show Hid _ from by rw [← HE.out, sd_left_go lt dk (by omega) (fun h => absurd h h1) hG]; exact rfl)⟩
        | false =>
          have hl2 := S.out.less HL.out hds hne hblk (first + root) (first + (2 * root + 1)) (by omega) (by omega) hG
          rw [show ((first + root : Nat) : Int) = (first : Int) + (root : Int) by omega, show ((first + (2 * root + 1) : Nat) : Int) = (first : Int) + (2 * (root : Int) + 1) by omega] at hl2
          go_wp2_with (go_at_fn g; refine hl2.mono ?_; rintro e w2 ⟨rfl, e0, e1, S2⟩)
          (try simp only [Exit.inBlock, Exit.then]); refine bodyPost_ret (results_none rfl _ _ _) rfl ?_
          refine ⟨rfl, ?_⟩
          rw [← HE.out, sd_left_stop lt dk (by omega) (fun h => absurd h h1) hG]
          exact S2.out.sw

set_option maxHeartbeats 4000000 in
set_option maxRecDepth 1000000 in
theorem heap (L : LaysGg.n27 P ρ) (enc : α → List Value) (k : Nat) (hk : ∀ x, (enc x).length = k) (lt : α → α → Bool) (g : Nat) (lb : Array Value) (sf : Nat) (sb : Array Value) (blk off a b : Nat) (d : Array α) (w : World)
    (eg : ∀ args w, (callFunc g args).run P w = .ok (.enter g args) w) (hless : LessLays P g lb enc k lt blk off d.size w) (hswap : SwapSwapsK P sf sb enc k blk off d.size)
    (hH : HoldsK enc k w blk off d) (hblk : blk < w.heap.size) (hab : a ≤ b) (hb : b ≤ d.size) (hsz : d.size < 4611686018427387904) :
    Calls P (ρ.f 27) #[.agg #[.func (.func g) #[] lb, .func (.func sf) #[] sb], .int .i64 a, .int .i64 b] w fun e w' => e = .returned (.tuple #[]) ∧ SWK enc k w blk off (heapSort lt d a b) w' := by
  have mixed := L.mixed; have t0 := L.t0; have a0 := L.a0; have z0 := L.z0; have v0 := L.v0; have t3 := L.t3; have a3 := L.a3; have z3 := L.z3; have v3 := L.v3; have t4 := L.t4; have a4 := L.a4; have z4 := L.z4; have v4 := L.v4; have t26 := L.t26; have a26 := L.a26; have z26 := L.z26; have v26 := L.v26; have t37 := L.t37; have a37 := L.a37; have z37 := L.z37; have v37 := L.v37; have t44 := L.t44; have a44 := L.a44; have z44 := L.z44; have v44 := L.v44
  have u44 := run_underlying L.t44
  have e34 : ∀ args w, (callFunc (ρ.f 34) args).run P w = .ok (.enter (ρ.f 34) args) w := enters_of L.f34 (by kernel_rfl) rfl
  have ecast : ((b - a : Nat) : Int) = (b : Int) - (a : Int) := by omega
  have hne : w.heap.size ≠ blk := by omega
  have HL : Aside _ := hless; have HS : Aside _ := hswap; have HH : Aside _ := hH
  clear hless hswap hH
  have SC : Aside (∀ (lo hi first : Nat) (dk : Array α) (W : World), St enc k w blk off w.heap.size (.func (.func g) #[] lb) (.func (.func sf) #[] sb) dk W → dk.size = d.size → lo ≤ hi → first + hi ≤ d.size →
      Calls P (ρ.f 34) #[.agg #[.func (.func g) #[] lb, .func (.func sf) #[] sb], .int .i64 lo, .int .i64 hi, .int .i64 first] W fun e w' => e = .returned (.tuple #[]) ∧ w'.cell? ⟨w.heap.size, 0, none⟩ = some (.func (.func g) #[] lb) ∧ w'.cell? ⟨w.heap.size, 1, none⟩ = some (.func (.func sf) #[] sb) ∧ Aside (St enc k w blk off w.heap.size (.func (.func g) #[] lb) (.func (.func sf) #[] sb) (siftDown lt hi first lo dk) w')) := fun lo hi first dk W S hs h1 h2 =>
    (sift (P := P) (ρ := ρ) { L with } enc k hk lt g lb sf sb blk off lo hi first dk W eg (by rw [hs]; exact (show LessLays P g lb enc k lt blk off d.size w from HL.out).at hblk S.sw hs) (by rw [hs]; exact HS.out) (S.holds HH.out hblk hs) (S.inb hblk) h1 (by omega) (by omega)).mono
      fun _ _ ⟨he, h⟩ => have T := S.step h (size_siftDown lt _ _ _ _ _ (Nat.le_refl _)) hne hblk; ⟨he, T.c0, T.c1, T⟩
  have hsf : ∀ (hi first lo : Nat) (dk : Array α), (siftDown lt hi first lo dk).size = dk.size := fun hi first lo dk => size_siftDown lt _ _ _ _ _ (Nat.le_refl _)
  have HSF : Aside _ := hsf
  clear hsf
  go_enter L.f27, BodyGg.n27_ntmps ρ
  go_wp2
  go_loopg [9] ((b - a - 1) / 2 + 1) (fun kx s9 wr => s9 = .int .i64 ((kx : Int) - 1) ∧ kx ≤ (b - a - 1) / 2 + 1 ∧ ∃ (dk : Array α), dk.size = d.size ∧ Aside (St enc k w blk off w.heap.size (.func (.func g) #[] lb) (.func (.func sf) #[] sb) dk wr) ∧
    Hid (heapBuild lt (b - a) a kx dk = heapBuild lt (b - a) a ((b - a - 1) / 2 + 1) d))
  case atStart => exact ⟨by rw [half_start hab], Nat.le_refl _, d, rfl, St.box HH.out _ _ _, rfl⟩
  case round =>
    obtain ⟨rfl, hkk, dk, hds, S, HE⟩ := hrel
    have c0 := S.out.c0; have c1 := S.out.c1
    cases gk with
    | zero =>
      have hB : Hid (dk = heapBuild lt (b - a) a ((b - a - 1) / 2 + 1) d) := HE.out
      clear HE hkk
      go_wp2
      go_loopg [10] (b - a) (fun kx s10 wr2 => s10 = .int .i64 ((kx : Int) - 1) ∧ kx ≤ b - a ∧ ∃ (dj : Array α), dj.size = d.size ∧ Aside (St enc k w blk off w.heap.size (.func (.func g) #[] lb) (.func (.func sf) #[] sb) dj wr2) ∧ Hid (heapPop lt a kx dj = heapPop lt a (b - a) dk))
      case atStart => exact ⟨by rw [ecast], Nat.le_refl _, dk, hds, S, rfl⟩
      case round =>
        clear S c0 c1
        obtain ⟨rfl, hkk, dj, hdj, S, HE2⟩ := hrel
        have c0 := S.out.c0; have c1 := S.out.c1
        cases gk with
        | zero =>
          go_wp2
          go_end0
          have e : dj = heapSort lt d a b := by rw [heapSort, ← hB.out, ← HE2.out]; rfl
          rw [← e]
          exact ⟨rfl, S.out.sw⟩
        | succ kx =>
          obtain ⟨w2, hs, d0, d1, S2⟩ := S.out.swap HS.out hk HH.out rfl hdj hne hblk a (a + kx) (by omega) (by omega)
          rw [show ((a + kx : Nat) : Int) = (a : Int) + (kx : Int) by omega] at hs
          have hd2 : (swp dj a (a + kx)).size = d.size := by rw [size_swp]; exact hdj
          have hcall := SC.out 0 kx a _ w2 S2.out hd2 (Nat.zero_le _) (by omega)
          go_wp2_with (go_at_fn (ρ.f 34); refine hcall.mono ?_; rintro e w1 ⟨rfl, e0, e1, S3⟩)
          go_roundg kx
          case measure => omega
          case rel => exact ⟨by simp, by omega, siftDown lt kx a 0 (swp dj a (a + kx)), by rw [HSF.out, hd2], S3, HE2⟩
    | succ kx =>
      have hcall := SC.out kx (b - a) a dk _ S.out hds (by omega) (by omega)
      rw [ecast] at hcall
      go_wp2_with (go_at_fn (ρ.f 34); refine hcall.mono ?_; rintro e w1 ⟨rfl, e0, e1, S3⟩)
      go_roundg kx
      case measure => omega
      case rel => exact ⟨by simp, by omega, siftDown lt (b - a) a kx dk, by rw [HSF.out, hds], S3, HE⟩
end Go.Proofs.Ytpggfdjnebccnaa.Srt
