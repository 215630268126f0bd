/- partitionEqual_func and partition_func with a 'less' that may lay blocks. Over any program. -/
import Derived.Test.YtpggfdjnebccnaaSrt0
namespace Go.Proofs.Ytpggfdjnebccnaa.Srt
open Go Go.Proofs Go.Shelf Go.RowKit Go.Lib Go.Sort
set_option linter.unusedVariables false
set_option linter.unusedSimpArgs false
variable {P : Program} {ρ : Ren} {α : Type} [Inhabited α]
set_option maxHeartbeats 12800000 in
set_option maxRecDepth 1000000 in
theorem partEq (L : LaysGg.n32 P ρ) (enc : α → List Value) (k : Nat) (hk : ∀ x, (enc x).length = k) (lt : α → α → Bool) (g : Nat) (lb : Array Value) (sf : Nat) (sb : Array Value) (blk off a b pivot : Nat) (d : Array α) (w : World)
    (eg : ∀ args w, (callFunc g args).run P w = .ok (.enter g args) w) (hless : LessLays P g lb enc k lt blk off d.size w) (hswap : SwapSwapsK P sf sb enc k blk off d.size)
    (hH : HoldsK enc k w blk off d) (hblk : blk < w.heap.size) (hap : a ≤ pivot) (hpb : pivot < b) (hb : b ≤ d.size) (hsz : d.size < 4611686018427387904) :
    Calls P (ρ.f 32) #[.agg #[.func (.func g) #[] lb, .func (.func sf) #[] sb], .int .i64 a, .int .i64 b, .int .i64 pivot] w fun e w' => e = .returned (.int .i64 (Sort.partitionEqual lt d a b pivot).1) ∧ SWK enc k w blk off (Sort.partitionEqual lt d a b pivot).2 w' := by
  have mixed := L.mixed; have t0 := L.t0; have a0 := L.a0; have z0 := L.z0; have v0 := L.v0; have t3 := L.t3; have a3 := L.a3; have z3 := L.z3; have v3 := L.v3; have t4 := L.t4; have a4 := L.a4; have z4 := L.z4; have v4 := L.v4; have t26 := L.t26; have a26 := L.a26; have z26 := L.z26; have v26 := L.v26; have t37 := L.t37; have a37 := L.a37; have z37 := L.z37; have v37 := L.v37; have t44 := L.t44; have a44 := L.a44; have z44 := L.z44; have v44 := L.v44
  have u44 := run_underlying L.t44
  have hne : w.heap.size ≠ blk := by omega
  obtain ⟨W1, hs0, c0, c1, S⟩ := (St.box (x := .func (.func g) #[] lb) (y := .func (.func sf) #[] sb) (t := ρ.t 44) hH).swap hswap hk hH rfl rfl hne hblk a pivot (by omega) (by omega)
  have HL : Aside _ := hless; have HS : Aside _ := hswap; have HH : Aside _ := hH
  clear hless hswap hH
  go_enter L.f32, BodyGg.n32_ntmps ρ
  go_wp2
  go_loopw [9, 10] (fun vi vj wr => ∃ (i j : Nat) (dk : Array α), vi = .int .i64 i ∧ vj = .int .i64 j ∧ a < i ∧ i ≤ j + 1 ∧ j < b ∧ dk.size = d.size ∧ Aside (St enc k w blk off w.heap.size (.func (.func g) #[] lb) (.func (.func sf) #[] sb) dk wr) ∧ Hid (Sort.partEqLoop lt a i j dk = Sort.partEqLoop lt a (a + 1) (b - 1) (Sort.swp d a pivot))) (fun vi vj _ => (intOf vj).toNat + 1 - (intOf vi).toNat)
  case atStart => exact ⟨a + 1, b - 1, Sort.swp d a pivot, by go_num, by go_num, by omega, by omega, by omega, size_swp _ _ _, S, rfl⟩
  case round =>
    clear hs0 S c0 c1
    obtain ⟨i, j, dk, rfl, rfl, hai, hij, hjb, hs, S, AE⟩ := hrel
    have c0 := S.out.c0; have c1 := S.out.c1
    go_wp2
    go_loopw [9] (fun vi w1 => ∃ (i' : Nat), vi = .int .i64 i' ∧ i ≤ i' ∧ i' ≤ j + 1 ∧ Aside (St enc k w blk off w.heap.size (.func (.func g) #[] lb) (.func (.func sf) #[] sb) dk w1) ∧ Hid (Sort.scanUp (fun x => !lt dk[a]! x) dk j i' = Sort.scanUp (fun x => !lt dk[a]! x) dk j i)) (fun vi _ => j + 1 - (intOf vi).toNat)
    case atStart => exact ⟨i, rfl, Nat.le_refl _, hij, S, rfl⟩
    case round =>
      clear S c0 c1
      obtain ⟨i', rfl, hii, hij', S1, hsc⟩ := hrel
      have c0 := S1.out.c0; have c1 := S1.out.c1
      by_cases hle : i' ≤ j
      · have hlez : (i' : Int) ≤ (j : Int) := by omega
        cases hlv : lt dk[a]! dk[i']! with
        | false =>
          have hl := S1.out.less HL.out hs hne hblk a i' (by omega) (by omega) hlv
          go_wp2_with (go_at_fn g; refine hl.mono ?_; rintro e w1 ⟨rfl, d0, d1, S2⟩)
          go_roundw
          case rel => exact ⟨i' + 1, by go_num, by omega, by omega, S2, (scanUp_go (fun x => !lt dk[a]! x) dk j i' hle (by simp [hlv])).symm.trans hsc.out⟩
          case measure => simp [intOf]; omega
        | true =>
          have hi2 : Hid (i' = Sort.scanUp (fun x => !lt dk[a]! x) dk j i) := (scanUp_end (fun x => !lt dk[a]! x) dk j i' (Or.inr (by simp [hlv]))).symm.trans hsc.out
          have hl := S1.out.less HL.out hs hne hblk a i' (by omega) (by omega) hlv
          go_wp2_with (go_at_fn g; refine hl.mono ?_; rintro e w1 ⟨rfl, d0, d1, S2⟩)
          clear hl S1 c0 c1 hsc
          go_loopw [10] (fun vj w2 => ∃ (j' : Nat), vj = .int .i64 j' ∧ j' ≤ j ∧ i' ≤ j' + 1 ∧ Aside (St enc k w blk off w.heap.size (.func (.func g) #[] lb) (.func (.func sf) #[] sb) dk w2) ∧ Hid (Sort.scanDown (fun x => lt dk[a]! x) dk i' j' = Sort.scanDown (fun x => lt dk[a]! x) dk i' j)) (fun vj _ => (intOf vj).toNat)
          case atStart => exact ⟨j, rfl, Nat.le_refl _, hij', S2, rfl⟩
          case round =>
            obtain ⟨j', rfl, hjj, hij2, S2, hsd⟩ := hrel
            have q0 := S2.out.c0; have q1 := S2.out.c1
            by_cases hle2 : i' ≤ j'
            · have hle2z : (i' : Int) ≤ (j' : Int) := by omega
              cases hlv2 : lt dk[a]! dk[j']! with
              | true =>
                have hl := S2.out.less HL.out hs hne hblk a j' (by omega) (by omega) hlv2
                go_wp2_with (go_at_fn g; refine hl.mono ?_; rintro e w1 ⟨rfl, d0, d1, S3⟩)
                go_roundw
                case rel => exact ⟨j' - 1, by go_num, by omega, by omega, S3, (scanDown_go (fun x => lt dk[a]! x) dk i' j' hle2 (by omega) (by simp [hlv2])).symm.trans hsd.out⟩
                case measure => simp [intOf]; omega
              | false =>
                have hj2 : Hid (j' = Sort.scanDown (fun x => lt dk[a]! x) dk i' j) := (scanDown_end (fun x => lt dk[a]! x) dk i' j' (Or.inr (by simp [hlv2]))).symm.trans hsd.out
                have hlt3 := scans_lt lt a i j dk (by omega) hi2.out hj2.out hle2
                have hl := S2.out.less HL.out hs hne hblk a j' (by omega) (by omega) hlv2
                go_wp2_with (go_at_fn g; refine hl.mono ?_; rintro e w1 ⟨rfl, d0, d1, S3⟩; obtain ⟨w2, hsx, e0, e1, S4⟩ := S3.out.swap HS.out hk HH.out rfl hs hne hblk i' j' (by omega) (by omega))
                go_roundw
                case rel => exact ⟨i' + 1, j' - 1, Sort.swp dk i' j', by go_num, by go_num, by omega, by omega, by omega, by rw [size_swp]; exact hs, S4, (show Hid _ from by rw [← AE.out, partEq_go lt a i j dk hi2.out hj2.out (by omega)]; exact rfl)⟩
                case measure => simp [intOf]; omega
            · have hle2z : ¬ (i' : Int) ≤ (j' : Int) := by omega
              have hj2 : Hid (j' = Sort.scanDown (fun x => lt dk[a]! x) dk i' j) := (scanDown_end (fun x => lt dk[a]! x) dk i' j' (Or.inl hle2)).symm.trans hsd.out
              go_wp2
              go_ret
              have e := partEq_break lt a i j dk hi2.out hj2.out (by omega)
              unfold Sort.partitionEqual; rw [← AE.out, e]
              exact ⟨rfl, S2.out.sw⟩
      · have hlez : ¬ (i' : Int) ≤ (j : Int) := by omega
        have hi2 : Hid (i' = Sort.scanUp (fun x => !lt dk[a]! x) dk j i) := (scanUp_end (fun x => !lt dk[a]! x) dk j i' (Or.inl hle)).symm.trans hsc.out
        go_wp2
        go_loopw [10] (fun vj w2 => ∃ (j' : Nat), vj = .int .i64 j' ∧ j' ≤ j ∧ i' ≤ j' + 1 ∧ Aside (St enc k w blk off w.heap.size (.func (.func g) #[] lb) (.func (.func sf) #[] sb) dk w2) ∧ Hid (Sort.scanDown (fun x => lt dk[a]! x) dk i' j' = Sort.scanDown (fun x => lt dk[a]! x) dk i' j)) (fun vj _ => (intOf vj).toNat)
        case atStart => exact ⟨j, rfl, Nat.le_refl _, hij', S1, rfl⟩
        case round =>
          obtain ⟨j', rfl, hjj, hij2, S2, hsd⟩ := hrel
          have q0 := S2.out.c0; have q1 := S2.out.c1
          by_cases hle2 : i' ≤ j'
          · exfalso; omega
          · have hle2z : ¬ (i' : Int) ≤ (j' : Int) := by omega
            have hj2 : Hid (j' = Sort.scanDown (fun x => lt dk[a]! x) dk i' j) := (scanDown_end (fun x => lt dk[a]! x) dk i' j' (Or.inl hle2)).symm.trans hsd.out
            go_wp2
            go_ret
            have e := partEq_break lt a i j dk hi2.out hj2.out (by omega)
            unfold Sort.partitionEqual; rw [← AE.out, e]
            exact ⟨rfl, S2.out.sw⟩

set_option maxHeartbeats 12800000 in
set_option maxRecDepth 1000000 in
theorem part (L : LaysGg.n33 P ρ) (enc : α → List Value) (k : Nat) (hk : ∀ x, (enc x).length = k) (lt : α → α → Bool) (g : Nat) (lb : Array Value) (sf : Nat) (sb : Array Value) (blk off a b pivot : Nat) (d : Array α) (w : World)
    (eg : ∀ args w, (callFunc g args).run P w = .ok (.enter g args) w) (hless : LessLays P g lb enc k lt blk off d.size w) (hswap : SwapSwapsK P sf sb enc k blk off d.size)
    (hH : HoldsK enc k w blk off d) (hblk : blk < w.heap.size) (hap : a ≤ pivot) (hpb : pivot < b) (hb : b ≤ d.size) (hsz : d.size < 4611686018427387904) :
    Calls P (ρ.f 33) #[.agg #[.func (.func g) #[] lb, .func (.func sf) #[] sb], .int .i64 a, .int .i64 b, .int .i64 pivot] w fun e w' => e = .returned (.tuple #[.int .i64 (Sort.partition lt d a b pivot).1, .bool (Sort.partition lt d a b pivot).2.1]) ∧ SWK enc k w blk off (Sort.partition lt d a b pivot).2.2 w' := by
  have mixed := L.mixed; have t0 := L.t0; have a0 := L.a0; have z0 := L.z0; have v0 := L.v0; have t3 := L.t3; have a3 := L.a3; have z3 := L.z3; have v3 := L.v3; have t4 := L.t4; have a4 := L.a4; have z4 := L.z4; have v4 := L.v4; have t26 := L.t26; have a26 := L.a26; have z26 := L.z26; have v26 := L.v26; have t37 := L.t37; have a37 := L.a37; have z37 := L.z37; have v37 := L.v37; have t44 := L.t44; have a44 := L.a44; have z44 := L.z44; have v44 := L.v44
  have u44 := run_underlying L.t44
  have hne : w.heap.size ≠ blk := by omega
  obtain ⟨W1, hs0, c0, c1, S⟩ := (St.box (x := .func (.func g) #[] lb) (y := .func (.func sf) #[] sb) (t := ρ.t 44) hH).swap hswap hk hH rfl rfl hne hblk a pivot (by omega) (by omega)
  have HL : Aside _ := hless; have HS : Aside _ := hswap; have HH : Aside _ := hH
  clear hless hswap hH
  obtain ⟨i, hi⟩ : ∃ i : Nat, i = a + 1 := ⟨_, rfl⟩
  obtain ⟨j, hj⟩ : ∃ j : Nat, j = b - 1 := ⟨_, rfl⟩
  obtain ⟨dk, hdk⟩ : ∃ dk : Array α, dk = Sort.swp d a pivot := ⟨_, rfl⟩
  rw [← hdk] at S
  have hs : dk.size = d.size := by rw [hdk]; exact size_swp _ _ _
  have hai : a < i := by omega
  have hij : i ≤ j + 1 := by omega
  have hjb : j < b := by omega
  have Hi : Hid (i = a + 1) := hi
  have Hj : Hid (j = b - 1) := hj
  have Hdk : Hid (dk = Sort.swp d a pivot) := hdk
  clear hi hj hdk
  go_enter L.f33, BodyGg.n33_ntmps ρ
  go_wp2
  rw [show ((a : Int) + 1) = (i : Int) by have := Hi.out; omega, show ((b : Int) - 1) = (j : Int) by have := Hj.out; omega]
  go_loopw [10] (fun vi w1 => ∃ (i' : Nat), vi = .int .i64 i' ∧ i ≤ i' ∧ i' ≤ j + 1 ∧ Aside (St enc k w blk off w.heap.size (.func (.func g) #[] lb) (.func (.func sf) #[] sb) dk w1) ∧ Hid (Sort.scanUp (fun x => lt x dk[a]!) dk j i' = Sort.scanUp (fun x => lt x dk[a]!) dk j i)) (fun vi _ => j + 1 - (intOf vi).toNat)
  case atStart => exact ⟨i, rfl, Nat.le_refl _, hij, S, rfl⟩
  case round =>
    clear S c0 c1
    obtain ⟨i', rfl, hii, hij', S1, hsc⟩ := hrel
    have c0 := S1.out.c0; have c1 := S1.out.c1
    by_cases hle : i' ≤ j
    · have hlez : (i' : Int) ≤ (j : Int) := by omega
      cases hlv : lt dk[i']! dk[a]! with
      | true =>
        have hl := S1.out.less HL.out hs hne hblk i' a (by omega) (by omega) hlv
        go_wp2_with (go_at_fn g; refine hl.mono ?_; rintro e w1 ⟨rfl, d0, d1, S2⟩)
        go_roundw
        case rel => exact ⟨i' + 1, by go_num, by omega, by omega, S2, (scanUp_go (fun x => lt x dk[a]!) dk j i' hle (by simp [hlv])).symm.trans hsc.out⟩
        case measure => simp [intOf]; omega
      | false =>
        have hi2 : Hid (i' = Sort.scanUp (fun x => lt x dk[a]!) dk j i) := (scanUp_end (fun x => lt x dk[a]!) dk j i' (Or.inr (by simp [hlv]))).symm.trans hsc.out
        have hl := S1.out.less HL.out hs hne hblk i' a (by omega) (by omega) hlv
        go_wp2_with (go_at_fn g; refine hl.mono ?_; rintro e w1 ⟨rfl, d0, d1, S2⟩)
        clear hl S1 c0 c1 hsc
        go_loopw [11] (fun vj w2 => ∃ (j' : Nat), vj = .int .i64 j' ∧ j' ≤ j ∧ i' ≤ j' + 1 ∧ Aside (St enc k w blk off w.heap.size (.func (.func g) #[] lb) (.func (.func sf) #[] sb) dk w2) ∧ Hid (Sort.scanDown (fun x => !lt x dk[a]!) dk i' j' = Sort.scanDown (fun x => !lt x dk[a]!) dk i' j)) (fun vj _ => (intOf vj).toNat)
        case atStart => exact ⟨j, rfl, Nat.le_refl _, hij', S2, rfl⟩
        case round =>
          obtain ⟨j', rfl, hjj, hij2, S2, hsd⟩ := hrel
          have q0 := S2.out.c0; have q1 := S2.out.c1
          by_cases hle2 : i' ≤ j'
          · have hle2z : (i' : Int) ≤ (j' : Int) := by omega
            cases hlv2 : lt dk[j']! dk[a]! with
            | false =>
              have hl := S2.out.less HL.out hs hne hblk j' a (by omega) (by omega) hlv2
              go_wp2_with (go_at_fn g; refine hl.mono ?_; rintro e w1 ⟨rfl, d0, d1, S3⟩)
              go_roundw
              case rel => exact ⟨j' - 1, by go_num, by omega, by omega, S3, (scanDown_go (fun x => !lt x dk[a]!) dk i' j' hle2 (by omega) (by simp [hlv2])).symm.trans hsd.out⟩
              case measure => simp [intOf]; omega
            | true =>
              have hj2 : Hid (j' = Sort.scanDown (fun x => !lt x dk[a]!) dk i' j) := (scanDown_end (fun x => !lt x dk[a]!) dk i' j' (Or.inr (by simp [hlv2]))).symm.trans hsd.out
              have hlt3 := part_scans_lt lt a i j dk (by omega) hi2.out hj2.out hle2
              have hl := S2.out.less HL.out hs hne hblk j' a (by omega) (by omega) hlv2
              go_wp2_with (go_at_fn g; refine hl.mono ?_; rintro e w1 ⟨rfl, d0, d1, S3⟩; obtain ⟨w2, hsx, e0, e1, S4⟩ := S3.out.swap HS.out hk HH.out rfl hs hne hblk i' j' (by omega) (by omega))
              rw [decide_eq_false (show ¬ j' < i' by omega)]
              obtain ⟨I0, hI0⟩ : ∃ I0 : Nat, I0 = i' + 1 := ⟨_, rfl⟩
              obtain ⟨J0, hJ0⟩ : ∃ J0 : Nat, J0 = j' - 1 := ⟨_, rfl⟩
              obtain ⟨D0, hD0⟩ : ∃ D0 : Array α, D0 = Sort.swp dk i' j' := ⟨_, rfl⟩
              have PF : Hid (Sort.partition lt d a b pivot = ((Sort.partLoop lt a I0 J0 D0).1, false, Sort.swp (Sort.partLoop lt a I0 J0 D0).2 (Sort.partLoop lt a I0 J0 D0).1 a)) := by
                rw [hI0, hJ0, hD0]; exact part_first_go lt d a b pivot Hi.out Hj.out Hdk.out hi2.out hj2.out (by omega)
              go_loopw [10, 11] (fun vi vj wr => ∃ (i j : Nat) (dk : Array α), vi = .int .i64 i ∧ vj = .int .i64 j ∧ a < i ∧ i ≤ j + 1 ∧ j < b ∧ dk.size = d.size ∧ Aside (St enc k w blk off w.heap.size (.func (.func g) #[] lb) (.func (.func sf) #[] sb) dk wr) ∧ Hid (Sort.partLoop lt a i j dk = Sort.partLoop lt a I0 J0 D0)) (fun vi vj _ => (intOf vj).toNat + 1 - (intOf vi).toNat)
              case atStart => exact ⟨i' + 1, j' - 1, Sort.swp dk i' j', by go_num, by go_num, by omega, by omega, by omega, by rw [size_swp]; exact hs, S4, (show Hid _ from by rw [hI0, hJ0, hD0]; exact rfl)⟩
              case round =>
                clear hI0 hJ0 hD0 hj2 hi2 hlt3 hl hsx Hi Hj Hdk hs S2 S3 S4 d0 d1 e0 e1 q0 q1
                obtain ⟨i, j, dk, rfl, rfl, hai, hij, hjb, hs, S, AE⟩ := hrel
                have c0 := S.out.c0; have c1 := S.out.c1
                go_wp2
                go_loopw [10] (fun vi w1 => ∃ (i' : Nat), vi = .int .i64 i' ∧ i ≤ i' ∧ i' ≤ j + 1 ∧ Aside (St enc k w blk off w.heap.size (.func (.func g) #[] lb) (.func (.func sf) #[] sb) dk w1) ∧ Hid (Sort.scanUp (fun x => lt x dk[a]!) dk j i' = Sort.scanUp (fun x => lt x dk[a]!) dk j i)) (fun vi _ => j + 1 - (intOf vi).toNat)
                case atStart => exact ⟨i, rfl, Nat.le_refl _, hij, S, rfl⟩
                case round =>
                  clear S c0 c1
                  obtain ⟨i', rfl, hii, hij', S1, hsc⟩ := hrel
                  have c0 := S1.out.c0; have c1 := S1.out.c1
                  by_cases hle : i' ≤ j
                  · have hlez : (i' : Int) ≤ (j : Int) := by omega
                    cases hlv : lt dk[i']! dk[a]! with
                    | true =>
                      have hl := S1.out.less HL.out hs hne hblk i' a (by omega) (by omega) hlv
                      go_wp2_with (go_at_fn g; refine hl.mono ?_; rintro e w1 ⟨rfl, d0, d1, S2⟩)
                      go_roundw
                      case rel => exact ⟨i' + 1, by go_num, by omega, by omega, S2, (scanUp_go (fun x => lt x dk[a]!) dk j i' hle (by simp [hlv])).symm.trans hsc.out⟩
                      case measure => simp [intOf]; omega
                    | false =>
                      have hi2 : Hid (i' = Sort.scanUp (fun x => lt x dk[a]!) dk j i) := (scanUp_end (fun x => lt x dk[a]!) dk j i' (Or.inr (by simp [hlv]))).symm.trans hsc.out
                      have hl := S1.out.less HL.out hs hne hblk i' a (by omega) (by omega) hlv
                      go_wp2_with (go_at_fn g; refine hl.mono ?_; rintro e w1 ⟨rfl, d0, d1, S2⟩)
                      clear hl S1 c0 c1 hsc
                      go_loopw [11] (fun vj w2 => ∃ (j' : Nat), vj = .int .i64 j' ∧ j' ≤ j ∧ i' ≤ j' + 1 ∧ Aside (St enc k w blk off w.heap.size (.func (.func g) #[] lb) (.func (.func sf) #[] sb) dk w2) ∧ Hid (Sort.scanDown (fun x => !lt x dk[a]!) dk i' j' = Sort.scanDown (fun x => !lt x dk[a]!) dk i' j)) (fun vj _ => (intOf vj).toNat)
                      case atStart => exact ⟨j, rfl, Nat.le_refl _, hij', S2, rfl⟩
                      case round =>
                        obtain ⟨j', rfl, hjj, hij2, S2, hsd⟩ := hrel
                        have q0 := S2.out.c0; have q1 := S2.out.c1
                        by_cases hle2 : i' ≤ j'
                        · have hle2z : (i' : Int) ≤ (j' : Int) := by omega
                          cases hlv2 : lt dk[j']! dk[a]! with
                          | false =>
                            have hl := S2.out.less HL.out hs hne hblk j' a (by omega) (by omega) hlv2
                            go_wp2_with (go_at_fn g; refine hl.mono ?_; rintro e w1 ⟨rfl, d0, d1, S3⟩)
                            go_roundw
                            case rel => exact ⟨j' - 1, by go_num, by omega, by omega, S3, (scanDown_go (fun x => !lt x dk[a]!) dk i' j' hle2 (by omega) (by simp [hlv2])).symm.trans hsd.out⟩
                            case measure => simp [intOf]; omega
                          | true =>
                            have hj2 : Hid (j' = Sort.scanDown (fun x => !lt x dk[a]!) dk i' j) := (scanDown_end (fun x => !lt x dk[a]!) dk i' j' (Or.inr (by simp [hlv2]))).symm.trans hsd.out
                            have hlt3 := part_scans_lt lt a i j dk (by omega) hi2.out hj2.out hle2
                            have hl := S2.out.less HL.out hs hne hblk j' a (by omega) (by omega) hlv2
                            go_wp2_with (go_at_fn g; refine hl.mono ?_; rintro e w1 ⟨rfl, d0, d1, S3⟩; obtain ⟨w2, hsx, e0, e1, S4⟩ := S3.out.swap HS.out hk HH.out rfl hs hne hblk i' j' (by omega) (by omega))
                            go_roundw
                            case rel => exact ⟨i' + 1, j' - 1, Sort.swp dk i' j', by go_num, by go_num, by omega, by omega, by omega, by rw [size_swp]; exact hs, S4, (show Hid _ from by rw [← AE.out, part_go lt a i j dk hi2.out hj2.out (by omega)]; exact rfl)⟩
                            case measure => simp [intOf]; omega
                        · have hle2z : ¬ (i' : Int) ≤ (j' : Int) := by omega
                          have hj2 : Hid (j' = Sort.scanDown (fun x => !lt x dk[a]!) dk i' j) := (scanDown_end (fun x => !lt x dk[a]!) dk i' j' (Or.inl hle2)).symm.trans hsd.out
                          obtain ⟨w3, hsy, e0, e1, S5⟩ := S2.out.swap HS.out hk HH.out rfl hs hne hblk j' a (by omega) (by omega)
                          go_wp2
                          go_ret2
                          have e := part_break lt a i j dk hi2.out hj2.out (by omega)
                          rw [PF.out, ← AE.out, e]
                          exact ⟨rfl, S5.out.sw⟩
                  · have hlez : ¬ (i' : Int) ≤ (j : Int) := by omega
                    have hi2 : Hid (i' = Sort.scanUp (fun x => lt x dk[a]!) dk j i) := (scanUp_end (fun x => lt x dk[a]!) dk j i' (Or.inl hle)).symm.trans hsc.out
                    go_wp2
                    go_loopw [11] (fun vj w2 => ∃ (j' : Nat), vj = .int .i64 j' ∧ j' ≤ j ∧ i' ≤ j' + 1 ∧ Aside (St enc k w blk off w.heap.size (.func (.func g) #[] lb) (.func (.func sf) #[] sb) dk w2) ∧ Hid (Sort.scanDown (fun x => !lt x dk[a]!) dk i' j' = Sort.scanDown (fun x => !lt x dk[a]!) dk i' j)) (fun vj _ => (intOf vj).toNat)
                    case atStart => exact ⟨j, rfl, Nat.le_refl _, hij', S1, rfl⟩
                    case round =>
                      obtain ⟨j', rfl, hjj, hij2, S2, hsd⟩ := hrel
                      have q0 := S2.out.c0; have q1 := S2.out.c1
                      by_cases hle2 : i' ≤ j'
                      · exfalso; omega
                      · have hle2z : ¬ (i' : Int) ≤ (j' : Int) := by omega
                        have hj2 : Hid (j' = Sort.scanDown (fun x => !lt x dk[a]!) dk i' j) := (scanDown_end (fun x => !lt x dk[a]!) dk i' j' (Or.inl hle2)).symm.trans hsd.out
                        obtain ⟨w3, hsy, e0, e1, S5⟩ := S2.out.swap HS.out hk HH.out rfl hs hne hblk j' a (by omega) (by omega)
                        go_wp2
                        go_ret2
                        have e := part_break lt a i j dk hi2.out hj2.out (by omega)
                        rw [PF.out, ← AE.out, e]
                        exact ⟨rfl, S5.out.sw⟩
          · have hle2z : ¬ (i' : Int) ≤ (j' : Int) := by omega
            have hj2 : Hid (j' = Sort.scanDown (fun x => !lt x dk[a]!) dk i' j) := (scanDown_end (fun x => !lt x dk[a]!) dk i' j' (Or.inl hle2)).symm.trans hsd.out
            obtain ⟨w3, hsy, e0, e1, S5⟩ := S2.out.swap HS.out hk HH.out rfl hs hne hblk j' a (by omega) (by omega)
            go_wp2
            go_ret2
            have e := part_first_break lt d a b pivot Hi.out Hj.out Hdk.out hi2.out hj2.out (by omega)
            rw [e]
            exact ⟨rfl, S5.out.sw⟩
    · have hlez : ¬ (i' : Int) ≤ (j : Int) := by omega
      have hi2 : Hid (i' = Sort.scanUp (fun x => lt x dk[a]!) dk j i) := (scanUp_end (fun x => lt x dk[a]!) dk j i' (Or.inl hle)).symm.trans hsc.out
      go_wp2
      go_loopw [11] (fun vj w2 => ∃ (j' : Nat), vj = .int .i64 j' ∧ j' ≤ j ∧ i' ≤ j' + 1 ∧ Aside (St enc k w blk off w.heap.size (.func (.func g) #[] lb) (.func (.func sf) #[] sb) dk w2) ∧ Hid (Sort.scanDown (fun x => !lt x dk[a]!) dk i' j' = Sort.scanDown (fun x => !lt x dk[a]!) dk i' j)) (fun vj _ => (intOf vj).toNat)
      case atStart => exact ⟨j, rfl, Nat.le_refl _, hij', S1, rfl⟩
      case round =>
        obtain ⟨j', rfl, hjj, hij2, S2, hsd⟩ := hrel
        have q0 := S2.out.c0; have q1 := S2.out.c1
        by_cases hle2 : i' ≤ j'
        · exfalso; omega
        · have hle2z : ¬ (i' : Int) ≤ (j' : Int) := by omega
          have hj2 : Hid (j' = Sort.scanDown (fun x => !lt x dk[a]!) dk i' j) := (scanDown_end (fun x => !lt x dk[a]!) dk i' j' (Or.inl hle2)).symm.trans hsd.out
          obtain ⟨w3, hsy, e0, e1, S5⟩ := S2.out.swap HS.out hk HH.out rfl hs hne hblk j' a (by omega) (by omega)
          go_wp2
          go_ret2
          have e := part_first_break lt d a b pivot Hi.out Hj.out Hdk.out hi2.out hj2.out (by omega)
          rw [e]
          exact ⟨rfl, S5.out.sw⟩
end Go.Proofs.Ytpggfdjnebccnaa.Srt
