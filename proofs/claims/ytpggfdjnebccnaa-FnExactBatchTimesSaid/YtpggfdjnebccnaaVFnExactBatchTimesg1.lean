/- A function of the program with a map and a sort: as a plain Lean function, with its contract. -/
import Derived.Test.YtpggfdjnebccnaaVFnExactBatchTimesw
import Derived.Test.YtpggfdjnebccnaaVFnExactBatchTimesp0
namespace Go.Proofs.Ytpggfdjnebccnaa.PFnExactBatchTimes
open Go.RowKit Go.Proofs.YtpggfdjnebccnaaW.PrintWords Go.Proofs.YtpggfdjnebccnaaW.PrintLast Go.Proofs.YtpggfdjnebccnaaW.PrintMore
attribute [local go_sem] max2_int min2_int max_two min_two max_three min_three max_four min_four
set_option linter.unusedVariables false
set_option linter.unusedSimpArgs false

def nums90 (a : Int) : Nat → List S90
 | 0 => []
 | n + 1 => ⟨a, a + 1, ⟨a + 2, a + 3⟩, a + 4⟩ :: nums90 (a + 5) n
theorem nums90_len (n : Nat) : ∀ a, (nums90 a n).length = n := by
 induction n with
 | zero => intro a; rfl
 | succ n ih => intro a; simp [nums90, ih]
theorem nums90_snoc (n : Nat) : ∀ a, nums90 a (n + 1) = nums90 a n ++ [⟨a + 5 * n, a + 5 * n + 1, ⟨a + 5 * n + 2, a + 5 * n + 3⟩, a + 5 * n + 4⟩] := by
 induction n with
 | zero => intro a; simp [nums90]
 | succ n ih =>
  intro a
  rw [nums90, ih]
  simp only [nums90, List.cons_append, List.cons.injEq, true_and]
  have e : a + 5 + 5 * (n : Int) = a + 5 * ((n + 1 : Nat) : Int) := by omega
  rw [e]
def laws_markRowS.f (l0 : List S90) (a1 : Int) : Option (Int × List S90) := if l0.length ≤ 2000000 ∧ 0 ≤ a1 ∧ a1 ≤ 100000000 then some (a1 + 5 * (l0.length : Int), nums90 a1 l0.length) else none
set_option maxHeartbeats 8000000 in
set_option maxRecDepth 100000 in
theorem laws_markRowS.calls (P0_ : Nat → Prop) (u9000_ : Value) (l0 : List S90) (a1 : Int) (r1 : Int) (r2 : List S90) (w0 w : World) (hB : RowKit.Below w0.heap.size w0 w) (ho0 : Kd.R k90 90 w w0.heap.size P0_ u9000_ l0) (h : laws_markRowS.f l0 a1 = some (r1, r2)) :
  Calls Try.prog 54 #[u9000_, .int .i64 a1] w fun e w' => e = .returned (.int .i64 r1) ∧ Kd.R k90 90 w' w0.heap.size (fun k_ => (P0_ k_ ∨ w.heap.size ≤ k_)) u9000_ r2 ∧ RowKit.Below w0.heap.size w0 w' ∧ Kept w w' (fun k_ => P0_ k_) := by
 unfold laws_markRowS.f at h
 split at h
 case isFalse => cases h
 rename_i hlim
 obtain ⟨hl, h0, h1⟩ := hlim
 obtain ⟨hr1, hr2⟩ := Prod.mk.inj (Option.some.inj h)
 clear h
 have HO0 := Aside0.mk (show Kd.R k90 90 w w0.heap.size (fun k_ => (P0_ k_ ∨ w.heap.size ≤ k_)) u9000_ l0 from Kd.R_mono ho0 (fun k_ hk => (.inl hk)))
 have HK := Aside0.mk (Kept.refl w (fun k_ => P0_ k_))
 have HB := Aside0.mk hB
 have HR1 := Aside0.mk hr1
 have HR2 := Aside0.mk hr2
 have HL := Aside0.mk (And.intro hl (And.intro h0 h1))
 clear hB ho0 hr1 hr2 hl h0 h1
 obtain ⟨A, c, eu⟩ := Kd.R_slice HO0.out
 subst eu
 go_enter Try.func54, Try.ntmps54
 go_wp2
 go_loopw [1, 5] (fun v1 v5 wr => ∃ (kk : Nat), v1 = .int .i64 (a1 + 5 * (kk : Int)) ∧ v5 = .int .i64 (kk : Int) ∧ kk ≤ l0.length ∧ Aside0 (Kd.R k90 90 wr w0.heap.size (fun k_ => (P0_ k_ ∨ w.heap.size ≤ k_)) (.slice A l0.length c) (nums90 a1 kk ++ l0.drop kk)) ∧ Aside0 (Kept w wr (fun k_ => P0_ k_)) ∧ Aside0 (RowKit.Below w0.heap.size w0 wr)) (fun _ v5 _ => l0.length - (intOf v5).toNat)
 case atStart => exact ⟨0, by simp, rfl, Nat.zero_le _, ⟨by simpa [nums90] using HO0.out⟩, HK, HB⟩
 case round =>
  clear HO0 HK HB
  obtain ⟨kk, rfl, rfl, hk, HO, HK, HB⟩ := hrel
  by_cases hlt : kk < l0.length
  ·have c0b : decide ((kk : Int) < (l0.length : Int)) = true := decide_eq_true (by omega)
   have p5 : 0 ≤ (kk : Int) := by omega
   have q5 : (kk : Int) < (l0.length : Int) := by omega
   have hlim := HL.out
   obtain ⟨go5, co5, eo5, gb5, gl5, cl5, HG5⟩ := Kd.R_form HO.out (by simp [nums90_len]; omega)
   injection eo5 with ea_ en_ ec_
   subst ea_ ec_
   clear en_
   have GB := Aside0.mk gb5
   obtain ⟨ce5, hcl5, hM5, hcc5, hfr5⟩ := Kd.R_elem HO.out z90 (kk : Int) p5 q5
   have hne := HO.out.1 go5 rfl
   have hf0 : wr.frozen? ⟨go5, kk * 5, none⟩ = false := hfr5 0
   have hf1 : wr.frozen? ⟨go5, kk * 5 + 1, none⟩ = false := hfr5 1
   have hf2 : wr.frozen? ⟨go5, kk * 5 + 2, none⟩ = false := hfr5 2
   have hf3 : wr.frozen? ⟨go5, kk * 5 + 3, none⟩ = false := hfr5 3
   have hf4 : wr.frozen? ⟨go5, kk * 5 + 4, none⟩ = false := hfr5 4
   obtain rfl := k90_openM hM5
   have hx0 : wr.cell? ⟨go5, kk * 5, none⟩ = some _ := hcc5 0 _ rfl
   have hx1 : wr.cell? ⟨go5, kk * 5 + 1, none⟩ = some _ := hcc5 1 _ rfl
   have hx2 : wr.cell? ⟨go5, kk * 5 + 2, none⟩ = some _ := hcc5 2 _ rfl
   have hx3 : wr.cell? ⟨go5, kk * 5 + 3, none⟩ = some _ := hcc5 3 _ rfl
   have hx4 : wr.cell? ⟨go5, kk * 5 + 4, none⟩ = some _ := hcc5 4 _ rfl
   replace p5 := eq_true p5
   replace q5 := eq_true q5
   have hset : (nums90 a1 kk ++ l0.drop kk).set kk (⟨a1 + 5 * (kk : Int), a1 + 5 * (kk : Int) + 1, ⟨a1 + 5 * (kk : Int) + 1 + 1, a1 + 5 * (kk : Int) + 1 + 1 + 1⟩, a1 + 5 * (kk : Int) + 1 + 1 + 1 + 1⟩ : S90) = nums90 a1 (kk + 1) ++ l0.drop (kk + 1) := by
    have e : nums90 a1 (kk + 1) = nums90 a1 kk ++ [⟨a1 + 5 * (kk : Int), a1 + 5 * (kk : Int) + 1, ⟨a1 + 5 * (kk : Int) + 1 + 1, a1 + 5 * (kk : Int) + 1 + 1 + 1⟩, a1 + 5 * (kk : Int) + 1 + 1 + 1 + 1⟩] := by
     rw [nums90_snoc]
     simp only [List.append_cancel_left_eq, List.cons.injEq, S90.mk.injEq, S36.mk.injEq, and_true, true_and]
     omega
    rw [e, List.set_append_right _ _ (by rw [nums90_len]; omega), nums90_len, Nat.sub_self, List.drop_eq_getElem_cons hlt, List.set_cons_zero]
    simp
   have HP := Kd.R_seg HO.out (kk : Int) (by omega) (by omega) (seg := [.int .i64 (a1 + 5 * (kk : Int)), .int .i64 (a1 + 5 * (kk : Int) + 1), .int .i64 (a1 + 5 * (kk : Int) + 1 + 1), .int .i64 (a1 + 5 * (kk : Int) + 1 + 1 + 1), .int .i64 (a1 + 5 * (kk : Int) + 1 + 1 + 1 + 1)]) (j := 0) hcl5 hcc5 (show 0 + 5 ≤ 5 from by decide) (x' := (⟨a1 + 5 * (kk : Int), a1 + 5 * (kk : Int) + 1, ⟨a1 + 5 * (kk : Int) + 1 + 1, a1 + 5 * (kk : Int) + 1 + 1 + 1⟩, a1 + 5 * (kk : Int) + 1 + 1 + 1 + 1⟩ : S90)) (k90_mkM _ _ _ _) (fun _ hk => hk)
   rw [Int.toNat_natCast, hset] at HP
   have HPP := Aside0.mk HP
   clear HP hset hcl5 hcc5 hfr5 hM5 HG5
   go_wp2
   refine ⟨⟨kk + 1, by congr 1; omega, by congr 1, by omega, ⟨HPP.out.1⟩, ⟨Kept.of_grown (S := (fun k_ => P0_ k_)) HPP.out.2 HK.out (fun k_ e_ => HO.out.1 k_ e_)⟩, ⟨HB.out.grown HPP.out.2 HB.out.size (fun j hj => by injection hj with hj; rw [← hj]; exact GB.out)⟩⟩, by simp [intOf]; omega⟩
  ·obtain rfl : kk = l0.length := by omega
   have c0b : decide ((l0.length : Int) < (l0.length : Int)) = false := decide_eq_false (by omega)
   rw [HR1.out]
   go_wp2
   go_ret
   refine ⟨rfl, ?_, HB.out, HK.out⟩
   have := HO.out
   rw [List.drop_length, List.append_nil, HR2.out] at this
   exact this

end Go.Proofs.Ytpggfdjnebccnaa.PFnExactBatchTimes
