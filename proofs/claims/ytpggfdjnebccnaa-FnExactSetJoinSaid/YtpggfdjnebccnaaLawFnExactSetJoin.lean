/- The row of FnExactSetJoin: whatever the arguments, the law answers true, and each argument reads as it did. The walk is YtpggfdjnebccnaaVFnExactSetJoinp5's contract, the plain law YtpggfdjnebccnaaPureFnExactSetJoin's. -/
import Derived.Test.YtpggfdjnebccnaaRows
import Derived.Test.YtpggfdjnebccnaaVFnExactSetJoinp5
import Derived.Test.YtpggfdjnebccnaaPureFnExactSetJoin
import Derived.WalkKit
import Derived.ProofKit
import Derived.OpenShut
import Derived.ShutString
import Derived.ChangeOld
import Derived.Below
import Derived.SizedLaws
import Derived.Carry
namespace Go.Proofs.Ytpggfdjnebccnaa.fnExactSetJoin
open Go.ChangeShapes Go.WideShapes Go.ChangeAt Go.RowKit Go.Proofs.YtpggfdjnebccnaaW.PrintWords Go.Proofs.Ytpggfdjnebccnaa.Open Go.Proofs.Ytpggfdjnebccnaa.PFnExactSetJoin
open Go.ChangeMaps (open_string shut_string)
set_option linter.unusedVariables false
theorem own : ownKnob Try.prog.godebug = none := by kernel_rfl
theorem laidOut : laidOutB Try.prog = true := by kernel_rfl
def Good82 (x : S82) : Prop := (Lit.int .i64 x.f0).wf = true ∧ (Lit.int .i64 x.f1).wf = true ∧ (Lit.int .i64 x.f2).wf = true
set_option maxRecDepth 100000 in
theorem opens_82 : Opens Try.prog 82 k82 Good82 := by
  intro H enc w base spare held fuel cs x h
  obtain ⟨xs, n, _, _, hl, hlen, hf⟩ := DataW.trod_struct Try.underlying82 h
  have hc : Try.prog.cellsOf 82 = 3 := by kernel_rfl
  have h1 : Try.prog.cellsOf 3 = 1 := by kernel_rfl
  rw [hc] at hl
  match cs, hl with
  | [c0, c1, c2], _ =>
    have g0 : DataW.trod enc Try.prog w base spare held n 3 (([c0, c1, c2].drop 0).take (Try.prog.cellsOf 3)) = xs[0]? := hf 0 _ rfl
    have g1 : DataW.trod enc Try.prog w base spare held n 3 (([c0, c1, c2].drop 1).take (Try.prog.cellsOf 3)) = xs[1]? := hf 1 _ rfl
    have g2 : DataW.trod enc Try.prog w base spare held n 3 (([c0, c1, c2].drop 2).take (Try.prog.cellsOf 3)) = xs[2]? := hf 2 _ rfl
    rw [h1] at g0
    obtain ⟨n0, e0, w0⟩ := opens_int Try.underlying3 g0 (some_at hlen (by simp))
    obtain rfl : c0 = .int .i64 n0 := by simpa using e0
    rw [h1] at g1
    obtain ⟨n1, e1, w1⟩ := opens_int Try.underlying3 g1 (some_at hlen (by simp))
    obtain rfl : c1 = .int .i64 n1 := by simpa using e1
    rw [h1] at g2
    obtain ⟨n2, e2, w2⟩ := opens_int Try.underlying3 g2 (some_at hlen (by simp))
    obtain rfl : c2 = .int .i64 n2 := by simpa using e2
    exact ⟨⟨n0, n1, n2⟩, k82_mk w _, w0, w1, w2⟩
set_option maxRecDepth 100000 in
theorem lifted (os : Os) (started : os.Started) (H : Type) (enc : TypeId × Value → H) :
    ReturnsInHanded {} Try.checked os 10 .any (Rows.fnExactSetJoinSpec.pre6 enc Try.prog Try.f10 Rows.fnExactSetJoinRow.domain false) (Rows.fnExactSetJoinSpec.post enc Try.prog Try.f10 false true false false) := by
  refine returnsInHanded_of_change_sized (C := Try.checked) own started (by kernel_rfl) Try.func10
    (ChangeSpec.witness6 (enc := enc) (C := Try.checked) false ⟨#[], #[.slice none 0 0, .slice none 0 0], []⟩ 8 (by kernel_rfl) (by kernel_rfl) (by kernel_rfl) (by kernel_rfl)) ?_
  intro W base args ds gs before hval0 hW hcnd hsz0 _
  have hsz : (DataW.weightsEach Try.prog (Try.f10.params.toList ++ Rows.fnExactSetJoinSpec.plain.varTypes Try.prog) (ds ++ gs)).all (· ≤ reachBytes) = true := hsz0
  have hval : ∀ (j : Nat) t v, Try.f10.params[j]? = some t → args[j]? = some v → Value.okWide Try.prog W .any base t v := hval0
  have hW' := hW
  obtain ⟨p, q, hA0, hV, rfl, hfz, hnd⟩ := hW
  have hA : DataW.TrodAll enc Try.prog W 0 (fun _ => true) true Try.f10.params.toList args.toList ds p := hA0
  rw [Try.params10] at hA hval hsz
  obtain ⟨v0, vs0, d0, ds0, p0, q0, hargs, rfl, rfl, h0, r0⟩ := trodAll_cons hA
  obtain ⟨v1, vs1, d1, ds1, p1, q1, rfl, rfl, rfl, h1, r1⟩ := trodAll_cons r0
  obtain ⟨rfl, rfl, rfl⟩ := trodAll_nil r1
  obtain rfl : args = #[v0, v1] := by cases args; simp_all
  obtain ⟨rfl, rfl⟩ := trodVars_none hV
  obtain ⟨a0, len0, cap0, rfl⟩ := okWide_slice Try.underlying43 (hval 0 43 v0 rfl rfl)
  have k0 := h0
  have lt0 : ∀ x ∈ p0, x.block < W.heap.size := by obtain ⟨m, hm⟩ := k0; exact DataW.trod_lt m _ _ _ hm
  obtain ⟨l0, rfl, kc0, hl0, hm0, hg0⟩ := opens_row Try.underlying43 (by kernel_rfl) opens_82 z82 h0
  obtain ⟨a1, len1, cap1, rfl⟩ := okWide_slice Try.underlying43 (hval 1 43 v1 rfl rfl)
  have k1 := h1
  have lt1 : ∀ x ∈ p1, x.block < W.heap.size := by obtain ⟨m, hm⟩ := k1; exact DataW.trod_lt m _ _ _ hm
  obtain ⟨l1, rfl, kc1, hl1, hm1, hg1⟩ := opens_row Try.underlying43 (by kernel_rfl) opens_82 z82 h1
  clear hA0 hval0 hsz0 hsz
  obtain ⟨k, hk⟩ := Pure.FnExactSetJoin l0 hm0 hg0 l1 hm1 hg1
  refine (laws_FnExactSetJoin.calls k a0 cap0 l0 a1 cap1 l1 true W kc0 hl0 kc1 hl1 hk rfl).mono fun e W' ⟨he, bel⟩ => ?_
  subst he
  exact ⟨_, rfl, _, _, _, [], _, [], hW', trodAll_mk1 (shut_bool Try.underlying4 _), (trodAll_cons_mk (Below.trod laidOut (by kernel_rfl) (of_decide_eq_true (by kernel_rfl)) k0 bel lt0) (trodAll_cons_mk (Below.trod laidOut (by kernel_rfl) (of_decide_eq_true (by kernel_rfl)) k1 bel lt1) trodAll_mk0)), rfl, bel.frame _, fun h => by cases h⟩
theorem over : Rows.fnExactSetJoinRow.holds Try.pinned (OpenSpec.ofChange Rows.fnExactSetJoinSpec) :=
  OpenClaim.holds_of_wide 10 Try.f10 rfl rfl rfl rfl rfl rfl rfl ⟨rfl, rfl, rfl, rfl, rfl⟩ rfl rfl rfl rfl rfl (by kernel_rfl) Try.func10 (by kernel_rfl)
    (of_decide_eq_true (by kernel_rfl)) (by unfold Func.isWrapper; first | (rw [if_pos (by decide +kernel)]; kernel_rfl) | (rw [if_neg (by decide +kernel)]; exact ⟨rfl, rfl⟩))
    (fun os started H enc _ => lifted os started H enc)
theorem proved : Rows.FnExactSetJoinSaid := over
#print axioms proved
end Go.Proofs.Ytpggfdjnebccnaa.fnExactSetJoin
namespace Go.Proofs.Ytpggfdjnebccnaa
/-- The row, under a short name, for the claim. -/
theorem fnExactSetJoin_holds : Rows.FnExactSetJoinSaid := fnExactSetJoin.proved
end Go.Proofs.Ytpggfdjnebccnaa
