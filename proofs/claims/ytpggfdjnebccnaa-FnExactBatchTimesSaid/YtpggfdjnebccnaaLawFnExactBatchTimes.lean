/- The row of FnExactBatchTimes: whatever the arguments, the law answers true, and each argument reads as it did. The walk is YtpggfdjnebccnaaVFnExactBatchTimesp1's contract, the plain law YtpggfdjnebccnaaPureFnExactBatchTimes's. -/
import Derived.Test.YtpggfdjnebccnaaRows
import Derived.Test.YtpggfdjnebccnaaVFnExactBatchTimesp1
import Derived.Test.YtpggfdjnebccnaaPureFnExactBatchTimes
import Derived.WalkKit
import Derived.ProofKit
import Derived.OpenShut
import Derived.ShutString
import Derived.ChangeOld
import Derived.Below
import Derived.SizedLaws
import Derived.Carry
namespace Go.Proofs.Ytpggfdjnebccnaa.fnExactBatchTimes
open Go.ChangeShapes Go.WideShapes Go.ChangeAt Go.RowKit Go.Proofs.YtpggfdjnebccnaaW.PrintWords Go.Proofs.Ytpggfdjnebccnaa.Open Go.Proofs.Ytpggfdjnebccnaa.PFnExactBatchTimes
open Go.ChangeMaps (open_string shut_string)
set_option linter.unusedVariables false
theorem own : ownKnob Try.prog.godebug = none := by kernel_rfl
theorem laidOut : laidOutB Try.prog = true := by kernel_rfl
set_option maxRecDepth 100000 in
theorem cells_68 {H : Type} {enc : TypeId × Value → H} {w : World} {base : Nat} {spare : Nat → Bool} {held : Bool} {fuel : Nat} {cs : List Value} {x : DataW H × List MemPlace} (h : DataW.trod enc Try.prog w base spare held fuel 68 cs = some x) : ∃ a b : Int, cs = [.int .i64 a, .int .i64 b] ∧ (Lit.int .i64 a).wf = true ∧ (Lit.int .i64 b).wf = true := by
  obtain ⟨xs, n, _, _, hl, hlen, hf⟩ := DataW.trod_struct Try.underlying68 h
  have hc : Try.prog.cellsOf 68 = 2 := by kernel_rfl
  have h1 : Try.prog.cellsOf 3 = 1 := by kernel_rfl
  rw [hc] at hl
  match cs, hl with
  | [c0, c1], _ =>
    have g0 : DataW.trod enc Try.prog w base spare held n 3 (([c0, c1].drop 0).take (Try.prog.cellsOf 3)) = xs[0]? := hf 0 _ rfl
    have g1 : DataW.trod enc Try.prog w base spare held n 3 (([c0, c1].drop 1).take (Try.prog.cellsOf 3)) = xs[1]? := hf 1 _ rfl
    rw [h1] at g0
    obtain ⟨n0, e0, w0⟩ := opens_int Try.underlying3 g0 (some_at hlen (by simp))
    obtain rfl : c0 = .int .i64 n0 := by simpa using e0
    rw [h1] at g1
    obtain ⟨n1, e1, w1⟩ := opens_int Try.underlying3 g1 (some_at hlen (by simp))
    obtain rfl : c1 = .int .i64 n1 := by simpa using e1
    exact ⟨n0, n1, rfl, w0, w1⟩
def Good68 (x : S68) : Prop := (Lit.int .i64 x.f0).wf = true ∧ (Lit.int .i64 x.f1).wf = true
set_option maxRecDepth 100000 in
theorem opens_68 : Opens Try.prog 68 k68 Good68 := by
  intro H enc w base spare held fuel cs x h
  obtain ⟨a, b, rfl, wa, wb⟩ := cells_68 h
  exact ⟨⟨a, b⟩, k68_mk w _, wa, wb⟩
def Good93 (x : S93) : Prop := (Lit.int .i64 x.f0).wf = true ∧ (Lit.int .i64 x.f1).wf = true ∧ ((Lit.int .i64 x.f2.f0).wf = true ∧ (Lit.int .i64 x.f2.f1).wf = true) ∧ (Lit.int .i64 x.f3).wf = true
set_option maxRecDepth 100000 in
theorem opens_93 : Opens Try.prog 93 k93 Good93 := by
  intro H enc w base spare held fuel cs x h
  obtain ⟨xs, n, _, _, hl, hlen, hf⟩ := DataW.trod_struct Try.underlying93 h
  have hc : Try.prog.cellsOf 93 = 5 := by kernel_rfl
  have h1 : Try.prog.cellsOf 3 = 1 := by kernel_rfl
  have h2 : Try.prog.cellsOf 68 = 2 := by kernel_rfl
  rw [hc] at hl
  match cs, hl with
  | [c0, c1, c2, c3, c4], _ =>
    have g0 : DataW.trod enc Try.prog w base spare held n 3 (([c0, c1, c2, c3, c4].drop 0).take (Try.prog.cellsOf 3)) = xs[0]? := hf 0 _ rfl
    have g1 : DataW.trod enc Try.prog w base spare held n 3 (([c0, c1, c2, c3, c4].drop 1).take (Try.prog.cellsOf 3)) = xs[1]? := hf 1 _ rfl
    have g2 : DataW.trod enc Try.prog w base spare held n 68 (([c0, c1, c2, c3, c4].drop 2).take (Try.prog.cellsOf 68)) = xs[2]? := hf 2 _ rfl
    have g3 : DataW.trod enc Try.prog w base spare held n 3 (([c0, c1, c2, c3, c4].drop 4).take (Try.prog.cellsOf 3)) = xs[3]? := hf 3 _ rfl
    rw [h1] at g0
    obtain ⟨n0, e0, w0⟩ := opens_int Try.underlying3 g0 (some_at hlen (by simp))
    obtain rfl : c0 = .int .i64 n0 := by simpa using e0
    rw [h1] at g1
    obtain ⟨n1, e1, w1⟩ := opens_int Try.underlying3 g1 (some_at hlen (by simp))
    obtain rfl : c1 = .int .i64 n1 := by simpa using e1
    rw [h2] at g2
    obtain ⟨y2, hy2⟩ := Option.isSome_iff_exists.1 (some_at (i := 2) hlen (by simp))
    rw [hy2] at g2
    obtain ⟨v2, kk2, w2⟩ := opens_68 g2
    have e2 := k68_open kk2
    simp only [List.drop_succ_cons, List.drop_zero, List.take_succ_cons, List.take_zero, List.cons.injEq, and_true] at e2
    obtain ⟨rfl, rfl⟩ := e2
    rw [h1] at g3
    obtain ⟨n3, e3, w3⟩ := opens_int Try.underlying3 g3 (some_at hlen (by simp))
    obtain rfl : c4 = .int .i64 n3 := by simpa using e3
    exact ⟨⟨n0, n1, v2, n3⟩, k93_mk w _, w0, w1, w2, w3⟩
set_option maxRecDepth 100000 in
theorem lifted (os : Os) (started : os.Started) (H : Type) (enc : TypeId × Value → H) :
    ReturnsInHanded {} Try.checked os 13 .any (Rows.fnExactBatchTimesSpec.pre6 enc Try.prog Try.f13 Rows.fnExactBatchTimesRow.domain false) (Rows.fnExactBatchTimesSpec.post enc Try.prog Try.f13 false true false false) := by
  refine returnsInHanded_of_change_sized (C := Try.checked) own started (by kernel_rfl) Try.func13
    (ChangeSpec.witness6 (enc := enc) (C := Try.checked) false ⟨#[], #[.slice none 0 0], []⟩ 8 (by kernel_rfl) (by kernel_rfl) (by kernel_rfl) (by kernel_rfl)) ?_
  intro W base args ds gs before hval0 hW hcnd hsz0 _
  have hsz : (DataW.weightsEach Try.prog (Try.f13.params.toList ++ Rows.fnExactBatchTimesSpec.plain.varTypes Try.prog) (ds ++ gs)).all (· ≤ reachBytes) = true := hsz0
  have hval : ∀ (j : Nat) t v, Try.f13.params[j]? = some t → args[j]? = some v → Value.okWide Try.prog W .any base t v := hval0
  have hW' := hW
  obtain ⟨p, q, hA0, hV, rfl, hfz, hnd⟩ := hW
  have hA : DataW.TrodAll enc Try.prog W 0 (fun _ => true) true Try.f13.params.toList args.toList ds p := hA0
  rw [Try.params13] at hA hval hsz
  obtain ⟨v0, vs0, d0, ds0, p0, q0, hargs, rfl, rfl, h0, r0⟩ := trodAll_cons hA
  obtain ⟨rfl, rfl, rfl⟩ := trodAll_nil r0
  obtain rfl : args = #[v0] := by cases args; simp_all
  obtain ⟨rfl, rfl⟩ := trodVars_none hV
  obtain ⟨a0, len0, cap0, rfl⟩ := okWide_slice Try.underlying56 (hval 0 56 v0 rfl rfl)
  have k0 := h0
  have lt0 : ∀ x ∈ p0, x.block < W.heap.size := by obtain ⟨m, hm⟩ := k0; exact DataW.trod_lt m _ _ _ hm
  obtain ⟨l0, rfl, kc0, hl0, hm0, hg0⟩ := opens_row Try.underlying56 (by kernel_rfl) opens_93 z93 h0
  clear hA0 hval0 hsz0 hsz
  obtain ⟨k, hk⟩ := Pure.FnExactBatchTimes l0 hm0 hg0
  refine (laws_FnExactBatchTimes.calls k a0 cap0 l0 true W kc0 hl0 hk rfl).mono fun e W' ⟨he, bel⟩ => ?_
  subst he
  exact ⟨_, rfl, _, _, _, [], _, [], hW', trodAll_mk1 (shut_bool Try.underlying4 _), (trodAll_cons_mk (Below.trod laidOut (by kernel_rfl) (of_decide_eq_true (by kernel_rfl)) k0 bel lt0) trodAll_mk0), rfl, bel.frame _, fun h => by cases h⟩
theorem over : Rows.fnExactBatchTimesRow.holds Try.pinned (OpenSpec.ofChange Rows.fnExactBatchTimesSpec) :=
  OpenClaim.holds_of_wide 13 Try.f13 rfl rfl rfl rfl rfl rfl rfl ⟨rfl, rfl, rfl, rfl, rfl⟩ rfl rfl rfl rfl rfl (by kernel_rfl) Try.func13 (by kernel_rfl)
    (of_decide_eq_true (by kernel_rfl)) (by unfold Func.isWrapper; first | (rw [if_pos (by decide +kernel)]; kernel_rfl) | (rw [if_neg (by decide +kernel)]; exact ⟨rfl, rfl⟩))
    (fun os started H enc _ => lifted os started H enc)
theorem proved : Rows.FnExactBatchTimesSaid := over
#print axioms proved
end Go.Proofs.Ytpggfdjnebccnaa.fnExactBatchTimes
namespace Go.Proofs.Ytpggfdjnebccnaa
/-- The row, under a short name, for the claim. -/
theorem fnExactBatchTimes_holds : Rows.FnExactBatchTimesSaid := fnExactBatchTimes.proved
end Go.Proofs.Ytpggfdjnebccnaa
