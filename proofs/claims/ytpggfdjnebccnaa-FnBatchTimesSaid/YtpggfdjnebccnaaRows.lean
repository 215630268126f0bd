/-
  No cell of these rows narrows 'for every input' (looked for: loops, veiled, ifaces, maps, wideKeys, modest, calm, conditions, laid).
  DERIVED. THE GIVEN ROWS OF THIS SEAT. 12 by the template 'for every input the law returns true; each argument reads behind the call as it read before'; 0 by the template 'total and deterministic' (their statements: YtpggfdjnebccnaaTotals.lean).
  GIVEN WITH THE SEED: the statements are not yours to turn. If you find one false, say at which input.
  Laid BY PROGRAM, IN A SANDBOX (cutbox-rows.mjs): the forced cells as the released guide's own fill.sh prints them over the translation a4f32b464f13080a… (all of the seat's roots in one cut). By AI agents, Wed Nov 11 2026. No macro, syntax, notation, axiom, sorry.
-/
import Derived.Test.YtpggfdjnebccnaaChecked
import GoSem.Claim
import GoSem.ClaimJoined
import GoSem.ClaimMapViews
import Derived.JoinedTies
import Derived.KernelRfl
namespace Go.Proofs.Ytpggfdjnebccnaa
/- THE CELL 'sum', in the pinned program and in every row, IS THE sha256 OF THE DUMP (.gsa) THAT YtpggfdjnebccnaaProg.lean LOADS. Nothing in Lean hashes anything: it is a label: what it is worth is what the hold of that sum in a sandbox is worth. -/
noncomputable def Try.pinned : Pinned := { name := "ytpggfdjnebccnaa", sum := "a4f32b464f13080a5cda828218c308a4850062e880c54fb3533ffc5d09c6d9be", checked := Try.checked }
namespace Rows
def none {H : Type} : Left H := { results := [], args := [] }

/-- 'laws.FnExactFrontOf': WHATEVER THE INPUT: true; the input reads as it did. -/
def fnExactFrontOfSpec : ChangeSpec := { name := "fnExactFrontOf", fn := fun _ => fun
  | [d] => { results := [.lit (.bool true)], args := [d] }
  | _ => none }
def fnExactFrontOfRow : OpenClaim := { program := "ytpggfdjnebccnaa", sum := "a4f32b464f13080a5cda828218c308a4850062e880c54fb3533ffc5d09c6d9be", func := "loop.example/tideline/laws.FnExactFrontOf", spec := "fnExactFrontOf", inPlace := ["internal/reflectlite.ValueOf", "internal/reflectlite.Swapper", "(internal/reflectlite.Value).Len"], unfollowed := true, recurses := true, plainKeys := false, apart := false }
def FnExactFrontOfSaid : Prop := fnExactFrontOfRow.holds Try.pinned (OpenSpec.ofChange fnExactFrontOfSpec)

/-- ITS FALSE NEIGHBOUR: 'it returns false'. Refute it at one input. -/
def fnExactFrontOfWrong : ChangeSpec := { name := "fnExactFrontOf", fn := fun _ => fun
  | [d] => { results := [.lit (.bool false)], args := [d] }
  | _ => none }
def FnExactFrontOfWrongFalsely : Prop := fnExactFrontOfRow.holds Try.pinned (OpenSpec.ofChange fnExactFrontOfWrong)

/-- 'laws.FnFrontOk': WHATEVER THE INPUT: true; the input reads as it did. -/
def fnFrontOkSpec : ChangeSpec := { name := "fnFrontOk", fn := fun _ => fun
  | [d] => { results := [.lit (.bool true)], args := [d] }
  | _ => none }
def fnFrontOkRow : OpenClaim := { program := "ytpggfdjnebccnaa", sum := "a4f32b464f13080a5cda828218c308a4850062e880c54fb3533ffc5d09c6d9be", func := "loop.example/tideline/laws.FnFrontOk", spec := "fnFrontOk", inPlace := ["internal/reflectlite.ValueOf", "internal/reflectlite.Swapper", "(internal/reflectlite.Value).Len"], unfollowed := true, recurses := true, plainKeys := false, apart := false }
def FnFrontOkSaid : Prop := fnFrontOkRow.holds Try.pinned (OpenSpec.ofChange fnFrontOkSpec)

/-- ITS FALSE NEIGHBOUR: 'it returns false'. Refute it at one input. -/
def fnFrontOkWrong : ChangeSpec := { name := "fnFrontOk", fn := fun _ => fun
  | [d] => { results := [.lit (.bool false)], args := [d] }
  | _ => none }
def FnFrontOkWrongFalsely : Prop := fnFrontOkRow.holds Try.pinned (OpenSpec.ofChange fnFrontOkWrong)

/-- 'laws.FnFrontOf': WHATEVER THE INPUT: true; the input reads as it did. -/
def fnFrontOfSpec : ChangeSpec := { name := "fnFrontOf", fn := fun _ => fun
  | [d] => { results := [.lit (.bool true)], args := [d] }
  | _ => none }
def fnFrontOfRow : OpenClaim := { program := "ytpggfdjnebccnaa", sum := "a4f32b464f13080a5cda828218c308a4850062e880c54fb3533ffc5d09c6d9be", func := "loop.example/tideline/laws.FnFrontOf", spec := "fnFrontOf", inPlace := ["internal/reflectlite.ValueOf", "internal/reflectlite.Swapper", "(internal/reflectlite.Value).Len"], unfollowed := true, recurses := true, plainKeys := false, apart := false }
def FnFrontOfSaid : Prop := fnFrontOfRow.holds Try.pinned (OpenSpec.ofChange fnFrontOfSpec)

/-- ITS FALSE NEIGHBOUR: 'it returns false'. Refute it at one input. -/
def fnFrontOfWrong : ChangeSpec := { name := "fnFrontOf", fn := fun _ => fun
  | [d] => { results := [.lit (.bool false)], args := [d] }
  | _ => none }
def FnFrontOfWrongFalsely : Prop := fnFrontOfRow.holds Try.pinned (OpenSpec.ofChange fnFrontOfWrong)

/-- 'laws.FnExactFrontBoth': WHATEVER THE INPUT: true; the input reads as it did. -/
def fnExactFrontBothSpec : ChangeSpec := { name := "fnExactFrontBoth", fn := fun _ => fun
  | [d1, d2] => { results := [.lit (.bool true)], args := [d1, d2] }
  | _ => none }
def fnExactFrontBothRow : OpenClaim := { program := "ytpggfdjnebccnaa", sum := "a4f32b464f13080a5cda828218c308a4850062e880c54fb3533ffc5d09c6d9be", func := "loop.example/tideline/laws.FnExactFrontBoth", spec := "fnExactFrontBoth", inPlace := ["internal/reflectlite.ValueOf", "internal/reflectlite.Swapper", "(internal/reflectlite.Value).Len"], unfollowed := true, recurses := true, plainKeys := false, apart := false }
def FnExactFrontBothSaid : Prop := fnExactFrontBothRow.holds Try.pinned (OpenSpec.ofChange fnExactFrontBothSpec)

/-- ITS FALSE NEIGHBOUR: 'it returns false'. Refute it at one input. -/
def fnExactFrontBothWrong : ChangeSpec := { name := "fnExactFrontBoth", fn := fun _ => fun
  | [d1, d2] => { results := [.lit (.bool false)], args := [d1, d2] }
  | _ => none }
def FnExactFrontBothWrongFalsely : Prop := fnExactFrontBothRow.holds Try.pinned (OpenSpec.ofChange fnExactFrontBothWrong)

/-- 'laws.FnFrontBothTurn': WHATEVER THE INPUT: true; the input reads as it did. -/
def fnFrontBothTurnSpec : ChangeSpec := { name := "fnFrontBothTurn", fn := fun _ => fun
  | [d] => { results := [.lit (.bool true)], args := [d] }
  | _ => none }
def fnFrontBothTurnRow : OpenClaim := { program := "ytpggfdjnebccnaa", sum := "a4f32b464f13080a5cda828218c308a4850062e880c54fb3533ffc5d09c6d9be", func := "loop.example/tideline/laws.FnFrontBothTurn", spec := "fnFrontBothTurn", inPlace := ["internal/reflectlite.ValueOf", "internal/reflectlite.Swapper", "(internal/reflectlite.Value).Len"], unfollowed := true, recurses := true, plainKeys := false, apart := false }
def FnFrontBothTurnSaid : Prop := fnFrontBothTurnRow.holds Try.pinned (OpenSpec.ofChange fnFrontBothTurnSpec)

/-- ITS FALSE NEIGHBOUR: 'it returns false'. Refute it at one input. -/
def fnFrontBothTurnWrong : ChangeSpec := { name := "fnFrontBothTurn", fn := fun _ => fun
  | [d] => { results := [.lit (.bool false)], args := [d] }
  | _ => none }
def FnFrontBothTurnWrongFalsely : Prop := fnFrontBothTurnRow.holds Try.pinned (OpenSpec.ofChange fnFrontBothTurnWrong)

/-- 'laws.FnFrontBoth': WHATEVER THE INPUT: true; the input reads as it did. -/
def fnFrontBothSpec : ChangeSpec := { name := "fnFrontBoth", fn := fun _ => fun
  | [d] => { results := [.lit (.bool true)], args := [d] }
  | _ => none }
def fnFrontBothRow : OpenClaim := { program := "ytpggfdjnebccnaa", sum := "a4f32b464f13080a5cda828218c308a4850062e880c54fb3533ffc5d09c6d9be", func := "loop.example/tideline/laws.FnFrontBoth", spec := "fnFrontBoth", inPlace := ["internal/reflectlite.ValueOf", "internal/reflectlite.Swapper", "(internal/reflectlite.Value).Len"], unfollowed := true, recurses := true, plainKeys := false, apart := false }
def FnFrontBothSaid : Prop := fnFrontBothRow.holds Try.pinned (OpenSpec.ofChange fnFrontBothSpec)

/-- ITS FALSE NEIGHBOUR: 'it returns false'. Refute it at one input. -/
def fnFrontBothWrong : ChangeSpec := { name := "fnFrontBoth", fn := fun _ => fun
  | [d] => { results := [.lit (.bool false)], args := [d] }
  | _ => none }
def FnFrontBothWrongFalsely : Prop := fnFrontBothRow.holds Try.pinned (OpenSpec.ofChange fnFrontBothWrong)

/-- 'laws.FnExactSetBoth': WHATEVER THE INPUT: true; the input reads as it did. -/
def fnExactSetBothSpec : ChangeSpec := { name := "fnExactSetBoth", fn := fun _ => fun
  | [d1, d2] => { results := [.lit (.bool true)], args := [d1, d2] }
  | _ => none }
def fnExactSetBothRow : OpenClaim := { program := "ytpggfdjnebccnaa", sum := "a4f32b464f13080a5cda828218c308a4850062e880c54fb3533ffc5d09c6d9be", func := "loop.example/tideline/laws.FnExactSetBoth", spec := "fnExactSetBoth", inPlace := ["internal/reflectlite.ValueOf", "internal/reflectlite.Swapper", "(internal/reflectlite.Value).Len"], unfollowed := true, recurses := true, plainKeys := false, apart := false }
def FnExactSetBothSaid : Prop := fnExactSetBothRow.holds Try.pinned (OpenSpec.ofChange fnExactSetBothSpec)

/-- ITS FALSE NEIGHBOUR: 'it returns false'. Refute it at one input. -/
def fnExactSetBothWrong : ChangeSpec := { name := "fnExactSetBoth", fn := fun _ => fun
  | [d1, d2] => { results := [.lit (.bool false)], args := [d1, d2] }
  | _ => none }
def FnExactSetBothWrongFalsely : Prop := fnExactSetBothRow.holds Try.pinned (OpenSpec.ofChange fnExactSetBothWrong)

/-- 'laws.FnExactSetJoin': WHATEVER THE INPUT: true; the input reads as it did. -/
def fnExactSetJoinSpec : ChangeSpec := { name := "fnExactSetJoin", fn := fun _ => fun
  | [d1, d2] => { results := [.lit (.bool true)], args := [d1, d2] }
  | _ => none }
def fnExactSetJoinRow : OpenClaim := { program := "ytpggfdjnebccnaa", sum := "a4f32b464f13080a5cda828218c308a4850062e880c54fb3533ffc5d09c6d9be", func := "loop.example/tideline/laws.FnExactSetJoin", spec := "fnExactSetJoin", inPlace := ["internal/reflectlite.ValueOf", "internal/reflectlite.Swapper", "(internal/reflectlite.Value).Len"], unfollowed := true, recurses := true, plainKeys := false, apart := false }
def FnExactSetJoinSaid : Prop := fnExactSetJoinRow.holds Try.pinned (OpenSpec.ofChange fnExactSetJoinSpec)

/-- ITS FALSE NEIGHBOUR: 'it returns false'. Refute it at one input. -/
def fnExactSetJoinWrong : ChangeSpec := { name := "fnExactSetJoin", fn := fun _ => fun
  | [d1, d2] => { results := [.lit (.bool false)], args := [d1, d2] }
  | _ => none }
def FnExactSetJoinWrongFalsely : Prop := fnExactSetJoinRow.holds Try.pinned (OpenSpec.ofChange fnExactSetJoinWrong)

/-- 'laws.FnSetBoth': WHATEVER THE INPUT: true; the input reads as it did. -/
def fnSetBothSpec : ChangeSpec := { name := "fnSetBoth", fn := fun _ => fun
  | [d] => { results := [.lit (.bool true)], args := [d] }
  | _ => none }
def fnSetBothRow : OpenClaim := { program := "ytpggfdjnebccnaa", sum := "a4f32b464f13080a5cda828218c308a4850062e880c54fb3533ffc5d09c6d9be", func := "loop.example/tideline/laws.FnSetBoth", spec := "fnSetBoth", inPlace := ["internal/reflectlite.ValueOf", "internal/reflectlite.Swapper", "(internal/reflectlite.Value).Len"], unfollowed := true, recurses := true, plainKeys := false, apart := false }
def FnSetBothSaid : Prop := fnSetBothRow.holds Try.pinned (OpenSpec.ofChange fnSetBothSpec)

/-- ITS FALSE NEIGHBOUR: 'it returns false'. Refute it at one input. -/
def fnSetBothWrong : ChangeSpec := { name := "fnSetBoth", fn := fun _ => fun
  | [d] => { results := [.lit (.bool false)], args := [d] }
  | _ => none }
def FnSetBothWrongFalsely : Prop := fnSetBothRow.holds Try.pinned (OpenSpec.ofChange fnSetBothWrong)

/-- 'laws.FnSetLess': WHATEVER THE INPUT: true; the input reads as it did. -/
def fnSetLessSpec : ChangeSpec := { name := "fnSetLess", fn := fun _ => fun
  | [d] => { results := [.lit (.bool true)], args := [d] }
  | _ => none }
def fnSetLessRow : OpenClaim := { program := "ytpggfdjnebccnaa", sum := "a4f32b464f13080a5cda828218c308a4850062e880c54fb3533ffc5d09c6d9be", func := "loop.example/tideline/laws.FnSetLess", spec := "fnSetLess", inPlace := ["internal/reflectlite.ValueOf", "internal/reflectlite.Swapper", "(internal/reflectlite.Value).Len"], unfollowed := true, recurses := true, plainKeys := false, apart := false }
def FnSetLessSaid : Prop := fnSetLessRow.holds Try.pinned (OpenSpec.ofChange fnSetLessSpec)

/-- ITS FALSE NEIGHBOUR: 'it returns false'. Refute it at one input. -/
def fnSetLessWrong : ChangeSpec := { name := "fnSetLess", fn := fun _ => fun
  | [d] => { results := [.lit (.bool false)], args := [d] }
  | _ => none }
def FnSetLessWrongFalsely : Prop := fnSetLessRow.holds Try.pinned (OpenSpec.ofChange fnSetLessWrong)

/-- 'laws.FnExactBatchTimes': WHATEVER THE INPUT: true; the input reads as it did. -/
def fnExactBatchTimesSpec : ChangeSpec := { name := "fnExactBatchTimes", fn := fun _ => fun
  | [d] => { results := [.lit (.bool true)], args := [d] }
  | _ => none }
def fnExactBatchTimesRow : OpenClaim := { program := "ytpggfdjnebccnaa", sum := "a4f32b464f13080a5cda828218c308a4850062e880c54fb3533ffc5d09c6d9be", func := "loop.example/tideline/laws.FnExactBatchTimes", spec := "fnExactBatchTimes", plainKeys := false, apart := false }
def FnExactBatchTimesSaid : Prop := fnExactBatchTimesRow.holds Try.pinned (OpenSpec.ofChange fnExactBatchTimesSpec)

/-- ITS FALSE NEIGHBOUR: 'it returns false'. Refute it at one input. -/
def fnExactBatchTimesWrong : ChangeSpec := { name := "fnExactBatchTimes", fn := fun _ => fun
  | [d] => { results := [.lit (.bool false)], args := [d] }
  | _ => none }
def FnExactBatchTimesWrongFalsely : Prop := fnExactBatchTimesRow.holds Try.pinned (OpenSpec.ofChange fnExactBatchTimesWrong)

/-- 'laws.FnBatchTimes': WHATEVER THE INPUT: true; the input reads as it did. -/
def fnBatchTimesSpec : ChangeSpec := { name := "fnBatchTimes", fn := fun _ => fun
  | [d] => { results := [.lit (.bool true)], args := [d] }
  | _ => none }
def fnBatchTimesRow : OpenClaim := { program := "ytpggfdjnebccnaa", sum := "a4f32b464f13080a5cda828218c308a4850062e880c54fb3533ffc5d09c6d9be", func := "loop.example/tideline/laws.FnBatchTimes", spec := "fnBatchTimes", inPlace := ["internal/reflectlite.ValueOf", "internal/reflectlite.Swapper", "(internal/reflectlite.Value).Len"], unfollowed := true, recurses := true, plainKeys := false, apart := false }
def FnBatchTimesSaid : Prop := fnBatchTimesRow.holds Try.pinned (OpenSpec.ofChange fnBatchTimesSpec)

/-- ITS FALSE NEIGHBOUR: 'it returns false'. Refute it at one input. -/
def fnBatchTimesWrong : ChangeSpec := { name := "fnBatchTimes", fn := fun _ => fun
  | [d] => { results := [.lit (.bool false)], args := [d] }
  | _ => none }
def FnBatchTimesWrongFalsely : Prop := fnBatchTimesRow.holds Try.pinned (OpenSpec.ofChange fnBatchTimesWrong)

/- THE SECOND FORM. 'bulk': how many values and letters a reading holds, each counted each time it is reached (what is shared counts as often as it is met; a slice's spare places count too). A statement '..UptoSaid' is the law's where the arguments, and the package variables that the reading takes, are together of bulk at most 1048576: NARROWER than '..Said'. Prove '..Said' where nothing that the law and all that it calls make is longer than what came in: it says more and counts as full. Else prove '..UptoSaid'. A law counts once. -/
mutual
def uptoBulk {H : Type} : DataW H → Nat
  | .lit (.string bytes) => bytes.length + 1
  | .lit _ => 1
  | .nil => 1
  | .ptr d => uptoBulk d + 1
  | .slice elems spare => uptoBulkAll elems + uptoBulkAll spare + 1
  | .agg parts => uptoBulkAll parts + 1
  | .iface _ d => uptoBulk d + 1
  | .map entries => uptoBulkEntries entries + 1
  | .held _ => 1
def uptoBulkAll {H : Type} : List (DataW H) → Nat
  | [] => 0
  | d :: r => uptoBulk d + uptoBulkAll r
def uptoBulkEntries {H : Type} : List (Lit × DataW H) → Nat
  | [] => 0
  | x :: r => uptoBulkEntry x + uptoBulkEntries r
def uptoBulkEntry {H : Type} : Lit × DataW H → Nat
  | (.string bytes, d) => bytes.length + uptoBulk d + 1
  | (_, d) => uptoBulk d + 1
 end
def uptoSmall : (H : Type) → List (DataW H) → Bool := fun _ ds => decide (uptoBulkAll ds ≤ 1048576)
def OpenSpec.upto (s : _root_.Go.ChangeSpec) : _root_.Go.OpenSpec := { _root_.Go.OpenSpec.ofChange s with cond := some uptoSmall }

/-- 'laws.FnExactFrontOf', WHERE WHAT IT READS IS OF BULK AT MOST 1048576: true; the input reads as it did. -/
def fnExactFrontOfUptoRow : OpenClaim := { program := "ytpggfdjnebccnaa", sum := "a4f32b464f13080a5cda828218c308a4850062e880c54fb3533ffc5d09c6d9be", func := "loop.example/tideline/laws.FnExactFrontOf", spec := "fnExactFrontOf", inPlace := ["internal/reflectlite.ValueOf", "internal/reflectlite.Swapper", "(internal/reflectlite.Value).Len"], unfollowed := true, recurses := true, plainKeys := false, apart := false, narrowed := true }
def FnExactFrontOfUptoSaid : Prop := fnExactFrontOfUptoRow.holds Try.pinned (OpenSpec.upto fnExactFrontOfSpec)

/-- 'laws.FnFrontOk', WHERE WHAT IT READS IS OF BULK AT MOST 1048576: true; the input reads as it did. -/
def fnFrontOkUptoRow : OpenClaim := { program := "ytpggfdjnebccnaa", sum := "a4f32b464f13080a5cda828218c308a4850062e880c54fb3533ffc5d09c6d9be", func := "loop.example/tideline/laws.FnFrontOk", spec := "fnFrontOk", inPlace := ["internal/reflectlite.ValueOf", "internal/reflectlite.Swapper", "(internal/reflectlite.Value).Len"], unfollowed := true, recurses := true, plainKeys := false, apart := false, narrowed := true }
def FnFrontOkUptoSaid : Prop := fnFrontOkUptoRow.holds Try.pinned (OpenSpec.upto fnFrontOkSpec)

/-- 'laws.FnFrontOf', WHERE WHAT IT READS IS OF BULK AT MOST 1048576: true; the input reads as it did. -/
def fnFrontOfUptoRow : OpenClaim := { program := "ytpggfdjnebccnaa", sum := "a4f32b464f13080a5cda828218c308a4850062e880c54fb3533ffc5d09c6d9be", func := "loop.example/tideline/laws.FnFrontOf", spec := "fnFrontOf", inPlace := ["internal/reflectlite.ValueOf", "internal/reflectlite.Swapper", "(internal/reflectlite.Value).Len"], unfollowed := true, recurses := true, plainKeys := false, apart := false, narrowed := true }
def FnFrontOfUptoSaid : Prop := fnFrontOfUptoRow.holds Try.pinned (OpenSpec.upto fnFrontOfSpec)

/-- 'laws.FnExactFrontBoth', WHERE WHAT IT READS IS OF BULK AT MOST 1048576: true; the input reads as it did. -/
def fnExactFrontBothUptoRow : OpenClaim := { program := "ytpggfdjnebccnaa", sum := "a4f32b464f13080a5cda828218c308a4850062e880c54fb3533ffc5d09c6d9be", func := "loop.example/tideline/laws.FnExactFrontBoth", spec := "fnExactFrontBoth", inPlace := ["internal/reflectlite.ValueOf", "internal/reflectlite.Swapper", "(internal/reflectlite.Value).Len"], unfollowed := true, recurses := true, plainKeys := false, apart := false, narrowed := true }
def FnExactFrontBothUptoSaid : Prop := fnExactFrontBothUptoRow.holds Try.pinned (OpenSpec.upto fnExactFrontBothSpec)

/-- 'laws.FnFrontBothTurn', WHERE WHAT IT READS IS OF BULK AT MOST 1048576: true; the input reads as it did. -/
def fnFrontBothTurnUptoRow : OpenClaim := { program := "ytpggfdjnebccnaa", sum := "a4f32b464f13080a5cda828218c308a4850062e880c54fb3533ffc5d09c6d9be", func := "loop.example/tideline/laws.FnFrontBothTurn", spec := "fnFrontBothTurn", inPlace := ["internal/reflectlite.ValueOf", "internal/reflectlite.Swapper", "(internal/reflectlite.Value).Len"], unfollowed := true, recurses := true, plainKeys := false, apart := false, narrowed := true }
def FnFrontBothTurnUptoSaid : Prop := fnFrontBothTurnUptoRow.holds Try.pinned (OpenSpec.upto fnFrontBothTurnSpec)

/-- 'laws.FnFrontBoth', WHERE WHAT IT READS IS OF BULK AT MOST 1048576: true; the input reads as it did. -/
def fnFrontBothUptoRow : OpenClaim := { program := "ytpggfdjnebccnaa", sum := "a4f32b464f13080a5cda828218c308a4850062e880c54fb3533ffc5d09c6d9be", func := "loop.example/tideline/laws.FnFrontBoth", spec := "fnFrontBoth", inPlace := ["internal/reflectlite.ValueOf", "internal/reflectlite.Swapper", "(internal/reflectlite.Value).Len"], unfollowed := true, recurses := true, plainKeys := false, apart := false, narrowed := true }
def FnFrontBothUptoSaid : Prop := fnFrontBothUptoRow.holds Try.pinned (OpenSpec.upto fnFrontBothSpec)

/-- 'laws.FnExactSetBoth', WHERE WHAT IT READS IS OF BULK AT MOST 1048576: true; the input reads as it did. -/
def fnExactSetBothUptoRow : OpenClaim := { program := "ytpggfdjnebccnaa", sum := "a4f32b464f13080a5cda828218c308a4850062e880c54fb3533ffc5d09c6d9be", func := "loop.example/tideline/laws.FnExactSetBoth", spec := "fnExactSetBoth", inPlace := ["internal/reflectlite.ValueOf", "internal/reflectlite.Swapper", "(internal/reflectlite.Value).Len"], unfollowed := true, recurses := true, plainKeys := false, apart := false, narrowed := true }
def FnExactSetBothUptoSaid : Prop := fnExactSetBothUptoRow.holds Try.pinned (OpenSpec.upto fnExactSetBothSpec)

/-- 'laws.FnExactSetJoin', WHERE WHAT IT READS IS OF BULK AT MOST 1048576: true; the input reads as it did. -/
def fnExactSetJoinUptoRow : OpenClaim := { program := "ytpggfdjnebccnaa", sum := "a4f32b464f13080a5cda828218c308a4850062e880c54fb3533ffc5d09c6d9be", func := "loop.example/tideline/laws.FnExactSetJoin", spec := "fnExactSetJoin", inPlace := ["internal/reflectlite.ValueOf", "internal/reflectlite.Swapper", "(internal/reflectlite.Value).Len"], unfollowed := true, recurses := true, plainKeys := false, apart := false, narrowed := true }
def FnExactSetJoinUptoSaid : Prop := fnExactSetJoinUptoRow.holds Try.pinned (OpenSpec.upto fnExactSetJoinSpec)

/-- 'laws.FnSetBoth', WHERE WHAT IT READS IS OF BULK AT MOST 1048576: true; the input reads as it did. -/
def fnSetBothUptoRow : OpenClaim := { program := "ytpggfdjnebccnaa", sum := "a4f32b464f13080a5cda828218c308a4850062e880c54fb3533ffc5d09c6d9be", func := "loop.example/tideline/laws.FnSetBoth", spec := "fnSetBoth", inPlace := ["internal/reflectlite.ValueOf", "internal/reflectlite.Swapper", "(internal/reflectlite.Value).Len"], unfollowed := true, recurses := true, plainKeys := false, apart := false, narrowed := true }
def FnSetBothUptoSaid : Prop := fnSetBothUptoRow.holds Try.pinned (OpenSpec.upto fnSetBothSpec)

/-- 'laws.FnSetLess', WHERE WHAT IT READS IS OF BULK AT MOST 1048576: true; the input reads as it did. -/
def fnSetLessUptoRow : OpenClaim := { program := "ytpggfdjnebccnaa", sum := "a4f32b464f13080a5cda828218c308a4850062e880c54fb3533ffc5d09c6d9be", func := "loop.example/tideline/laws.FnSetLess", spec := "fnSetLess", inPlace := ["internal/reflectlite.ValueOf", "internal/reflectlite.Swapper", "(internal/reflectlite.Value).Len"], unfollowed := true, recurses := true, plainKeys := false, apart := false, narrowed := true }
def FnSetLessUptoSaid : Prop := fnSetLessUptoRow.holds Try.pinned (OpenSpec.upto fnSetLessSpec)

/-- 'laws.FnExactBatchTimes', WHERE WHAT IT READS IS OF BULK AT MOST 1048576: true; the input reads as it did. -/
def fnExactBatchTimesUptoRow : OpenClaim := { program := "ytpggfdjnebccnaa", sum := "a4f32b464f13080a5cda828218c308a4850062e880c54fb3533ffc5d09c6d9be", func := "loop.example/tideline/laws.FnExactBatchTimes", spec := "fnExactBatchTimes", plainKeys := false, apart := false, narrowed := true }
def FnExactBatchTimesUptoSaid : Prop := fnExactBatchTimesUptoRow.holds Try.pinned (OpenSpec.upto fnExactBatchTimesSpec)

/-- 'laws.FnBatchTimes', WHERE WHAT IT READS IS OF BULK AT MOST 1048576: true; the input reads as it did. -/
def fnBatchTimesUptoRow : OpenClaim := { program := "ytpggfdjnebccnaa", sum := "a4f32b464f13080a5cda828218c308a4850062e880c54fb3533ffc5d09c6d9be", func := "loop.example/tideline/laws.FnBatchTimes", spec := "fnBatchTimes", inPlace := ["internal/reflectlite.ValueOf", "internal/reflectlite.Swapper", "(internal/reflectlite.Value).Len"], unfollowed := true, recurses := true, plainKeys := false, apart := false, narrowed := true }
def FnBatchTimesUptoSaid : Prop := fnBatchTimesUptoRow.holds Try.pinned (OpenSpec.upto fnBatchTimesSpec)

end Rows
end Go.Proofs.Ytpggfdjnebccnaa
