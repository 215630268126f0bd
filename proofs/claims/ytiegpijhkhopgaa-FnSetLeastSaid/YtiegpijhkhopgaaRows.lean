/-
  No cell of these rows narrows 'for every input' (looked for: loops, veiled, ifaces, maps, wideKeys, modest, calm, conditions, laid).
  DERIVED. THE GIVEN ROWS OF THIS SEAT. 13 by the template 'for every input the law returns true; each argument reads behind the call as it read before'; 0 by the template 'total and deterministic' (their statements: YtiegpijhkhopgaaTotals.lean).
  GIVEN WITH THE SEED: the statements are not yours to turn. If you find one false, say at which input.
  Laid BY PROGRAM, IN A SANDBOX (cutbox-rows.mjs): the forced cells as the released guide's own fill.sh prints them over the translation cb9b5ff29d5d6d65… (all of the seat's roots in one cut). By AI agents, Wed Nov 11 2026. No macro, syntax, notation, axiom, sorry.
-/
import Derived.Test.YtiegpijhkhopgaaChecked
import GoSem.Claim
import GoSem.ClaimJoined
import GoSem.ClaimMapViews
import Derived.JoinedTies
import Derived.KernelRfl
namespace Go.Proofs.Ytiegpijhkhopgaa
/- THE CELL 'sum', in the pinned program and in every row, IS THE sha256 OF THE DUMP (.gsa) THAT YtiegpijhkhopgaaProg.lean LOADS. Nothing in Lean hashes anything: it is a label: what it is worth is what the hold of that sum in a sandbox is worth. -/
noncomputable def Try.pinned : Pinned := { name := "ytiegpijhkhopgaa", sum := "cb9b5ff29d5d6d65878dc1f687c2d011b68e7061fe97ca1483028509f5907872", checked := Try.checked }
namespace Rows
def none {H : Type} : Left H := { results := [], args := [] }

/-- 'laws.FnExactFrontMove': WHATEVER THE INPUT: true; the input reads as it did. -/
def fnExactFrontMoveSpec : ChangeSpec := { name := "fnExactFrontMove", fn := fun _ => fun
  | [d1, d2] => { results := [.lit (.bool true)], args := [d1, d2] }
  | _ => none }
def fnExactFrontMoveRow : OpenClaim := { program := "ytiegpijhkhopgaa", sum := "cb9b5ff29d5d6d65878dc1f687c2d011b68e7061fe97ca1483028509f5907872", func := "loop.example/tideline/laws.FnExactFrontMove", spec := "fnExactFrontMove", apart := false }
def FnExactFrontMoveSaid : Prop := fnExactFrontMoveRow.holds Try.pinned (OpenSpec.ofChange fnExactFrontMoveSpec)

/-- ITS FALSE NEIGHBOUR: 'it returns false'. Refute it at one input. -/
def fnExactFrontMoveWrong : ChangeSpec := { name := "fnExactFrontMove", fn := fun _ => fun
  | [d1, d2] => { results := [.lit (.bool false)], args := [d1, d2] }
  | _ => none }
def FnExactFrontMoveWrongFalsely : Prop := fnExactFrontMoveRow.holds Try.pinned (OpenSpec.ofChange fnExactFrontMoveWrong)

/-- 'laws.FnExactSetLess': WHATEVER THE INPUT: true; the input reads as it did. -/
def fnExactSetLessSpec : ChangeSpec := { name := "fnExactSetLess", fn := fun _ => fun
  | [d] => { results := [.lit (.bool true)], args := [d] }
  | _ => none }
def fnExactSetLessRow : OpenClaim := { program := "ytiegpijhkhopgaa", sum := "cb9b5ff29d5d6d65878dc1f687c2d011b68e7061fe97ca1483028509f5907872", func := "loop.example/tideline/laws.FnExactSetLess", spec := "fnExactSetLess", apart := false }
def FnExactSetLessSaid : Prop := fnExactSetLessRow.holds Try.pinned (OpenSpec.ofChange fnExactSetLessSpec)

/-- ITS FALSE NEIGHBOUR: 'it returns false'. Refute it at one input. -/
def fnExactSetLessWrong : ChangeSpec := { name := "fnExactSetLess", fn := fun _ => fun
  | [d] => { results := [.lit (.bool false)], args := [d] }
  | _ => none }
def FnExactSetLessWrongFalsely : Prop := fnExactSetLessRow.holds Try.pinned (OpenSpec.ofChange fnExactSetLessWrong)

/-- 'laws.FnExactBatchOk': WHATEVER THE INPUT: true; the input reads as it did. -/
def fnExactBatchOkSpec : ChangeSpec := { name := "fnExactBatchOk", fn := fun _ => fun
  | [d] => { results := [.lit (.bool true)], args := [d] }
  | _ => none }
def fnExactBatchOkRow : OpenClaim := { program := "ytiegpijhkhopgaa", sum := "cb9b5ff29d5d6d65878dc1f687c2d011b68e7061fe97ca1483028509f5907872", func := "loop.example/tideline/laws.FnExactBatchOk", spec := "fnExactBatchOk", apart := false }
def FnExactBatchOkSaid : Prop := fnExactBatchOkRow.holds Try.pinned (OpenSpec.ofChange fnExactBatchOkSpec)

/-- ITS FALSE NEIGHBOUR: 'it returns false'. Refute it at one input. -/
def fnExactBatchOkWrong : ChangeSpec := { name := "fnExactBatchOk", fn := fun _ => fun
  | [d] => { results := [.lit (.bool false)], args := [d] }
  | _ => none }
def FnExactBatchOkWrongFalsely : Prop := fnExactBatchOkRow.holds Try.pinned (OpenSpec.ofChange fnExactBatchOkWrong)

/-- 'laws.FnExactSetOnce': WHATEVER THE INPUT: true; the input reads as it did. -/
def fnExactSetOnceSpec : ChangeSpec := { name := "fnExactSetOnce", fn := fun _ => fun
  | [d] => { results := [.lit (.bool true)], args := [d] }
  | _ => none }
def fnExactSetOnceRow : OpenClaim := { program := "ytiegpijhkhopgaa", sum := "cb9b5ff29d5d6d65878dc1f687c2d011b68e7061fe97ca1483028509f5907872", func := "loop.example/tideline/laws.FnExactSetOnce", spec := "fnExactSetOnce", apart := false }
def FnExactSetOnceSaid : Prop := fnExactSetOnceRow.holds Try.pinned (OpenSpec.ofChange fnExactSetOnceSpec)

/-- ITS FALSE NEIGHBOUR: 'it returns false'. Refute it at one input. -/
def fnExactSetOnceWrong : ChangeSpec := { name := "fnExactSetOnce", fn := fun _ => fun
  | [d] => { results := [.lit (.bool false)], args := [d] }
  | _ => none }
def FnExactSetOnceWrongFalsely : Prop := fnExactSetOnceRow.holds Try.pinned (OpenSpec.ofChange fnExactSetOnceWrong)

/-- 'laws.FnExactSetCount': WHATEVER THE INPUT: true; the input reads as it did. -/
def fnExactSetCountSpec : ChangeSpec := { name := "fnExactSetCount", fn := fun _ => fun
  | [d] => { results := [.lit (.bool true)], args := [d] }
  | _ => none }
def fnExactSetCountRow : OpenClaim := { program := "ytiegpijhkhopgaa", sum := "cb9b5ff29d5d6d65878dc1f687c2d011b68e7061fe97ca1483028509f5907872", func := "loop.example/tideline/laws.FnExactSetCount", spec := "fnExactSetCount", apart := false }
def FnExactSetCountSaid : Prop := fnExactSetCountRow.holds Try.pinned (OpenSpec.ofChange fnExactSetCountSpec)

/-- ITS FALSE NEIGHBOUR: 'it returns false'. Refute it at one input. -/
def fnExactSetCountWrong : ChangeSpec := { name := "fnExactSetCount", fn := fun _ => fun
  | [d] => { results := [.lit (.bool false)], args := [d] }
  | _ => none }
def FnExactSetCountWrongFalsely : Prop := fnExactSetCountRow.holds Try.pinned (OpenSpec.ofChange fnExactSetCountWrong)

/-- 'laws.FnFrontCovers': WHATEVER THE INPUT: true; the input reads as it did. -/
def fnFrontCoversSpec : ChangeSpec := { name := "fnFrontCovers", fn := fun _ => fun
  | [d] => { results := [.lit (.bool true)], args := [d] }
  | _ => none }
def fnFrontCoversRow : OpenClaim := { program := "ytiegpijhkhopgaa", sum := "cb9b5ff29d5d6d65878dc1f687c2d011b68e7061fe97ca1483028509f5907872", func := "loop.example/tideline/laws.FnFrontCovers", spec := "fnFrontCovers", apart := false }
def FnFrontCoversSaid : Prop := fnFrontCoversRow.holds Try.pinned (OpenSpec.ofChange fnFrontCoversSpec)

/-- ITS FALSE NEIGHBOUR: 'it returns false'. Refute it at one input. -/
def fnFrontCoversWrong : ChangeSpec := { name := "fnFrontCovers", fn := fun _ => fun
  | [d] => { results := [.lit (.bool false)], args := [d] }
  | _ => none }
def FnFrontCoversWrongFalsely : Prop := fnFrontCoversRow.holds Try.pinned (OpenSpec.ofChange fnFrontCoversWrong)

/-- 'laws.FnExactSetLeast': WHATEVER THE INPUT: true; the input reads as it did. -/
def fnExactSetLeastSpec : ChangeSpec := { name := "fnExactSetLeast", fn := fun _ => fun
  | [d] => { results := [.lit (.bool true)], args := [d] }
  | _ => none }
def fnExactSetLeastRow : OpenClaim := { program := "ytiegpijhkhopgaa", sum := "cb9b5ff29d5d6d65878dc1f687c2d011b68e7061fe97ca1483028509f5907872", func := "loop.example/tideline/laws.FnExactSetLeast", spec := "fnExactSetLeast", apart := false }
def FnExactSetLeastSaid : Prop := fnExactSetLeastRow.holds Try.pinned (OpenSpec.ofChange fnExactSetLeastSpec)

/-- ITS FALSE NEIGHBOUR: 'it returns false'. Refute it at one input. -/
def fnExactSetLeastWrong : ChangeSpec := { name := "fnExactSetLeast", fn := fun _ => fun
  | [d] => { results := [.lit (.bool false)], args := [d] }
  | _ => none }
def FnExactSetLeastWrongFalsely : Prop := fnExactSetLeastRow.holds Try.pinned (OpenSpec.ofChange fnExactSetLeastWrong)

/-- 'laws.FnFrontMoveTwice': WHATEVER THE INPUT: true; the input reads as it did. -/
def fnFrontMoveTwiceSpec : ChangeSpec := { name := "fnFrontMoveTwice", fn := fun _ => fun
  | [d] => { results := [.lit (.bool true)], args := [d] }
  | _ => none }
def fnFrontMoveTwiceRow : OpenClaim := { program := "ytiegpijhkhopgaa", sum := "cb9b5ff29d5d6d65878dc1f687c2d011b68e7061fe97ca1483028509f5907872", func := "loop.example/tideline/laws.FnFrontMoveTwice", spec := "fnFrontMoveTwice", apart := false }
def FnFrontMoveTwiceSaid : Prop := fnFrontMoveTwiceRow.holds Try.pinned (OpenSpec.ofChange fnFrontMoveTwiceSpec)

/-- ITS FALSE NEIGHBOUR: 'it returns false'. Refute it at one input. -/
def fnFrontMoveTwiceWrong : ChangeSpec := { name := "fnFrontMoveTwice", fn := fun _ => fun
  | [d] => { results := [.lit (.bool false)], args := [d] }
  | _ => none }
def FnFrontMoveTwiceWrongFalsely : Prop := fnFrontMoveTwiceRow.holds Try.pinned (OpenSpec.ofChange fnFrontMoveTwiceWrong)

/-- 'laws.FnFrontMove': WHATEVER THE INPUT: true; the input reads as it did. -/
def fnFrontMoveSpec : ChangeSpec := { name := "fnFrontMove", fn := fun _ => fun
  | [d] => { results := [.lit (.bool true)], args := [d] }
  | _ => none }
def fnFrontMoveRow : OpenClaim := { program := "ytiegpijhkhopgaa", sum := "cb9b5ff29d5d6d65878dc1f687c2d011b68e7061fe97ca1483028509f5907872", func := "loop.example/tideline/laws.FnFrontMove", spec := "fnFrontMove", apart := false }
def FnFrontMoveSaid : Prop := fnFrontMoveRow.holds Try.pinned (OpenSpec.ofChange fnFrontMoveSpec)

/-- ITS FALSE NEIGHBOUR: 'it returns false'. Refute it at one input. -/
def fnFrontMoveWrong : ChangeSpec := { name := "fnFrontMove", fn := fun _ => fun
  | [d] => { results := [.lit (.bool false)], args := [d] }
  | _ => none }
def FnFrontMoveWrongFalsely : Prop := fnFrontMoveRow.holds Try.pinned (OpenSpec.ofChange fnFrontMoveWrong)

/-- 'laws.FnFrontMoveLast': WHATEVER THE INPUT: true; the input reads as it did. -/
def fnFrontMoveLastSpec : ChangeSpec := { name := "fnFrontMoveLast", fn := fun _ => fun
  | [d] => { results := [.lit (.bool true)], args := [d] }
  | _ => none }
def fnFrontMoveLastRow : OpenClaim := { program := "ytiegpijhkhopgaa", sum := "cb9b5ff29d5d6d65878dc1f687c2d011b68e7061fe97ca1483028509f5907872", func := "loop.example/tideline/laws.FnFrontMoveLast", spec := "fnFrontMoveLast", apart := false }
def FnFrontMoveLastSaid : Prop := fnFrontMoveLastRow.holds Try.pinned (OpenSpec.ofChange fnFrontMoveLastSpec)

/-- ITS FALSE NEIGHBOUR: 'it returns false'. Refute it at one input. -/
def fnFrontMoveLastWrong : ChangeSpec := { name := "fnFrontMoveLast", fn := fun _ => fun
  | [d] => { results := [.lit (.bool false)], args := [d] }
  | _ => none }
def FnFrontMoveLastWrongFalsely : Prop := fnFrontMoveLastRow.holds Try.pinned (OpenSpec.ofChange fnFrontMoveLastWrong)

/-- 'laws.FnSetCount': WHATEVER THE INPUT: true; the input reads as it did. -/
def fnSetCountSpec : ChangeSpec := { name := "fnSetCount", fn := fun _ => fun
  | [d] => { results := [.lit (.bool true)], args := [d] }
  | _ => none }
def fnSetCountRow : OpenClaim := { program := "ytiegpijhkhopgaa", sum := "cb9b5ff29d5d6d65878dc1f687c2d011b68e7061fe97ca1483028509f5907872", func := "loop.example/tideline/laws.FnSetCount", spec := "fnSetCount", apart := false }
def FnSetCountSaid : Prop := fnSetCountRow.holds Try.pinned (OpenSpec.ofChange fnSetCountSpec)

/-- ITS FALSE NEIGHBOUR: 'it returns false'. Refute it at one input. -/
def fnSetCountWrong : ChangeSpec := { name := "fnSetCount", fn := fun _ => fun
  | [d] => { results := [.lit (.bool false)], args := [d] }
  | _ => none }
def FnSetCountWrongFalsely : Prop := fnSetCountRow.holds Try.pinned (OpenSpec.ofChange fnSetCountWrong)

/-- 'laws.FnSetOnce': WHATEVER THE INPUT: true; the input reads as it did. -/
def fnSetOnceSpec : ChangeSpec := { name := "fnSetOnce", fn := fun _ => fun
  | [d] => { results := [.lit (.bool true)], args := [d] }
  | _ => none }
def fnSetOnceRow : OpenClaim := { program := "ytiegpijhkhopgaa", sum := "cb9b5ff29d5d6d65878dc1f687c2d011b68e7061fe97ca1483028509f5907872", func := "loop.example/tideline/laws.FnSetOnce", spec := "fnSetOnce", apart := false }
def FnSetOnceSaid : Prop := fnSetOnceRow.holds Try.pinned (OpenSpec.ofChange fnSetOnceSpec)

/-- ITS FALSE NEIGHBOUR: 'it returns false'. Refute it at one input. -/
def fnSetOnceWrong : ChangeSpec := { name := "fnSetOnce", fn := fun _ => fun
  | [d] => { results := [.lit (.bool false)], args := [d] }
  | _ => none }
def FnSetOnceWrongFalsely : Prop := fnSetOnceRow.holds Try.pinned (OpenSpec.ofChange fnSetOnceWrong)

/-- 'laws.FnSetLeast': WHATEVER THE INPUT: true; the input reads as it did. -/
def fnSetLeastSpec : ChangeSpec := { name := "fnSetLeast", fn := fun _ => fun
  | [d] => { results := [.lit (.bool true)], args := [d] }
  | _ => none }
def fnSetLeastRow : OpenClaim := { program := "ytiegpijhkhopgaa", sum := "cb9b5ff29d5d6d65878dc1f687c2d011b68e7061fe97ca1483028509f5907872", func := "loop.example/tideline/laws.FnSetLeast", spec := "fnSetLeast", apart := false }
def FnSetLeastSaid : Prop := fnSetLeastRow.holds Try.pinned (OpenSpec.ofChange fnSetLeastSpec)

/-- ITS FALSE NEIGHBOUR: 'it returns false'. Refute it at one input. -/
def fnSetLeastWrong : ChangeSpec := { name := "fnSetLeast", fn := fun _ => fun
  | [d] => { results := [.lit (.bool false)], args := [d] }
  | _ => none }
def FnSetLeastWrongFalsely : Prop := fnSetLeastRow.holds Try.pinned (OpenSpec.ofChange fnSetLeastWrong)

/- THE SECOND FORM. 'bulk': how many values and letters a reading holds, each counted each time it is reached (what is shared counts as often as it is met; a slice's spare places count too). A statement '..UptoSaid' is the law's where the arguments, and the package variables that the reading takes, are together of bulk at most 1048576: NARROWER than '..Said'. Prove '..Said' where nothing that the law and all that it calls make is longer than what came in: it says more and counts as full. Else prove '..UptoSaid'. A law counts once. -/
mutual
def uptoBulk {H : Type} : DataW H → Nat
  | .lit (.string bytes) => bytes.length + 1
  | .lit _ => 1
  | .nil => 1
  | .ptr d => uptoBulk d + 1
  | .slice elems spare => uptoBulkAll elems + uptoBulkAll spare + 1
  | .agg parts => uptoBulkAll parts + 1
  | .iface _ d => uptoBulk d + 1
  | .map entries => uptoBulkEntries entries + 1
  | .held _ => 1
def uptoBulkAll {H : Type} : List (DataW H) → Nat
  | [] => 0
  | d :: r => uptoBulk d + uptoBulkAll r
def uptoBulkEntries {H : Type} : List (Lit × DataW H) → Nat
  | [] => 0
  | x :: r => uptoBulkEntry x + uptoBulkEntries r
def uptoBulkEntry {H : Type} : Lit × DataW H → Nat
  | (.string bytes, d) => bytes.length + uptoBulk d + 1
  | (_, d) => uptoBulk d + 1
 end
def uptoSmall : (H : Type) → List (DataW H) → Bool := fun _ ds => decide (uptoBulkAll ds ≤ 1048576)
def OpenSpec.upto (s : _root_.Go.ChangeSpec) : _root_.Go.OpenSpec := { _root_.Go.OpenSpec.ofChange s with cond := some uptoSmall }

/-- 'laws.FnExactFrontMove', WHERE WHAT IT READS IS OF BULK AT MOST 1048576: true; the input reads as it did. -/
def fnExactFrontMoveUptoRow : OpenClaim := { program := "ytiegpijhkhopgaa", sum := "cb9b5ff29d5d6d65878dc1f687c2d011b68e7061fe97ca1483028509f5907872", func := "loop.example/tideline/laws.FnExactFrontMove", spec := "fnExactFrontMove", apart := false, narrowed := true }
def FnExactFrontMoveUptoSaid : Prop := fnExactFrontMoveUptoRow.holds Try.pinned (OpenSpec.upto fnExactFrontMoveSpec)

/-- 'laws.FnExactSetLess', WHERE WHAT IT READS IS OF BULK AT MOST 1048576: true; the input reads as it did. -/
def fnExactSetLessUptoRow : OpenClaim := { program := "ytiegpijhkhopgaa", sum := "cb9b5ff29d5d6d65878dc1f687c2d011b68e7061fe97ca1483028509f5907872", func := "loop.example/tideline/laws.FnExactSetLess", spec := "fnExactSetLess", apart := false, narrowed := true }
def FnExactSetLessUptoSaid : Prop := fnExactSetLessUptoRow.holds Try.pinned (OpenSpec.upto fnExactSetLessSpec)

/-- 'laws.FnExactBatchOk', WHERE WHAT IT READS IS OF BULK AT MOST 1048576: true; the input reads as it did. -/
def fnExactBatchOkUptoRow : OpenClaim := { program := "ytiegpijhkhopgaa", sum := "cb9b5ff29d5d6d65878dc1f687c2d011b68e7061fe97ca1483028509f5907872", func := "loop.example/tideline/laws.FnExactBatchOk", spec := "fnExactBatchOk", apart := false, narrowed := true }
def FnExactBatchOkUptoSaid : Prop := fnExactBatchOkUptoRow.holds Try.pinned (OpenSpec.upto fnExactBatchOkSpec)

/-- 'laws.FnExactSetOnce', WHERE WHAT IT READS IS OF BULK AT MOST 1048576: true; the input reads as it did. -/
def fnExactSetOnceUptoRow : OpenClaim := { program := "ytiegpijhkhopgaa", sum := "cb9b5ff29d5d6d65878dc1f687c2d011b68e7061fe97ca1483028509f5907872", func := "loop.example/tideline/laws.FnExactSetOnce", spec := "fnExactSetOnce", apart := false, narrowed := true }
def FnExactSetOnceUptoSaid : Prop := fnExactSetOnceUptoRow.holds Try.pinned (OpenSpec.upto fnExactSetOnceSpec)

/-- 'laws.FnExactSetCount', WHERE WHAT IT READS IS OF BULK AT MOST 1048576: true; the input reads as it did. -/
def fnExactSetCountUptoRow : OpenClaim := { program := "ytiegpijhkhopgaa", sum := "cb9b5ff29d5d6d65878dc1f687c2d011b68e7061fe97ca1483028509f5907872", func := "loop.example/tideline/laws.FnExactSetCount", spec := "fnExactSetCount", apart := false, narrowed := true }
def FnExactSetCountUptoSaid : Prop := fnExactSetCountUptoRow.holds Try.pinned (OpenSpec.upto fnExactSetCountSpec)

/-- 'laws.FnFrontCovers', WHERE WHAT IT READS IS OF BULK AT MOST 1048576: true; the input reads as it did. -/
def fnFrontCoversUptoRow : OpenClaim := { program := "ytiegpijhkhopgaa", sum := "cb9b5ff29d5d6d65878dc1f687c2d011b68e7061fe97ca1483028509f5907872", func := "loop.example/tideline/laws.FnFrontCovers", spec := "fnFrontCovers", apart := false, narrowed := true }
def FnFrontCoversUptoSaid : Prop := fnFrontCoversUptoRow.holds Try.pinned (OpenSpec.upto fnFrontCoversSpec)

/-- 'laws.FnExactSetLeast', WHERE WHAT IT READS IS OF BULK AT MOST 1048576: true; the input reads as it did. -/
def fnExactSetLeastUptoRow : OpenClaim := { program := "ytiegpijhkhopgaa", sum := "cb9b5ff29d5d6d65878dc1f687c2d011b68e7061fe97ca1483028509f5907872", func := "loop.example/tideline/laws.FnExactSetLeast", spec := "fnExactSetLeast", apart := false, narrowed := true }
def FnExactSetLeastUptoSaid : Prop := fnExactSetLeastUptoRow.holds Try.pinned (OpenSpec.upto fnExactSetLeastSpec)

/-- 'laws.FnFrontMoveTwice', WHERE WHAT IT READS IS OF BULK AT MOST 1048576: true; the input reads as it did. -/
def fnFrontMoveTwiceUptoRow : OpenClaim := { program := "ytiegpijhkhopgaa", sum := "cb9b5ff29d5d6d65878dc1f687c2d011b68e7061fe97ca1483028509f5907872", func := "loop.example/tideline/laws.FnFrontMoveTwice", spec := "fnFrontMoveTwice", apart := false, narrowed := true }
def FnFrontMoveTwiceUptoSaid : Prop := fnFrontMoveTwiceUptoRow.holds Try.pinned (OpenSpec.upto fnFrontMoveTwiceSpec)

/-- 'laws.FnFrontMove', WHERE WHAT IT READS IS OF BULK AT MOST 1048576: true; the input reads as it did. -/
def fnFrontMoveUptoRow : OpenClaim := { program := "ytiegpijhkhopgaa", sum := "cb9b5ff29d5d6d65878dc1f687c2d011b68e7061fe97ca1483028509f5907872", func := "loop.example/tideline/laws.FnFrontMove", spec := "fnFrontMove", apart := false, narrowed := true }
def FnFrontMoveUptoSaid : Prop := fnFrontMoveUptoRow.holds Try.pinned (OpenSpec.upto fnFrontMoveSpec)

/-- 'laws.FnFrontMoveLast', WHERE WHAT IT READS IS OF BULK AT MOST 1048576: true; the input reads as it did. -/
def fnFrontMoveLastUptoRow : OpenClaim := { program := "ytiegpijhkhopgaa", sum := "cb9b5ff29d5d6d65878dc1f687c2d011b68e7061fe97ca1483028509f5907872", func := "loop.example/tideline/laws.FnFrontMoveLast", spec := "fnFrontMoveLast", apart := false, narrowed := true }
def FnFrontMoveLastUptoSaid : Prop := fnFrontMoveLastUptoRow.holds Try.pinned (OpenSpec.upto fnFrontMoveLastSpec)

/-- 'laws.FnSetCount', WHERE WHAT IT READS IS OF BULK AT MOST 1048576: true; the input reads as it did. -/
def fnSetCountUptoRow : OpenClaim := { program := "ytiegpijhkhopgaa", sum := "cb9b5ff29d5d6d65878dc1f687c2d011b68e7061fe97ca1483028509f5907872", func := "loop.example/tideline/laws.FnSetCount", spec := "fnSetCount", apart := false, narrowed := true }
def FnSetCountUptoSaid : Prop := fnSetCountUptoRow.holds Try.pinned (OpenSpec.upto fnSetCountSpec)

/-- 'laws.FnSetOnce', WHERE WHAT IT READS IS OF BULK AT MOST 1048576: true; the input reads as it did. -/
def fnSetOnceUptoRow : OpenClaim := { program := "ytiegpijhkhopgaa", sum := "cb9b5ff29d5d6d65878dc1f687c2d011b68e7061fe97ca1483028509f5907872", func := "loop.example/tideline/laws.FnSetOnce", spec := "fnSetOnce", apart := false, narrowed := true }
def FnSetOnceUptoSaid : Prop := fnSetOnceUptoRow.holds Try.pinned (OpenSpec.upto fnSetOnceSpec)

/-- 'laws.FnSetLeast', WHERE WHAT IT READS IS OF BULK AT MOST 1048576: true; the input reads as it did. -/
def fnSetLeastUptoRow : OpenClaim := { program := "ytiegpijhkhopgaa", sum := "cb9b5ff29d5d6d65878dc1f687c2d011b68e7061fe97ca1483028509f5907872", func := "loop.example/tideline/laws.FnSetLeast", spec := "fnSetLeast", apart := false, narrowed := true }
def FnSetLeastUptoSaid : Prop := fnSetLeastUptoRow.holds Try.pinned (OpenSpec.upto fnSetLeastSpec)

end Rows
end Go.Proofs.Ytiegpijhkhopgaa
