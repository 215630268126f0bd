/-
  No cell of these rows narrows 'for every input' (looked for: loops, veiled, ifaces, maps, wideKeys, modest, calm, conditions, laid).
  DERIVED. THE GIVEN ROWS OF THIS SEAT. 12 by the template 'for every input the law returns true; each argument reads behind the call as it read before'; 0 by the template 'total and deterministic' (their statements: YtjlkffmdmifahaaTotals.lean).
  GIVEN WITH THE SEED: the statements are not yours to turn. If you find one false, say at which input.
  Laid BY PROGRAM, IN A SANDBOX (cutbox-rows.mjs): the forced cells as the released guide's own fill.sh prints them over the translation 3457cf1ba7537e6c… (all of the seat's roots in one cut). By AI agents, Wed Nov 11 2026. No macro, syntax, notation, axiom, sorry.
-/
import Derived.Test.YtjlkffmdmifahaaChecked
import GoSem.Claim
import GoSem.ClaimJoined
import GoSem.ClaimMapViews
import Derived.JoinedTies
import Derived.KernelRfl
namespace Go.Proofs.Ytjlkffmdmifahaa
/- THE CELL 'sum', in the pinned program and in every row, IS THE sha256 OF THE DUMP (.gsa) THAT YtjlkffmdmifahaaProg.lean LOADS. Nothing in Lean hashes anything: it is a label: what it is worth is what the hold of that sum in a sandbox is worth. -/
noncomputable def Try.pinned : Pinned := { name := "ytjlkffmdmifahaa", sum := "3457cf1ba7537e6c1b635dc9edfb55f21d3e397b6d6c2c5672a6f74b2927a055", checked := Try.checked }
namespace Rows
def none {H : Type} : Left H := { results := [], args := [] }

/-- 'laws.FnBatchMoveBoth': WHATEVER THE INPUT: true; the input reads as it did. -/
def fnBatchMoveBothSpec : ChangeSpec := { name := "fnBatchMoveBoth", fn := fun _ => fun
  | [d1, d2] => { results := [.lit (.bool true)], args := [d1, d2] }
  | _ => none }
def fnBatchMoveBothRow : OpenClaim := { program := "ytjlkffmdmifahaa", sum := "3457cf1ba7537e6c1b635dc9edfb55f21d3e397b6d6c2c5672a6f74b2927a055", func := "loop.example/tideline/laws.FnBatchMoveBoth", spec := "fnBatchMoveBoth", inPlace := ["internal/reflectlite.ValueOf", "internal/reflectlite.Swapper", "(internal/reflectlite.Value).Len"], unfollowed := true, recurses := true, plainKeys := false, apart := false }
def FnBatchMoveBothSaid : Prop := fnBatchMoveBothRow.holds Try.pinned (OpenSpec.ofChange fnBatchMoveBothSpec)

/-- ITS FALSE NEIGHBOUR: 'it returns false'. Refute it at one input. -/
def fnBatchMoveBothWrong : ChangeSpec := { name := "fnBatchMoveBoth", fn := fun _ => fun
  | [d1, d2] => { results := [.lit (.bool false)], args := [d1, d2] }
  | _ => none }
def FnBatchMoveBothWrongFalsely : Prop := fnBatchMoveBothRow.holds Try.pinned (OpenSpec.ofChange fnBatchMoveBothWrong)

/-- 'laws.FnBatchMoveTwice': WHATEVER THE INPUT: true; the input reads as it did. -/
def fnBatchMoveTwiceSpec : ChangeSpec := { name := "fnBatchMoveTwice", fn := fun _ => fun
  | [d] => { results := [.lit (.bool true)], args := [d] }
  | _ => none }
def fnBatchMoveTwiceRow : OpenClaim := { program := "ytjlkffmdmifahaa", sum := "3457cf1ba7537e6c1b635dc9edfb55f21d3e397b6d6c2c5672a6f74b2927a055", func := "loop.example/tideline/laws.FnBatchMoveTwice", spec := "fnBatchMoveTwice", inPlace := ["internal/reflectlite.ValueOf", "internal/reflectlite.Swapper", "(internal/reflectlite.Value).Len"], unfollowed := true, recurses := true, plainKeys := false, apart := false }
def FnBatchMoveTwiceSaid : Prop := fnBatchMoveTwiceRow.holds Try.pinned (OpenSpec.ofChange fnBatchMoveTwiceSpec)

/-- ITS FALSE NEIGHBOUR: 'it returns false'. Refute it at one input. -/
def fnBatchMoveTwiceWrong : ChangeSpec := { name := "fnBatchMoveTwice", fn := fun _ => fun
  | [d] => { results := [.lit (.bool false)], args := [d] }
  | _ => none }
def FnBatchMoveTwiceWrongFalsely : Prop := fnBatchMoveTwiceRow.holds Try.pinned (OpenSpec.ofChange fnBatchMoveTwiceWrong)

/-- 'laws.FnBatchMove': WHATEVER THE INPUT: true; the input reads as it did. -/
def fnBatchMoveSpec : ChangeSpec := { name := "fnBatchMove", fn := fun _ => fun
  | [d] => { results := [.lit (.bool true)], args := [d] }
  | _ => none }
def fnBatchMoveRow : OpenClaim := { program := "ytjlkffmdmifahaa", sum := "3457cf1ba7537e6c1b635dc9edfb55f21d3e397b6d6c2c5672a6f74b2927a055", func := "loop.example/tideline/laws.FnBatchMove", spec := "fnBatchMove", inPlace := ["internal/reflectlite.ValueOf", "internal/reflectlite.Swapper", "(internal/reflectlite.Value).Len"], unfollowed := true, recurses := true, plainKeys := false, apart := false }
def FnBatchMoveSaid : Prop := fnBatchMoveRow.holds Try.pinned (OpenSpec.ofChange fnBatchMoveSpec)

/-- ITS FALSE NEIGHBOUR: 'it returns false'. Refute it at one input. -/
def fnBatchMoveWrong : ChangeSpec := { name := "fnBatchMove", fn := fun _ => fun
  | [d] => { results := [.lit (.bool false)], args := [d] }
  | _ => none }
def FnBatchMoveWrongFalsely : Prop := fnBatchMoveRow.holds Try.pinned (OpenSpec.ofChange fnBatchMoveWrong)

/-- 'laws.FnBatchOrder': WHATEVER THE INPUT: true; the input reads as it did. -/
def fnBatchOrderSpec : ChangeSpec := { name := "fnBatchOrder", fn := fun _ => fun
  | [d] => { results := [.lit (.bool true)], args := [d] }
  | _ => none }
def fnBatchOrderRow : OpenClaim := { program := "ytjlkffmdmifahaa", sum := "3457cf1ba7537e6c1b635dc9edfb55f21d3e397b6d6c2c5672a6f74b2927a055", func := "loop.example/tideline/laws.FnBatchOrder", spec := "fnBatchOrder", inPlace := ["internal/reflectlite.ValueOf", "internal/reflectlite.Swapper", "(internal/reflectlite.Value).Len"], unfollowed := true, recurses := true, plainKeys := false, apart := false }
def FnBatchOrderSaid : Prop := fnBatchOrderRow.holds Try.pinned (OpenSpec.ofChange fnBatchOrderSpec)

/-- ITS FALSE NEIGHBOUR: 'it returns false'. Refute it at one input. -/
def fnBatchOrderWrong : ChangeSpec := { name := "fnBatchOrder", fn := fun _ => fun
  | [d] => { results := [.lit (.bool false)], args := [d] }
  | _ => none }
def FnBatchOrderWrongFalsely : Prop := fnBatchOrderRow.holds Try.pinned (OpenSpec.ofChange fnBatchOrderWrong)

/-- 'laws.FnBatchTurn': WHATEVER THE INPUT: true; the input reads as it did. -/
def fnBatchTurnSpec : ChangeSpec := { name := "fnBatchTurn", fn := fun _ => fun
  | [d] => { results := [.lit (.bool true)], args := [d] }
  | _ => none }
def fnBatchTurnRow : OpenClaim := { program := "ytjlkffmdmifahaa", sum := "3457cf1ba7537e6c1b635dc9edfb55f21d3e397b6d6c2c5672a6f74b2927a055", func := "loop.example/tideline/laws.FnBatchTurn", spec := "fnBatchTurn", inPlace := ["internal/reflectlite.ValueOf", "internal/reflectlite.Swapper", "(internal/reflectlite.Value).Len"], unfollowed := true, recurses := true, plainKeys := false, apart := false }
def FnBatchTurnSaid : Prop := fnBatchTurnRow.holds Try.pinned (OpenSpec.ofChange fnBatchTurnSpec)

/-- ITS FALSE NEIGHBOUR: 'it returns false'. Refute it at one input. -/
def fnBatchTurnWrong : ChangeSpec := { name := "fnBatchTurn", fn := fun _ => fun
  | [d] => { results := [.lit (.bool false)], args := [d] }
  | _ => none }
def FnBatchTurnWrongFalsely : Prop := fnBatchTurnRow.holds Try.pinned (OpenSpec.ofChange fnBatchTurnWrong)

/-- 'laws.FnBatchTwice': WHATEVER THE INPUT: true; the input reads as it did. -/
def fnBatchTwiceSpec : ChangeSpec := { name := "fnBatchTwice", fn := fun _ => fun
  | [d] => { results := [.lit (.bool true)], args := [d] }
  | _ => none }
def fnBatchTwiceRow : OpenClaim := { program := "ytjlkffmdmifahaa", sum := "3457cf1ba7537e6c1b635dc9edfb55f21d3e397b6d6c2c5672a6f74b2927a055", func := "loop.example/tideline/laws.FnBatchTwice", spec := "fnBatchTwice", inPlace := ["internal/reflectlite.ValueOf", "internal/reflectlite.Swapper", "(internal/reflectlite.Value).Len"], unfollowed := true, recurses := true, plainKeys := false, apart := false }
def FnBatchTwiceSaid : Prop := fnBatchTwiceRow.holds Try.pinned (OpenSpec.ofChange fnBatchTwiceSpec)

/-- ITS FALSE NEIGHBOUR: 'it returns false'. Refute it at one input. -/
def fnBatchTwiceWrong : ChangeSpec := { name := "fnBatchTwice", fn := fun _ => fun
  | [d] => { results := [.lit (.bool false)], args := [d] }
  | _ => none }
def FnBatchTwiceWrongFalsely : Prop := fnBatchTwiceRow.holds Try.pinned (OpenSpec.ofChange fnBatchTwiceWrong)

/-- 'laws.FnExactBatchOf': WHATEVER THE INPUT: true; the input reads as it did. -/
def fnExactBatchOfSpec : ChangeSpec := { name := "fnExactBatchOf", fn := fun _ => fun
  | [d] => { results := [.lit (.bool true)], args := [d] }
  | _ => none }
def fnExactBatchOfRow : OpenClaim := { program := "ytjlkffmdmifahaa", sum := "3457cf1ba7537e6c1b635dc9edfb55f21d3e397b6d6c2c5672a6f74b2927a055", func := "loop.example/tideline/laws.FnExactBatchOf", spec := "fnExactBatchOf", inPlace := ["internal/reflectlite.ValueOf", "internal/reflectlite.Swapper", "(internal/reflectlite.Value).Len"], unfollowed := true, recurses := true, plainKeys := false, apart := false }
def FnExactBatchOfSaid : Prop := fnExactBatchOfRow.holds Try.pinned (OpenSpec.ofChange fnExactBatchOfSpec)

/-- ITS FALSE NEIGHBOUR: 'it returns false'. Refute it at one input. -/
def fnExactBatchOfWrong : ChangeSpec := { name := "fnExactBatchOf", fn := fun _ => fun
  | [d] => { results := [.lit (.bool false)], args := [d] }
  | _ => none }
def FnExactBatchOfWrongFalsely : Prop := fnExactBatchOfRow.holds Try.pinned (OpenSpec.ofChange fnExactBatchOfWrong)

/-- 'laws.FnExactBatchBoth': WHATEVER THE INPUT: true; the input reads as it did. -/
def fnExactBatchBothSpec : ChangeSpec := { name := "fnExactBatchBoth", fn := fun _ => fun
  | [d1, d2] => { results := [.lit (.bool true)], args := [d1, d2] }
  | _ => none }
def fnExactBatchBothRow : OpenClaim := { program := "ytjlkffmdmifahaa", sum := "3457cf1ba7537e6c1b635dc9edfb55f21d3e397b6d6c2c5672a6f74b2927a055", func := "loop.example/tideline/laws.FnExactBatchBoth", spec := "fnExactBatchBoth", inPlace := ["internal/reflectlite.ValueOf", "internal/reflectlite.Swapper", "(internal/reflectlite.Value).Len"], unfollowed := true, recurses := true, plainKeys := false, apart := false }
def FnExactBatchBothSaid : Prop := fnExactBatchBothRow.holds Try.pinned (OpenSpec.ofChange fnExactBatchBothSpec)

/-- ITS FALSE NEIGHBOUR: 'it returns false'. Refute it at one input. -/
def fnExactBatchBothWrong : ChangeSpec := { name := "fnExactBatchBoth", fn := fun _ => fun
  | [d1, d2] => { results := [.lit (.bool false)], args := [d1, d2] }
  | _ => none }
def FnExactBatchBothWrongFalsely : Prop := fnExactBatchBothRow.holds Try.pinned (OpenSpec.ofChange fnExactBatchBothWrong)

/-- 'laws.FnExactBatchLess': WHATEVER THE INPUT: true; the input reads as it did. -/
def fnExactBatchLessSpec : ChangeSpec := { name := "fnExactBatchLess", fn := fun _ => fun
  | [d] => { results := [.lit (.bool true)], args := [d] }
  | _ => none }
def fnExactBatchLessRow : OpenClaim := { program := "ytjlkffmdmifahaa", sum := "3457cf1ba7537e6c1b635dc9edfb55f21d3e397b6d6c2c5672a6f74b2927a055", func := "loop.example/tideline/laws.FnExactBatchLess", spec := "fnExactBatchLess", inPlace := ["internal/reflectlite.ValueOf", "internal/reflectlite.Swapper", "(internal/reflectlite.Value).Len"], unfollowed := true, recurses := true, plainKeys := false, apart := false }
def FnExactBatchLessSaid : Prop := fnExactBatchLessRow.holds Try.pinned (OpenSpec.ofChange fnExactBatchLessSpec)

/-- ITS FALSE NEIGHBOUR: 'it returns false'. Refute it at one input. -/
def fnExactBatchLessWrong : ChangeSpec := { name := "fnExactBatchLess", fn := fun _ => fun
  | [d] => { results := [.lit (.bool false)], args := [d] }
  | _ => none }
def FnExactBatchLessWrongFalsely : Prop := fnExactBatchLessRow.holds Try.pinned (OpenSpec.ofChange fnExactBatchLessWrong)

/-- 'laws.FnBatchOf': WHATEVER THE INPUT: true; the input reads as it did. -/
def fnBatchOfSpec : ChangeSpec := { name := "fnBatchOf", fn := fun _ => fun
  | [d] => { results := [.lit (.bool true)], args := [d] }
  | _ => none }
def fnBatchOfRow : OpenClaim := { program := "ytjlkffmdmifahaa", sum := "3457cf1ba7537e6c1b635dc9edfb55f21d3e397b6d6c2c5672a6f74b2927a055", func := "loop.example/tideline/laws.FnBatchOf", spec := "fnBatchOf", inPlace := ["internal/reflectlite.ValueOf", "internal/reflectlite.Swapper", "(internal/reflectlite.Value).Len"], unfollowed := true, recurses := true, plainKeys := false, apart := false }
def FnBatchOfSaid : Prop := fnBatchOfRow.holds Try.pinned (OpenSpec.ofChange fnBatchOfSpec)

/-- ITS FALSE NEIGHBOUR: 'it returns false'. Refute it at one input. -/
def fnBatchOfWrong : ChangeSpec := { name := "fnBatchOf", fn := fun _ => fun
  | [d] => { results := [.lit (.bool false)], args := [d] }
  | _ => none }
def FnBatchOfWrongFalsely : Prop := fnBatchOfRow.holds Try.pinned (OpenSpec.ofChange fnBatchOfWrong)

/-- 'laws.FnExactBatchMove': WHATEVER THE INPUT: true; the input reads as it did. -/
def fnExactBatchMoveSpec : ChangeSpec := { name := "fnExactBatchMove", fn := fun _ => fun
  | [d1, d2] => { results := [.lit (.bool true)], args := [d1, d2] }
  | _ => none }
def fnExactBatchMoveRow : OpenClaim := { program := "ytjlkffmdmifahaa", sum := "3457cf1ba7537e6c1b635dc9edfb55f21d3e397b6d6c2c5672a6f74b2927a055", func := "loop.example/tideline/laws.FnExactBatchMove", spec := "fnExactBatchMove", inPlace := ["internal/reflectlite.ValueOf", "internal/reflectlite.Swapper", "(internal/reflectlite.Value).Len"], unfollowed := true, recurses := true, plainKeys := false, apart := false }
def FnExactBatchMoveSaid : Prop := fnExactBatchMoveRow.holds Try.pinned (OpenSpec.ofChange fnExactBatchMoveSpec)

/-- ITS FALSE NEIGHBOUR: 'it returns false'. Refute it at one input. -/
def fnExactBatchMoveWrong : ChangeSpec := { name := "fnExactBatchMove", fn := fun _ => fun
  | [d1, d2] => { results := [.lit (.bool false)], args := [d1, d2] }
  | _ => none }
def FnExactBatchMoveWrongFalsely : Prop := fnExactBatchMoveRow.holds Try.pinned (OpenSpec.ofChange fnExactBatchMoveWrong)

/-- 'laws.FnExactBatchAt': WHATEVER THE INPUT: true; the input reads as it did. -/
def fnExactBatchAtSpec : ChangeSpec := { name := "fnExactBatchAt", fn := fun _ => fun
  | [d1, d2] => { results := [.lit (.bool true)], args := [d1, d2] }
  | _ => none }
def fnExactBatchAtRow : OpenClaim := { program := "ytjlkffmdmifahaa", sum := "3457cf1ba7537e6c1b635dc9edfb55f21d3e397b6d6c2c5672a6f74b2927a055", func := "loop.example/tideline/laws.FnExactBatchAt", spec := "fnExactBatchAt", inPlace := ["internal/reflectlite.ValueOf", "internal/reflectlite.Swapper", "(internal/reflectlite.Value).Len"], unfollowed := true, recurses := true, plainKeys := false, apart := false }
def FnExactBatchAtSaid : Prop := fnExactBatchAtRow.holds Try.pinned (OpenSpec.ofChange fnExactBatchAtSpec)

/-- ITS FALSE NEIGHBOUR: 'it returns false'. Refute it at one input. -/
def fnExactBatchAtWrong : ChangeSpec := { name := "fnExactBatchAt", fn := fun _ => fun
  | [d1, d2] => { results := [.lit (.bool false)], args := [d1, d2] }
  | _ => none }
def FnExactBatchAtWrongFalsely : Prop := fnExactBatchAtRow.holds Try.pinned (OpenSpec.ofChange fnExactBatchAtWrong)

/- THE SECOND FORM. 'bulk': how many values and letters a reading holds, each counted each time it is reached (what is shared counts as often as it is met; a slice's spare places count too). A statement '..UptoSaid' is the law's where the arguments, and the package variables that the reading takes, are together of bulk at most 1048576: NARROWER than '..Said'. Prove '..Said' where nothing that the law and all that it calls make is longer than what came in: it says more and counts as full. Else prove '..UptoSaid'. A law counts once. -/
mutual
def uptoBulk {H : Type} : DataW H → Nat
  | .lit (.string bytes) => bytes.length + 1
  | .lit _ => 1
  | .nil => 1
  | .ptr d => uptoBulk d + 1
  | .slice elems spare => uptoBulkAll elems + uptoBulkAll spare + 1
  | .agg parts => uptoBulkAll parts + 1
  | .iface _ d => uptoBulk d + 1
  | .map entries => uptoBulkEntries entries + 1
  | .held _ => 1
def uptoBulkAll {H : Type} : List (DataW H) → Nat
  | [] => 0
  | d :: r => uptoBulk d + uptoBulkAll r
def uptoBulkEntries {H : Type} : List (Lit × DataW H) → Nat
  | [] => 0
  | x :: r => uptoBulkEntry x + uptoBulkEntries r
def uptoBulkEntry {H : Type} : Lit × DataW H → Nat
  | (.string bytes, d) => bytes.length + uptoBulk d + 1
  | (_, d) => uptoBulk d + 1
 end
def uptoSmall : (H : Type) → List (DataW H) → Bool := fun _ ds => decide (uptoBulkAll ds ≤ 1048576)
def OpenSpec.upto (s : _root_.Go.ChangeSpec) : _root_.Go.OpenSpec := { _root_.Go.OpenSpec.ofChange s with cond := some uptoSmall }

/-- 'laws.FnBatchMoveBoth', WHERE WHAT IT READS IS OF BULK AT MOST 1048576: true; the input reads as it did. -/
def fnBatchMoveBothUptoRow : OpenClaim := { program := "ytjlkffmdmifahaa", sum := "3457cf1ba7537e6c1b635dc9edfb55f21d3e397b6d6c2c5672a6f74b2927a055", func := "loop.example/tideline/laws.FnBatchMoveBoth", spec := "fnBatchMoveBoth", inPlace := ["internal/reflectlite.ValueOf", "internal/reflectlite.Swapper", "(internal/reflectlite.Value).Len"], unfollowed := true, recurses := true, plainKeys := false, apart := false, narrowed := true }
def FnBatchMoveBothUptoSaid : Prop := fnBatchMoveBothUptoRow.holds Try.pinned (OpenSpec.upto fnBatchMoveBothSpec)

/-- 'laws.FnBatchMoveTwice', WHERE WHAT IT READS IS OF BULK AT MOST 1048576: true; the input reads as it did. -/
def fnBatchMoveTwiceUptoRow : OpenClaim := { program := "ytjlkffmdmifahaa", sum := "3457cf1ba7537e6c1b635dc9edfb55f21d3e397b6d6c2c5672a6f74b2927a055", func := "loop.example/tideline/laws.FnBatchMoveTwice", spec := "fnBatchMoveTwice", inPlace := ["internal/reflectlite.ValueOf", "internal/reflectlite.Swapper", "(internal/reflectlite.Value).Len"], unfollowed := true, recurses := true, plainKeys := false, apart := false, narrowed := true }
def FnBatchMoveTwiceUptoSaid : Prop := fnBatchMoveTwiceUptoRow.holds Try.pinned (OpenSpec.upto fnBatchMoveTwiceSpec)

/-- 'laws.FnBatchMove', WHERE WHAT IT READS IS OF BULK AT MOST 1048576: true; the input reads as it did. -/
def fnBatchMoveUptoRow : OpenClaim := { program := "ytjlkffmdmifahaa", sum := "3457cf1ba7537e6c1b635dc9edfb55f21d3e397b6d6c2c5672a6f74b2927a055", func := "loop.example/tideline/laws.FnBatchMove", spec := "fnBatchMove", inPlace := ["internal/reflectlite.ValueOf", "internal/reflectlite.Swapper", "(internal/reflectlite.Value).Len"], unfollowed := true, recurses := true, plainKeys := false, apart := false, narrowed := true }
def FnBatchMoveUptoSaid : Prop := fnBatchMoveUptoRow.holds Try.pinned (OpenSpec.upto fnBatchMoveSpec)

/-- 'laws.FnBatchOrder', WHERE WHAT IT READS IS OF BULK AT MOST 1048576: true; the input reads as it did. -/
def fnBatchOrderUptoRow : OpenClaim := { program := "ytjlkffmdmifahaa", sum := "3457cf1ba7537e6c1b635dc9edfb55f21d3e397b6d6c2c5672a6f74b2927a055", func := "loop.example/tideline/laws.FnBatchOrder", spec := "fnBatchOrder", inPlace := ["internal/reflectlite.ValueOf", "internal/reflectlite.Swapper", "(internal/reflectlite.Value).Len"], unfollowed := true, recurses := true, plainKeys := false, apart := false, narrowed := true }
def FnBatchOrderUptoSaid : Prop := fnBatchOrderUptoRow.holds Try.pinned (OpenSpec.upto fnBatchOrderSpec)

/-- 'laws.FnBatchTurn', WHERE WHAT IT READS IS OF BULK AT MOST 1048576: true; the input reads as it did. -/
def fnBatchTurnUptoRow : OpenClaim := { program := "ytjlkffmdmifahaa", sum := "3457cf1ba7537e6c1b635dc9edfb55f21d3e397b6d6c2c5672a6f74b2927a055", func := "loop.example/tideline/laws.FnBatchTurn", spec := "fnBatchTurn", inPlace := ["internal/reflectlite.ValueOf", "internal/reflectlite.Swapper", "(internal/reflectlite.Value).Len"], unfollowed := true, recurses := true, plainKeys := false, apart := false, narrowed := true }
def FnBatchTurnUptoSaid : Prop := fnBatchTurnUptoRow.holds Try.pinned (OpenSpec.upto fnBatchTurnSpec)

/-- 'laws.FnBatchTwice', WHERE WHAT IT READS IS OF BULK AT MOST 1048576: true; the input reads as it did. -/
def fnBatchTwiceUptoRow : OpenClaim := { program := "ytjlkffmdmifahaa", sum := "3457cf1ba7537e6c1b635dc9edfb55f21d3e397b6d6c2c5672a6f74b2927a055", func := "loop.example/tideline/laws.FnBatchTwice", spec := "fnBatchTwice", inPlace := ["internal/reflectlite.ValueOf", "internal/reflectlite.Swapper", "(internal/reflectlite.Value).Len"], unfollowed := true, recurses := true, plainKeys := false, apart := false, narrowed := true }
def FnBatchTwiceUptoSaid : Prop := fnBatchTwiceUptoRow.holds Try.pinned (OpenSpec.upto fnBatchTwiceSpec)

/-- 'laws.FnExactBatchOf', WHERE WHAT IT READS IS OF BULK AT MOST 1048576: true; the input reads as it did. -/
def fnExactBatchOfUptoRow : OpenClaim := { program := "ytjlkffmdmifahaa", sum := "3457cf1ba7537e6c1b635dc9edfb55f21d3e397b6d6c2c5672a6f74b2927a055", func := "loop.example/tideline/laws.FnExactBatchOf", spec := "fnExactBatchOf", inPlace := ["internal/reflectlite.ValueOf", "internal/reflectlite.Swapper", "(internal/reflectlite.Value).Len"], unfollowed := true, recurses := true, plainKeys := false, apart := false, narrowed := true }
def FnExactBatchOfUptoSaid : Prop := fnExactBatchOfUptoRow.holds Try.pinned (OpenSpec.upto fnExactBatchOfSpec)

/-- 'laws.FnExactBatchBoth', WHERE WHAT IT READS IS OF BULK AT MOST 1048576: true; the input reads as it did. -/
def fnExactBatchBothUptoRow : OpenClaim := { program := "ytjlkffmdmifahaa", sum := "3457cf1ba7537e6c1b635dc9edfb55f21d3e397b6d6c2c5672a6f74b2927a055", func := "loop.example/tideline/laws.FnExactBatchBoth", spec := "fnExactBatchBoth", inPlace := ["internal/reflectlite.ValueOf", "internal/reflectlite.Swapper", "(internal/reflectlite.Value).Len"], unfollowed := true, recurses := true, plainKeys := false, apart := false, narrowed := true }
def FnExactBatchBothUptoSaid : Prop := fnExactBatchBothUptoRow.holds Try.pinned (OpenSpec.upto fnExactBatchBothSpec)

/-- 'laws.FnExactBatchLess', WHERE WHAT IT READS IS OF BULK AT MOST 1048576: true; the input reads as it did. -/
def fnExactBatchLessUptoRow : OpenClaim := { program := "ytjlkffmdmifahaa", sum := "3457cf1ba7537e6c1b635dc9edfb55f21d3e397b6d6c2c5672a6f74b2927a055", func := "loop.example/tideline/laws.FnExactBatchLess", spec := "fnExactBatchLess", inPlace := ["internal/reflectlite.ValueOf", "internal/reflectlite.Swapper", "(internal/reflectlite.Value).Len"], unfollowed := true, recurses := true, plainKeys := false, apart := false, narrowed := true }
def FnExactBatchLessUptoSaid : Prop := fnExactBatchLessUptoRow.holds Try.pinned (OpenSpec.upto fnExactBatchLessSpec)

/-- 'laws.FnBatchOf', WHERE WHAT IT READS IS OF BULK AT MOST 1048576: true; the input reads as it did. -/
def fnBatchOfUptoRow : OpenClaim := { program := "ytjlkffmdmifahaa", sum := "3457cf1ba7537e6c1b635dc9edfb55f21d3e397b6d6c2c5672a6f74b2927a055", func := "loop.example/tideline/laws.FnBatchOf", spec := "fnBatchOf", inPlace := ["internal/reflectlite.ValueOf", "internal/reflectlite.Swapper", "(internal/reflectlite.Value).Len"], unfollowed := true, recurses := true, plainKeys := false, apart := false, narrowed := true }
def FnBatchOfUptoSaid : Prop := fnBatchOfUptoRow.holds Try.pinned (OpenSpec.upto fnBatchOfSpec)

/-- 'laws.FnExactBatchMove', WHERE WHAT IT READS IS OF BULK AT MOST 1048576: true; the input reads as it did. -/
def fnExactBatchMoveUptoRow : OpenClaim := { program := "ytjlkffmdmifahaa", sum := "3457cf1ba7537e6c1b635dc9edfb55f21d3e397b6d6c2c5672a6f74b2927a055", func := "loop.example/tideline/laws.FnExactBatchMove", spec := "fnExactBatchMove", inPlace := ["internal/reflectlite.ValueOf", "internal/reflectlite.Swapper", "(internal/reflectlite.Value).Len"], unfollowed := true, recurses := true, plainKeys := false, apart := false, narrowed := true }
def FnExactBatchMoveUptoSaid : Prop := fnExactBatchMoveUptoRow.holds Try.pinned (OpenSpec.upto fnExactBatchMoveSpec)

/-- 'laws.FnExactBatchAt', WHERE WHAT IT READS IS OF BULK AT MOST 1048576: true; the input reads as it did. -/
def fnExactBatchAtUptoRow : OpenClaim := { program := "ytjlkffmdmifahaa", sum := "3457cf1ba7537e6c1b635dc9edfb55f21d3e397b6d6c2c5672a6f74b2927a055", func := "loop.example/tideline/laws.FnExactBatchAt", spec := "fnExactBatchAt", inPlace := ["internal/reflectlite.ValueOf", "internal/reflectlite.Swapper", "(internal/reflectlite.Value).Len"], unfollowed := true, recurses := true, plainKeys := false, apart := false, narrowed := true }
def FnExactBatchAtUptoSaid : Prop := fnExactBatchAtUptoRow.holds Try.pinned (OpenSpec.upto fnExactBatchAtSpec)

end Rows
end Go.Proofs.Ytjlkffmdmifahaa
