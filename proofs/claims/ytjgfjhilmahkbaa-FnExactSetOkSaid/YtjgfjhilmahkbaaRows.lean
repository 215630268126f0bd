/-
  No cell of these rows narrows 'for every input' (looked for: loops, veiled, ifaces, maps, wideKeys, modest, calm, conditions, laid).
  DERIVED. THE GIVEN ROWS OF THIS SEAT. 13 by the template 'for every input the law returns true; each argument reads behind the call as it read before'; 0 by the template 'total and deterministic' (their statements: YtjgfjhilmahkbaaTotals.lean).
  GIVEN WITH THE SEED: the statements are not yours to turn. If you find one false, say at which input.
  Laid BY PROGRAM, IN A SANDBOX (cutbox-rows.mjs): the forced cells as the released guide's own fill.sh prints them over the translation 39293f841600c235… (all of the seat's roots in one cut). By AI agents, Wed Nov 11 2026. No macro, syntax, notation, axiom, sorry.
-/
import Derived.Test.YtjgfjhilmahkbaaChecked
import GoSem.Claim
import GoSem.ClaimJoined
import GoSem.ClaimMapViews
import Derived.JoinedTies
import Derived.KernelRfl
namespace Go.Proofs.Ytjgfjhilmahkbaa
/- THE CELL 'sum', in the pinned program and in every row, IS THE sha256 OF THE DUMP (.gsa) THAT YtjgfjhilmahkbaaProg.lean LOADS. Nothing in Lean hashes anything: it is a label: what it is worth is what the hold of that sum in a sandbox is worth. -/
noncomputable def Try.pinned : Pinned := { name := "ytjgfjhilmahkbaa", sum := "39293f841600c23515c805c1e45f44327828f81585035e1887e54af2df1a56a1", checked := Try.checked }
namespace Rows
def none {H : Type} : Left H := { results := [], args := [] }

/-- 'laws.FnExactConstants': WHATEVER THE INPUT: true; the input reads as it did. -/
def fnExactConstantsSpec : ChangeSpec := { name := "fnExactConstants", fn := fun _ => fun
  | [] => { results := [.lit (.bool true)], args := [] }
  | _ => none }
def fnExactConstantsRow : OpenClaim := { program := "ytjgfjhilmahkbaa", sum := "39293f841600c23515c805c1e45f44327828f81585035e1887e54af2df1a56a1", func := "loop.example/tideline/laws.FnExactConstants", spec := "fnExactConstants", apart := false }
def FnExactConstantsSaid : Prop := fnExactConstantsRow.holds Try.pinned (OpenSpec.ofChange fnExactConstantsSpec)

/-- ITS FALSE NEIGHBOUR: 'it returns false'. Refute it at one input. -/
def fnExactConstantsWrong : ChangeSpec := { name := "fnExactConstants", fn := fun _ => fun
  | [] => { results := [.lit (.bool false)], args := [] }
  | _ => none }
def FnExactConstantsWrongFalsely : Prop := fnExactConstantsRow.holds Try.pinned (OpenSpec.ofChange fnExactConstantsWrong)

/-- 'laws.FnExactTimeOk': WHATEVER THE INPUT: true; the input reads as it did. -/
def fnExactTimeOkSpec : ChangeSpec := { name := "fnExactTimeOk", fn := fun _ => fun
  | [d] => { results := [.lit (.bool true)], args := [d] }
  | _ => none }
def fnExactTimeOkRow : OpenClaim := { program := "ytjgfjhilmahkbaa", sum := "39293f841600c23515c805c1e45f44327828f81585035e1887e54af2df1a56a1", func := "loop.example/tideline/laws.FnExactTimeOk", spec := "fnExactTimeOk", apart := false }
def FnExactTimeOkSaid : Prop := fnExactTimeOkRow.holds Try.pinned (OpenSpec.ofChange fnExactTimeOkSpec)

/-- ITS FALSE NEIGHBOUR: 'it returns false'. Refute it at one input. -/
def fnExactTimeOkWrong : ChangeSpec := { name := "fnExactTimeOk", fn := fun _ => fun
  | [d] => { results := [.lit (.bool false)], args := [d] }
  | _ => none }
def FnExactTimeOkWrongFalsely : Prop := fnExactTimeOkRow.holds Try.pinned (OpenSpec.ofChange fnExactTimeOkWrong)

/-- 'laws.FnExactTimeLess': WHATEVER THE INPUT: true; the input reads as it did. -/
def fnExactTimeLessSpec : ChangeSpec := { name := "fnExactTimeLess", fn := fun _ => fun
  | [d1, d2] => { results := [.lit (.bool true)], args := [d1, d2] }
  | _ => none }
def fnExactTimeLessRow : OpenClaim := { program := "ytjgfjhilmahkbaa", sum := "39293f841600c23515c805c1e45f44327828f81585035e1887e54af2df1a56a1", func := "loop.example/tideline/laws.FnExactTimeLess", spec := "fnExactTimeLess", apart := false }
def FnExactTimeLessSaid : Prop := fnExactTimeLessRow.holds Try.pinned (OpenSpec.ofChange fnExactTimeLessSpec)

/-- ITS FALSE NEIGHBOUR: 'it returns false'. Refute it at one input. -/
def fnExactTimeLessWrong : ChangeSpec := { name := "fnExactTimeLess", fn := fun _ => fun
  | [d1, d2] => { results := [.lit (.bool false)], args := [d1, d2] }
  | _ => none }
def FnExactTimeLessWrongFalsely : Prop := fnExactTimeLessRow.holds Try.pinned (OpenSpec.ofChange fnExactTimeLessWrong)

/-- 'laws.FnExactTimeJoin': WHATEVER THE INPUT: true; the input reads as it did. -/
def fnExactTimeJoinSpec : ChangeSpec := { name := "fnExactTimeJoin", fn := fun _ => fun
  | [d1, d2] => { results := [.lit (.bool true)], args := [d1, d2] }
  | _ => none }
def fnExactTimeJoinRow : OpenClaim := { program := "ytjgfjhilmahkbaa", sum := "39293f841600c23515c805c1e45f44327828f81585035e1887e54af2df1a56a1", func := "loop.example/tideline/laws.FnExactTimeJoin", spec := "fnExactTimeJoin", apart := false }
def FnExactTimeJoinSaid : Prop := fnExactTimeJoinRow.holds Try.pinned (OpenSpec.ofChange fnExactTimeJoinSpec)

/-- ITS FALSE NEIGHBOUR: 'it returns false'. Refute it at one input. -/
def fnExactTimeJoinWrong : ChangeSpec := { name := "fnExactTimeJoin", fn := fun _ => fun
  | [d1, d2] => { results := [.lit (.bool false)], args := [d1, d2] }
  | _ => none }
def FnExactTimeJoinWrongFalsely : Prop := fnExactTimeJoinRow.holds Try.pinned (OpenSpec.ofChange fnExactTimeJoinWrong)

/-- 'laws.FnExactTimeMeet': WHATEVER THE INPUT: true; the input reads as it did. -/
def fnExactTimeMeetSpec : ChangeSpec := { name := "fnExactTimeMeet", fn := fun _ => fun
  | [d1, d2] => { results := [.lit (.bool true)], args := [d1, d2] }
  | _ => none }
def fnExactTimeMeetRow : OpenClaim := { program := "ytjgfjhilmahkbaa", sum := "39293f841600c23515c805c1e45f44327828f81585035e1887e54af2df1a56a1", func := "loop.example/tideline/laws.FnExactTimeMeet", spec := "fnExactTimeMeet", apart := false }
def FnExactTimeMeetSaid : Prop := fnExactTimeMeetRow.holds Try.pinned (OpenSpec.ofChange fnExactTimeMeetSpec)

/-- ITS FALSE NEIGHBOUR: 'it returns false'. Refute it at one input. -/
def fnExactTimeMeetWrong : ChangeSpec := { name := "fnExactTimeMeet", fn := fun _ => fun
  | [d1, d2] => { results := [.lit (.bool false)], args := [d1, d2] }
  | _ => none }
def FnExactTimeMeetWrongFalsely : Prop := fnExactTimeMeetRow.holds Try.pinned (OpenSpec.ofChange fnExactTimeMeetWrong)

/-- 'laws.FnTimeOrder': WHATEVER THE INPUT: true; the input reads as it did. -/
def fnTimeOrderSpec : ChangeSpec := { name := "fnTimeOrder", fn := fun _ => fun
  | [d1, d2] => { results := [.lit (.bool true)], args := [d1, d2] }
  | _ => none }
def fnTimeOrderRow : OpenClaim := { program := "ytjgfjhilmahkbaa", sum := "39293f841600c23515c805c1e45f44327828f81585035e1887e54af2df1a56a1", func := "loop.example/tideline/laws.FnTimeOrder", spec := "fnTimeOrder", apart := false }
def FnTimeOrderSaid : Prop := fnTimeOrderRow.holds Try.pinned (OpenSpec.ofChange fnTimeOrderSpec)

/-- ITS FALSE NEIGHBOUR: 'it returns false'. Refute it at one input. -/
def fnTimeOrderWrong : ChangeSpec := { name := "fnTimeOrder", fn := fun _ => fun
  | [d1, d2] => { results := [.lit (.bool false)], args := [d1, d2] }
  | _ => none }
def FnTimeOrderWrongFalsely : Prop := fnTimeOrderRow.holds Try.pinned (OpenSpec.ofChange fnTimeOrderWrong)

/-- 'laws.FnExactFrontOk': WHATEVER THE INPUT: true; the input reads as it did. -/
def fnExactFrontOkSpec : ChangeSpec := { name := "fnExactFrontOk", fn := fun _ => fun
  | [d] => { results := [.lit (.bool true)], args := [d] }
  | _ => none }
def fnExactFrontOkRow : OpenClaim := { program := "ytjgfjhilmahkbaa", sum := "39293f841600c23515c805c1e45f44327828f81585035e1887e54af2df1a56a1", func := "loop.example/tideline/laws.FnExactFrontOk", spec := "fnExactFrontOk", apart := false }
def FnExactFrontOkSaid : Prop := fnExactFrontOkRow.holds Try.pinned (OpenSpec.ofChange fnExactFrontOkSpec)

/-- ITS FALSE NEIGHBOUR: 'it returns false'. Refute it at one input. -/
def fnExactFrontOkWrong : ChangeSpec := { name := "fnExactFrontOk", fn := fun _ => fun
  | [d] => { results := [.lit (.bool false)], args := [d] }
  | _ => none }
def FnExactFrontOkWrongFalsely : Prop := fnExactFrontOkRow.holds Try.pinned (OpenSpec.ofChange fnExactFrontOkWrong)

/-- 'laws.FnExactSetOk': WHATEVER THE INPUT: true; the input reads as it did. -/
def fnExactSetOkSpec : ChangeSpec := { name := "fnExactSetOk", fn := fun _ => fun
  | [d] => { results := [.lit (.bool true)], args := [d] }
  | _ => none }
def fnExactSetOkRow : OpenClaim := { program := "ytjgfjhilmahkbaa", sum := "39293f841600c23515c805c1e45f44327828f81585035e1887e54af2df1a56a1", func := "loop.example/tideline/laws.FnExactSetOk", spec := "fnExactSetOk", apart := false }
def FnExactSetOkSaid : Prop := fnExactSetOkRow.holds Try.pinned (OpenSpec.ofChange fnExactSetOkSpec)

/-- ITS FALSE NEIGHBOUR: 'it returns false'. Refute it at one input. -/
def fnExactSetOkWrong : ChangeSpec := { name := "fnExactSetOk", fn := fun _ => fun
  | [d] => { results := [.lit (.bool false)], args := [d] }
  | _ => none }
def FnExactSetOkWrongFalsely : Prop := fnExactSetOkRow.holds Try.pinned (OpenSpec.ofChange fnExactSetOkWrong)

/-- 'laws.FnTimeJoin': WHATEVER THE INPUT: true; the input reads as it did. -/
def fnTimeJoinSpec : ChangeSpec := { name := "fnTimeJoin", fn := fun _ => fun
  | [d] => { results := [.lit (.bool true)], args := [d] }
  | _ => none }
def fnTimeJoinRow : OpenClaim := { program := "ytjgfjhilmahkbaa", sum := "39293f841600c23515c805c1e45f44327828f81585035e1887e54af2df1a56a1", func := "loop.example/tideline/laws.FnTimeJoin", spec := "fnTimeJoin", apart := false }
def FnTimeJoinSaid : Prop := fnTimeJoinRow.holds Try.pinned (OpenSpec.ofChange fnTimeJoinSpec)

/-- ITS FALSE NEIGHBOUR: 'it returns false'. Refute it at one input. -/
def fnTimeJoinWrong : ChangeSpec := { name := "fnTimeJoin", fn := fun _ => fun
  | [d] => { results := [.lit (.bool false)], args := [d] }
  | _ => none }
def FnTimeJoinWrongFalsely : Prop := fnTimeJoinRow.holds Try.pinned (OpenSpec.ofChange fnTimeJoinWrong)

/-- 'laws.FnTimeMeet': WHATEVER THE INPUT: true; the input reads as it did. -/
def fnTimeMeetSpec : ChangeSpec := { name := "fnTimeMeet", fn := fun _ => fun
  | [d] => { results := [.lit (.bool true)], args := [d] }
  | _ => none }
def fnTimeMeetRow : OpenClaim := { program := "ytjgfjhilmahkbaa", sum := "39293f841600c23515c805c1e45f44327828f81585035e1887e54af2df1a56a1", func := "loop.example/tideline/laws.FnTimeMeet", spec := "fnTimeMeet", apart := false }
def FnTimeMeetSaid : Prop := fnTimeMeetRow.holds Try.pinned (OpenSpec.ofChange fnTimeMeetSpec)

/-- ITS FALSE NEIGHBOUR: 'it returns false'. Refute it at one input. -/
def fnTimeMeetWrong : ChangeSpec := { name := "fnTimeMeet", fn := fun _ => fun
  | [d] => { results := [.lit (.bool false)], args := [d] }
  | _ => none }
def FnTimeMeetWrongFalsely : Prop := fnTimeMeetRow.holds Try.pinned (OpenSpec.ofChange fnTimeMeetWrong)

/-- 'laws.FnTimeLaws': WHATEVER THE INPUT: true; the input reads as it did. -/
def fnTimeLawsSpec : ChangeSpec := { name := "fnTimeLaws", fn := fun _ => fun
  | [d] => { results := [.lit (.bool true)], args := [d] }
  | _ => none }
def fnTimeLawsRow : OpenClaim := { program := "ytjgfjhilmahkbaa", sum := "39293f841600c23515c805c1e45f44327828f81585035e1887e54af2df1a56a1", func := "loop.example/tideline/laws.FnTimeLaws", spec := "fnTimeLaws", apart := false }
def FnTimeLawsSaid : Prop := fnTimeLawsRow.holds Try.pinned (OpenSpec.ofChange fnTimeLawsSpec)

/-- ITS FALSE NEIGHBOUR: 'it returns false'. Refute it at one input. -/
def fnTimeLawsWrong : ChangeSpec := { name := "fnTimeLaws", fn := fun _ => fun
  | [d] => { results := [.lit (.bool false)], args := [d] }
  | _ => none }
def FnTimeLawsWrongFalsely : Prop := fnTimeLawsRow.holds Try.pinned (OpenSpec.ofChange fnTimeLawsWrong)

/-- 'laws.FnExactFrontCovers': WHATEVER THE INPUT: true; the input reads as it did. -/
def fnExactFrontCoversSpec : ChangeSpec := { name := "fnExactFrontCovers", fn := fun _ => fun
  | [d1, d2] => { results := [.lit (.bool true)], args := [d1, d2] }
  | _ => none }
def fnExactFrontCoversRow : OpenClaim := { program := "ytjgfjhilmahkbaa", sum := "39293f841600c23515c805c1e45f44327828f81585035e1887e54af2df1a56a1", func := "loop.example/tideline/laws.FnExactFrontCovers", spec := "fnExactFrontCovers", apart := false }
def FnExactFrontCoversSaid : Prop := fnExactFrontCoversRow.holds Try.pinned (OpenSpec.ofChange fnExactFrontCoversSpec)

/-- ITS FALSE NEIGHBOUR: 'it returns false'. Refute it at one input. -/
def fnExactFrontCoversWrong : ChangeSpec := { name := "fnExactFrontCovers", fn := fun _ => fun
  | [d1, d2] => { results := [.lit (.bool false)], args := [d1, d2] }
  | _ => none }
def FnExactFrontCoversWrongFalsely : Prop := fnExactFrontCoversRow.holds Try.pinned (OpenSpec.ofChange fnExactFrontCoversWrong)

/-- 'laws.FnExactRowsOk': WHATEVER THE INPUT: true; the input reads as it did. -/
def fnExactRowsOkSpec : ChangeSpec := { name := "fnExactRowsOk", fn := fun _ => fun
  | [d] => { results := [.lit (.bool true)], args := [d] }
  | _ => none }
def fnExactRowsOkRow : OpenClaim := { program := "ytjgfjhilmahkbaa", sum := "39293f841600c23515c805c1e45f44327828f81585035e1887e54af2df1a56a1", func := "loop.example/tideline/laws.FnExactRowsOk", spec := "fnExactRowsOk", apart := false }
def FnExactRowsOkSaid : Prop := fnExactRowsOkRow.holds Try.pinned (OpenSpec.ofChange fnExactRowsOkSpec)

/-- ITS FALSE NEIGHBOUR: 'it returns false'. Refute it at one input. -/
def fnExactRowsOkWrong : ChangeSpec := { name := "fnExactRowsOk", fn := fun _ => fun
  | [d] => { results := [.lit (.bool false)], args := [d] }
  | _ => none }
def FnExactRowsOkWrongFalsely : Prop := fnExactRowsOkRow.holds Try.pinned (OpenSpec.ofChange fnExactRowsOkWrong)

/- THE SECOND FORM. 'bulk': how many values and letters a reading holds, each counted each time it is reached (what is shared counts as often as it is met; a slice's spare places count too). A statement '..UptoSaid' is the law's where the arguments, and the package variables that the reading takes, are together of bulk at most 1048576: NARROWER than '..Said'. Prove '..Said' where nothing that the law and all that it calls make is longer than what came in: it says more and counts as full. Else prove '..UptoSaid'. A law counts once. -/
mutual
def uptoBulk {H : Type} : DataW H → Nat
  | .lit (.string bytes) => bytes.length + 1
  | .lit _ => 1
  | .nil => 1
  | .ptr d => uptoBulk d + 1
  | .slice elems spare => uptoBulkAll elems + uptoBulkAll spare + 1
  | .agg parts => uptoBulkAll parts + 1
  | .iface _ d => uptoBulk d + 1
  | .map entries => uptoBulkEntries entries + 1
  | .held _ => 1
def uptoBulkAll {H : Type} : List (DataW H) → Nat
  | [] => 0
  | d :: r => uptoBulk d + uptoBulkAll r
def uptoBulkEntries {H : Type} : List (Lit × DataW H) → Nat
  | [] => 0
  | x :: r => uptoBulkEntry x + uptoBulkEntries r
def uptoBulkEntry {H : Type} : Lit × DataW H → Nat
  | (.string bytes, d) => bytes.length + uptoBulk d + 1
  | (_, d) => uptoBulk d + 1
 end
def uptoSmall : (H : Type) → List (DataW H) → Bool := fun _ ds => decide (uptoBulkAll ds ≤ 1048576)
def OpenSpec.upto (s : _root_.Go.ChangeSpec) : _root_.Go.OpenSpec := { _root_.Go.OpenSpec.ofChange s with cond := some uptoSmall }

/-- 'laws.FnExactConstants', WHERE WHAT IT READS IS OF BULK AT MOST 1048576: true; the input reads as it did. -/
def fnExactConstantsUptoRow : OpenClaim := { program := "ytjgfjhilmahkbaa", sum := "39293f841600c23515c805c1e45f44327828f81585035e1887e54af2df1a56a1", func := "loop.example/tideline/laws.FnExactConstants", spec := "fnExactConstants", apart := false, narrowed := true }
def FnExactConstantsUptoSaid : Prop := fnExactConstantsUptoRow.holds Try.pinned (OpenSpec.upto fnExactConstantsSpec)

/-- 'laws.FnExactTimeOk', WHERE WHAT IT READS IS OF BULK AT MOST 1048576: true; the input reads as it did. -/
def fnExactTimeOkUptoRow : OpenClaim := { program := "ytjgfjhilmahkbaa", sum := "39293f841600c23515c805c1e45f44327828f81585035e1887e54af2df1a56a1", func := "loop.example/tideline/laws.FnExactTimeOk", spec := "fnExactTimeOk", apart := false, narrowed := true }
def FnExactTimeOkUptoSaid : Prop := fnExactTimeOkUptoRow.holds Try.pinned (OpenSpec.upto fnExactTimeOkSpec)

/-- 'laws.FnExactTimeLess', WHERE WHAT IT READS IS OF BULK AT MOST 1048576: true; the input reads as it did. -/
def fnExactTimeLessUptoRow : OpenClaim := { program := "ytjgfjhilmahkbaa", sum := "39293f841600c23515c805c1e45f44327828f81585035e1887e54af2df1a56a1", func := "loop.example/tideline/laws.FnExactTimeLess", spec := "fnExactTimeLess", apart := false, narrowed := true }
def FnExactTimeLessUptoSaid : Prop := fnExactTimeLessUptoRow.holds Try.pinned (OpenSpec.upto fnExactTimeLessSpec)

/-- 'laws.FnExactTimeJoin', WHERE WHAT IT READS IS OF BULK AT MOST 1048576: true; the input reads as it did. -/
def fnExactTimeJoinUptoRow : OpenClaim := { program := "ytjgfjhilmahkbaa", sum := "39293f841600c23515c805c1e45f44327828f81585035e1887e54af2df1a56a1", func := "loop.example/tideline/laws.FnExactTimeJoin", spec := "fnExactTimeJoin", apart := false, narrowed := true }
def FnExactTimeJoinUptoSaid : Prop := fnExactTimeJoinUptoRow.holds Try.pinned (OpenSpec.upto fnExactTimeJoinSpec)

/-- 'laws.FnExactTimeMeet', WHERE WHAT IT READS IS OF BULK AT MOST 1048576: true; the input reads as it did. -/
def fnExactTimeMeetUptoRow : OpenClaim := { program := "ytjgfjhilmahkbaa", sum := "39293f841600c23515c805c1e45f44327828f81585035e1887e54af2df1a56a1", func := "loop.example/tideline/laws.FnExactTimeMeet", spec := "fnExactTimeMeet", apart := false, narrowed := true }
def FnExactTimeMeetUptoSaid : Prop := fnExactTimeMeetUptoRow.holds Try.pinned (OpenSpec.upto fnExactTimeMeetSpec)

/-- 'laws.FnTimeOrder', WHERE WHAT IT READS IS OF BULK AT MOST 1048576: true; the input reads as it did. -/
def fnTimeOrderUptoRow : OpenClaim := { program := "ytjgfjhilmahkbaa", sum := "39293f841600c23515c805c1e45f44327828f81585035e1887e54af2df1a56a1", func := "loop.example/tideline/laws.FnTimeOrder", spec := "fnTimeOrder", apart := false, narrowed := true }
def FnTimeOrderUptoSaid : Prop := fnTimeOrderUptoRow.holds Try.pinned (OpenSpec.upto fnTimeOrderSpec)

/-- 'laws.FnExactFrontOk', WHERE WHAT IT READS IS OF BULK AT MOST 1048576: true; the input reads as it did. -/
def fnExactFrontOkUptoRow : OpenClaim := { program := "ytjgfjhilmahkbaa", sum := "39293f841600c23515c805c1e45f44327828f81585035e1887e54af2df1a56a1", func := "loop.example/tideline/laws.FnExactFrontOk", spec := "fnExactFrontOk", apart := false, narrowed := true }
def FnExactFrontOkUptoSaid : Prop := fnExactFrontOkUptoRow.holds Try.pinned (OpenSpec.upto fnExactFrontOkSpec)

/-- 'laws.FnExactSetOk', WHERE WHAT IT READS IS OF BULK AT MOST 1048576: true; the input reads as it did. -/
def fnExactSetOkUptoRow : OpenClaim := { program := "ytjgfjhilmahkbaa", sum := "39293f841600c23515c805c1e45f44327828f81585035e1887e54af2df1a56a1", func := "loop.example/tideline/laws.FnExactSetOk", spec := "fnExactSetOk", apart := false, narrowed := true }
def FnExactSetOkUptoSaid : Prop := fnExactSetOkUptoRow.holds Try.pinned (OpenSpec.upto fnExactSetOkSpec)

/-- 'laws.FnTimeJoin', WHERE WHAT IT READS IS OF BULK AT MOST 1048576: true; the input reads as it did. -/
def fnTimeJoinUptoRow : OpenClaim := { program := "ytjgfjhilmahkbaa", sum := "39293f841600c23515c805c1e45f44327828f81585035e1887e54af2df1a56a1", func := "loop.example/tideline/laws.FnTimeJoin", spec := "fnTimeJoin", apart := false, narrowed := true }
def FnTimeJoinUptoSaid : Prop := fnTimeJoinUptoRow.holds Try.pinned (OpenSpec.upto fnTimeJoinSpec)

/-- 'laws.FnTimeMeet', WHERE WHAT IT READS IS OF BULK AT MOST 1048576: true; the input reads as it did. -/
def fnTimeMeetUptoRow : OpenClaim := { program := "ytjgfjhilmahkbaa", sum := "39293f841600c23515c805c1e45f44327828f81585035e1887e54af2df1a56a1", func := "loop.example/tideline/laws.FnTimeMeet", spec := "fnTimeMeet", apart := false, narrowed := true }
def FnTimeMeetUptoSaid : Prop := fnTimeMeetUptoRow.holds Try.pinned (OpenSpec.upto fnTimeMeetSpec)

/-- 'laws.FnTimeLaws', WHERE WHAT IT READS IS OF BULK AT MOST 1048576: true; the input reads as it did. -/
def fnTimeLawsUptoRow : OpenClaim := { program := "ytjgfjhilmahkbaa", sum := "39293f841600c23515c805c1e45f44327828f81585035e1887e54af2df1a56a1", func := "loop.example/tideline/laws.FnTimeLaws", spec := "fnTimeLaws", apart := false, narrowed := true }
def FnTimeLawsUptoSaid : Prop := fnTimeLawsUptoRow.holds Try.pinned (OpenSpec.upto fnTimeLawsSpec)

/-- 'laws.FnExactFrontCovers', WHERE WHAT IT READS IS OF BULK AT MOST 1048576: true; the input reads as it did. -/
def fnExactFrontCoversUptoRow : OpenClaim := { program := "ytjgfjhilmahkbaa", sum := "39293f841600c23515c805c1e45f44327828f81585035e1887e54af2df1a56a1", func := "loop.example/tideline/laws.FnExactFrontCovers", spec := "fnExactFrontCovers", apart := false, narrowed := true }
def FnExactFrontCoversUptoSaid : Prop := fnExactFrontCoversUptoRow.holds Try.pinned (OpenSpec.upto fnExactFrontCoversSpec)

/-- 'laws.FnExactRowsOk', WHERE WHAT IT READS IS OF BULK AT MOST 1048576: true; the input reads as it did. -/
def fnExactRowsOkUptoRow : OpenClaim := { program := "ytjgfjhilmahkbaa", sum := "39293f841600c23515c805c1e45f44327828f81585035e1887e54af2df1a56a1", func := "loop.example/tideline/laws.FnExactRowsOk", spec := "fnExactRowsOk", apart := false, narrowed := true }
def FnExactRowsOkUptoSaid : Prop := fnExactRowsOkUptoRow.holds Try.pinned (OpenSpec.upto fnExactRowsOkSpec)

end Rows
end Go.Proofs.Ytjgfjhilmahkbaa
