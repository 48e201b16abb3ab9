/-
  No cell of these rows narrows 'for every input' (looked for: loops, veiled, ifaces, maps, wideKeys, modest, calm, conditions, laid).
  DERIVED. THE GIVEN ROWS OF THIS SEAT. 12 by the template 'for every input the law returns true; each argument reads behind the call as it read before'; 0 by the template 'total and deterministic' (their statements: YtinibkdbfpafcaaTotals.lean).
  GIVEN WITH THE SEED: the statements are not yours to turn. If you find one false, say at which input.
  Laid BY PROGRAM, IN A SANDBOX (cutbox-rows.mjs): the forced cells as the released guide's own fill.sh prints them over the translation 7bfce5df1608a88f… (all of the seat's roots in one cut). By AI agents, Wed Nov 11 2026. No macro, syntax, notation, axiom, sorry.
-/
import Derived.Test.YtinibkdbfpafcaaChecked
import GoSem.Claim
import GoSem.ClaimJoined
import GoSem.ClaimMapViews
import Derived.JoinedTies
import Derived.KernelRfl
namespace Go.Proofs.Ytinibkdbfpafcaa
/- THE CELL 'sum', in the pinned program and in every row, IS THE sha256 OF THE DUMP (.gsa) THAT YtinibkdbfpafcaaProg.lean LOADS. Nothing in Lean hashes anything: it is a label: what it is worth is what the hold of that sum in a sandbox is worth. -/
noncomputable def Try.pinned : Pinned := { name := "ytinibkdbfpafcaa", sum := "7bfce5df1608a88ffc3e8d5fd5a65fc13c0d0dca4b56f0b994f641de88dab35c", checked := Try.checked }
namespace Rows
def none {H : Type} : Left H := { results := [], args := [] }

/-- 'laws.FnUnits': WHATEVER THE INPUT: true; the input reads as it did. -/
def fnUnitsSpec : ChangeSpec := { name := "fnUnits", fn := fun _ => fun
  | [d] => { results := [.lit (.bool true)], args := [d] }
  | _ => none }
def fnUnitsRow : OpenClaim := { program := "ytinibkdbfpafcaa", sum := "7bfce5df1608a88ffc3e8d5fd5a65fc13c0d0dca4b56f0b994f641de88dab35c", func := "loop.example/g00040/laws.FnUnits", spec := "fnUnits", plainKeys := false, apart := false }
def FnUnitsSaid : Prop := fnUnitsRow.holds Try.pinned (OpenSpec.ofChange fnUnitsSpec)

/-- ITS FALSE NEIGHBOUR: 'it returns false'. Refute it at one input. -/
def fnUnitsWrong : ChangeSpec := { name := "fnUnits", fn := fun _ => fun
  | [d] => { results := [.lit (.bool false)], args := [d] }
  | _ => none }
def FnUnitsWrongFalsely : Prop := fnUnitsRow.holds Try.pinned (OpenSpec.ofChange fnUnitsWrong)

/-- 'laws.FnExactUnder': WHATEVER THE INPUT: true; the input reads as it did. -/
def fnExactUnderSpec : ChangeSpec := { name := "fnExactUnder", fn := fun _ => fun
  | [d1, d2] => { results := [.lit (.bool true)], args := [d1, d2] }
  | _ => none }
def fnExactUnderRow : OpenClaim := { program := "ytinibkdbfpafcaa", sum := "7bfce5df1608a88ffc3e8d5fd5a65fc13c0d0dca4b56f0b994f641de88dab35c", func := "loop.example/g00040/laws.FnExactUnder", spec := "fnExactUnder", plainKeys := false, apart := false }
def FnExactUnderSaid : Prop := fnExactUnderRow.holds Try.pinned (OpenSpec.ofChange fnExactUnderSpec)

/-- ITS FALSE NEIGHBOUR: 'it returns false'. Refute it at one input. -/
def fnExactUnderWrong : ChangeSpec := { name := "fnExactUnder", fn := fun _ => fun
  | [d1, d2] => { results := [.lit (.bool false)], args := [d1, d2] }
  | _ => none }
def FnExactUnderWrongFalsely : Prop := fnExactUnderRow.holds Try.pinned (OpenSpec.ofChange fnExactUnderWrong)

/-- 'laws.FnExactMay': WHATEVER THE INPUT: true; the input reads as it did. -/
def fnExactMaySpec : ChangeSpec := { name := "fnExactMay", fn := fun _ => fun
  | [d1, d2, d3, d4] => { results := [.lit (.bool true)], args := [d1, d2, d3, d4] }
  | _ => none }
def fnExactMayRow : OpenClaim := { program := "ytinibkdbfpafcaa", sum := "7bfce5df1608a88ffc3e8d5fd5a65fc13c0d0dca4b56f0b994f641de88dab35c", func := "loop.example/g00040/laws.FnExactMay", spec := "fnExactMay", plainKeys := false, apart := false }
def FnExactMaySaid : Prop := fnExactMayRow.holds Try.pinned (OpenSpec.ofChange fnExactMaySpec)

/-- ITS FALSE NEIGHBOUR: 'it returns false'. Refute it at one input. -/
def fnExactMayWrong : ChangeSpec := { name := "fnExactMay", fn := fun _ => fun
  | [d1, d2, d3, d4] => { results := [.lit (.bool false)], args := [d1, d2, d3, d4] }
  | _ => none }
def FnExactMayWrongFalsely : Prop := fnExactMayRow.holds Try.pinned (OpenSpec.ofChange fnExactMayWrong)

/-- 'laws.FnLanded': WHATEVER THE INPUT: true; the input reads as it did. -/
def fnLandedSpec : ChangeSpec := { name := "fnLanded", fn := fun _ => fun
  | [d] => { results := [.lit (.bool true)], args := [d] }
  | _ => none }
def fnLandedRow : OpenClaim := { program := "ytinibkdbfpafcaa", sum := "7bfce5df1608a88ffc3e8d5fd5a65fc13c0d0dca4b56f0b994f641de88dab35c", func := "loop.example/g00040/laws.FnLanded", spec := "fnLanded", unfollowed := true, recurses := true, plainKeys := false, apart := false }
def FnLandedSaid : Prop := fnLandedRow.holds Try.pinned (OpenSpec.ofChange fnLandedSpec)

/-- ITS FALSE NEIGHBOUR: 'it returns false'. Refute it at one input. -/
def fnLandedWrong : ChangeSpec := { name := "fnLanded", fn := fun _ => fun
  | [d] => { results := [.lit (.bool false)], args := [d] }
  | _ => none }
def FnLandedWrongFalsely : Prop := fnLandedRow.holds Try.pinned (OpenSpec.ofChange fnLandedWrong)

/-- 'laws.FnExactRegisterOk': WHATEVER THE INPUT: true; the input reads as it did. -/
def fnExactRegisterOkSpec : ChangeSpec := { name := "fnExactRegisterOk", fn := fun _ => fun
  | [d] => { results := [.lit (.bool true)], args := [d] }
  | _ => none }
def fnExactRegisterOkRow : OpenClaim := { program := "ytinibkdbfpafcaa", sum := "7bfce5df1608a88ffc3e8d5fd5a65fc13c0d0dca4b56f0b994f641de88dab35c", func := "loop.example/g00040/laws.FnExactRegisterOk", spec := "fnExactRegisterOk", recurses := true, plainKeys := false, apart := false }
def FnExactRegisterOkSaid : Prop := fnExactRegisterOkRow.holds Try.pinned (OpenSpec.ofChange fnExactRegisterOkSpec)

/-- ITS FALSE NEIGHBOUR: 'it returns false'. Refute it at one input. -/
def fnExactRegisterOkWrong : ChangeSpec := { name := "fnExactRegisterOk", fn := fun _ => fun
  | [d] => { results := [.lit (.bool false)], args := [d] }
  | _ => none }
def FnExactRegisterOkWrongFalsely : Prop := fnExactRegisterOkRow.holds Try.pinned (OpenSpec.ofChange fnExactRegisterOkWrong)

/-- 'laws.FnExactCount': WHATEVER THE INPUT: true; the input reads as it did. -/
def fnExactCountSpec : ChangeSpec := { name := "fnExactCount", fn := fun _ => fun
  | [d1, d2] => { results := [.lit (.bool true)], args := [d1, d2] }
  | _ => none }
def fnExactCountRow : OpenClaim := { program := "ytinibkdbfpafcaa", sum := "7bfce5df1608a88ffc3e8d5fd5a65fc13c0d0dca4b56f0b994f641de88dab35c", func := "loop.example/g00040/laws.FnExactCount", spec := "fnExactCount", plainKeys := false, apart := false }
def FnExactCountSaid : Prop := fnExactCountRow.holds Try.pinned (OpenSpec.ofChange fnExactCountSpec)

/-- ITS FALSE NEIGHBOUR: 'it returns false'. Refute it at one input. -/
def fnExactCountWrong : ChangeSpec := { name := "fnExactCount", fn := fun _ => fun
  | [d1, d2] => { results := [.lit (.bool false)], args := [d1, d2] }
  | _ => none }
def FnExactCountWrongFalsely : Prop := fnExactCountRow.holds Try.pinned (OpenSpec.ofChange fnExactCountWrong)

/-- 'laws.FnExactLanded': WHATEVER THE INPUT: true; the input reads as it did. -/
def fnExactLandedSpec : ChangeSpec := { name := "fnExactLanded", fn := fun _ => fun
  | [d1, d2, d3] => { results := [.lit (.bool true)], args := [d1, d2, d3] }
  | _ => none }
def fnExactLandedRow : OpenClaim := { program := "ytinibkdbfpafcaa", sum := "7bfce5df1608a88ffc3e8d5fd5a65fc13c0d0dca4b56f0b994f641de88dab35c", func := "loop.example/g00040/laws.FnExactLanded", spec := "fnExactLanded", unfollowed := true, recurses := true, plainKeys := false, apart := false }
def FnExactLandedSaid : Prop := fnExactLandedRow.holds Try.pinned (OpenSpec.ofChange fnExactLandedSpec)

/-- ITS FALSE NEIGHBOUR: 'it returns false'. Refute it at one input. -/
def fnExactLandedWrong : ChangeSpec := { name := "fnExactLanded", fn := fun _ => fun
  | [d1, d2, d3] => { results := [.lit (.bool false)], args := [d1, d2, d3] }
  | _ => none }
def FnExactLandedWrongFalsely : Prop := fnExactLandedRow.holds Try.pinned (OpenSpec.ofChange fnExactLandedWrong)

/-- 'laws.FnExactLotsOf': WHATEVER THE INPUT: true; the input reads as it did. -/
def fnExactLotsOfSpec : ChangeSpec := { name := "fnExactLotsOf", fn := fun _ => fun
  | [d1, d2] => { results := [.lit (.bool true)], args := [d1, d2] }
  | _ => none }
def fnExactLotsOfRow : OpenClaim := { program := "ytinibkdbfpafcaa", sum := "7bfce5df1608a88ffc3e8d5fd5a65fc13c0d0dca4b56f0b994f641de88dab35c", func := "loop.example/g00040/laws.FnExactLotsOf", spec := "fnExactLotsOf", unfollowed := true, recurses := true, plainKeys := false, apart := false }
def FnExactLotsOfSaid : Prop := fnExactLotsOfRow.holds Try.pinned (OpenSpec.ofChange fnExactLotsOfSpec)

/-- ITS FALSE NEIGHBOUR: 'it returns false'. Refute it at one input. -/
def fnExactLotsOfWrong : ChangeSpec := { name := "fnExactLotsOf", fn := fun _ => fun
  | [d1, d2] => { results := [.lit (.bool false)], args := [d1, d2] }
  | _ => none }
def FnExactLotsOfWrongFalsely : Prop := fnExactLotsOfRow.holds Try.pinned (OpenSpec.ofChange fnExactLotsOfWrong)

/-- 'laws.FnExactTakeIn': WHATEVER THE INPUT: true; the input reads as it did. -/
def fnExactTakeInSpec : ChangeSpec := { name := "fnExactTakeIn", fn := fun _ => fun
  | [d1, d2, d3] => { results := [.lit (.bool true)], args := [d1, d2, d3] }
  | _ => none }
def fnExactTakeInRow : OpenClaim := { program := "ytinibkdbfpafcaa", sum := "7bfce5df1608a88ffc3e8d5fd5a65fc13c0d0dca4b56f0b994f641de88dab35c", func := "loop.example/g00040/laws.FnExactTakeIn", spec := "fnExactTakeIn", unfollowed := true, recurses := true, plainKeys := false, apart := false }
def FnExactTakeInSaid : Prop := fnExactTakeInRow.holds Try.pinned (OpenSpec.ofChange fnExactTakeInSpec)

/-- ITS FALSE NEIGHBOUR: 'it returns false'. Refute it at one input. -/
def fnExactTakeInWrong : ChangeSpec := { name := "fnExactTakeIn", fn := fun _ => fun
  | [d1, d2, d3] => { results := [.lit (.bool false)], args := [d1, d2, d3] }
  | _ => none }
def FnExactTakeInWrongFalsely : Prop := fnExactTakeInRow.holds Try.pinned (OpenSpec.ofChange fnExactTakeInWrong)

/-- 'laws.FnExactLoadOk': WHATEVER THE INPUT: true; the input reads as it did. -/
def fnExactLoadOkSpec : ChangeSpec := { name := "fnExactLoadOk", fn := fun _ => fun
  | [d1, d2] => { results := [.lit (.bool true)], args := [d1, d2] }
  | _ => none }
def fnExactLoadOkRow : OpenClaim := { program := "ytinibkdbfpafcaa", sum := "7bfce5df1608a88ffc3e8d5fd5a65fc13c0d0dca4b56f0b994f641de88dab35c", func := "loop.example/g00040/laws.FnExactLoadOk", spec := "fnExactLoadOk", plainKeys := false, apart := false }
def FnExactLoadOkSaid : Prop := fnExactLoadOkRow.holds Try.pinned (OpenSpec.ofChange fnExactLoadOkSpec)

/-- ITS FALSE NEIGHBOUR: 'it returns false'. Refute it at one input. -/
def fnExactLoadOkWrong : ChangeSpec := { name := "fnExactLoadOk", fn := fun _ => fun
  | [d1, d2] => { results := [.lit (.bool false)], args := [d1, d2] }
  | _ => none }
def FnExactLoadOkWrongFalsely : Prop := fnExactLoadOkRow.holds Try.pinned (OpenSpec.ofChange fnExactLoadOkWrong)

/-- 'laws.FnMoved': WHATEVER THE INPUT: true; the input reads as it did. -/
def fnMovedSpec : ChangeSpec := { name := "fnMoved", fn := fun _ => fun
  | [d] => { results := [.lit (.bool true)], args := [d] }
  | _ => none }
def fnMovedRow : OpenClaim := { program := "ytinibkdbfpafcaa", sum := "7bfce5df1608a88ffc3e8d5fd5a65fc13c0d0dca4b56f0b994f641de88dab35c", func := "loop.example/g00040/laws.FnMoved", spec := "fnMoved", plainKeys := false, apart := false }
def FnMovedSaid : Prop := fnMovedRow.holds Try.pinned (OpenSpec.ofChange fnMovedSpec)

/-- ITS FALSE NEIGHBOUR: 'it returns false'. Refute it at one input. -/
def fnMovedWrong : ChangeSpec := { name := "fnMoved", fn := fun _ => fun
  | [d] => { results := [.lit (.bool false)], args := [d] }
  | _ => none }
def FnMovedWrongFalsely : Prop := fnMovedRow.holds Try.pinned (OpenSpec.ofChange fnMovedWrong)

/-- 'laws.FnLevelled': WHATEVER THE INPUT: true; the input reads as it did. -/
def fnLevelledSpec : ChangeSpec := { name := "fnLevelled", fn := fun _ => fun
  | [d] => { results := [.lit (.bool true)], args := [d] }
  | _ => none }
def fnLevelledRow : OpenClaim := { program := "ytinibkdbfpafcaa", sum := "7bfce5df1608a88ffc3e8d5fd5a65fc13c0d0dca4b56f0b994f641de88dab35c", func := "loop.example/g00040/laws.FnLevelled", spec := "fnLevelled", recurses := true, plainKeys := false, apart := false }
def FnLevelledSaid : Prop := fnLevelledRow.holds Try.pinned (OpenSpec.ofChange fnLevelledSpec)

/-- ITS FALSE NEIGHBOUR: 'it returns false'. Refute it at one input. -/
def fnLevelledWrong : ChangeSpec := { name := "fnLevelled", fn := fun _ => fun
  | [d] => { results := [.lit (.bool false)], args := [d] }
  | _ => none }
def FnLevelledWrongFalsely : Prop := fnLevelledRow.holds Try.pinned (OpenSpec.ofChange fnLevelledWrong)

/- THE SECOND FORM. 'bulk': how many values and letters a reading holds, each counted each time it is reached (what is shared counts as often as it is met; a slice's spare places count too). A statement '..UptoSaid' is the law's where the arguments, and the package variables that the reading takes, are together of bulk at most 1048576: NARROWER than '..Said'. Prove '..Said' where nothing that the law and all that it calls make is longer than what came in: it says more and counts as full. Else prove '..UptoSaid'. A law counts once. -/
mutual
def uptoBulk {H : Type} : DataW H → Nat
  | .lit (.string bytes) => bytes.length + 1
  | .lit _ => 1
  | .nil => 1
  | .ptr d => uptoBulk d + 1
  | .slice elems spare => uptoBulkAll elems + uptoBulkAll spare + 1
  | .agg parts => uptoBulkAll parts + 1
  | .iface _ d => uptoBulk d + 1
  | .map entries => uptoBulkEntries entries + 1
  | .held _ => 1
def uptoBulkAll {H : Type} : List (DataW H) → Nat
  | [] => 0
  | d :: r => uptoBulk d + uptoBulkAll r
def uptoBulkEntries {H : Type} : List (Lit × DataW H) → Nat
  | [] => 0
  | x :: r => uptoBulkEntry x + uptoBulkEntries r
def uptoBulkEntry {H : Type} : Lit × DataW H → Nat
  | (.string bytes, d) => bytes.length + uptoBulk d + 1
  | (_, d) => uptoBulk d + 1
 end
def uptoSmall : (H : Type) → List (DataW H) → Bool := fun _ ds => decide (uptoBulkAll ds ≤ 1048576)
def OpenSpec.upto (s : _root_.Go.ChangeSpec) : _root_.Go.OpenSpec := { _root_.Go.OpenSpec.ofChange s with cond := some uptoSmall }

/-- 'laws.FnUnits', WHERE WHAT IT READS IS OF BULK AT MOST 1048576: true; the input reads as it did. -/
def fnUnitsUptoRow : OpenClaim := { program := "ytinibkdbfpafcaa", sum := "7bfce5df1608a88ffc3e8d5fd5a65fc13c0d0dca4b56f0b994f641de88dab35c", func := "loop.example/g00040/laws.FnUnits", spec := "fnUnits", plainKeys := false, apart := false, narrowed := true }
def FnUnitsUptoSaid : Prop := fnUnitsUptoRow.holds Try.pinned (OpenSpec.upto fnUnitsSpec)

/-- 'laws.FnExactUnder', WHERE WHAT IT READS IS OF BULK AT MOST 1048576: true; the input reads as it did. -/
def fnExactUnderUptoRow : OpenClaim := { program := "ytinibkdbfpafcaa", sum := "7bfce5df1608a88ffc3e8d5fd5a65fc13c0d0dca4b56f0b994f641de88dab35c", func := "loop.example/g00040/laws.FnExactUnder", spec := "fnExactUnder", plainKeys := false, apart := false, narrowed := true }
def FnExactUnderUptoSaid : Prop := fnExactUnderUptoRow.holds Try.pinned (OpenSpec.upto fnExactUnderSpec)

/-- 'laws.FnExactMay', WHERE WHAT IT READS IS OF BULK AT MOST 1048576: true; the input reads as it did. -/
def fnExactMayUptoRow : OpenClaim := { program := "ytinibkdbfpafcaa", sum := "7bfce5df1608a88ffc3e8d5fd5a65fc13c0d0dca4b56f0b994f641de88dab35c", func := "loop.example/g00040/laws.FnExactMay", spec := "fnExactMay", plainKeys := false, apart := false, narrowed := true }
def FnExactMayUptoSaid : Prop := fnExactMayUptoRow.holds Try.pinned (OpenSpec.upto fnExactMaySpec)

/-- 'laws.FnLanded', WHERE WHAT IT READS IS OF BULK AT MOST 1048576: true; the input reads as it did. -/
def fnLandedUptoRow : OpenClaim := { program := "ytinibkdbfpafcaa", sum := "7bfce5df1608a88ffc3e8d5fd5a65fc13c0d0dca4b56f0b994f641de88dab35c", func := "loop.example/g00040/laws.FnLanded", spec := "fnLanded", unfollowed := true, recurses := true, plainKeys := false, apart := false, narrowed := true }
def FnLandedUptoSaid : Prop := fnLandedUptoRow.holds Try.pinned (OpenSpec.upto fnLandedSpec)

/-- 'laws.FnExactRegisterOk', WHERE WHAT IT READS IS OF BULK AT MOST 1048576: true; the input reads as it did. -/
def fnExactRegisterOkUptoRow : OpenClaim := { program := "ytinibkdbfpafcaa", sum := "7bfce5df1608a88ffc3e8d5fd5a65fc13c0d0dca4b56f0b994f641de88dab35c", func := "loop.example/g00040/laws.FnExactRegisterOk", spec := "fnExactRegisterOk", recurses := true, plainKeys := false, apart := false, narrowed := true }
def FnExactRegisterOkUptoSaid : Prop := fnExactRegisterOkUptoRow.holds Try.pinned (OpenSpec.upto fnExactRegisterOkSpec)

/-- 'laws.FnExactCount', WHERE WHAT IT READS IS OF BULK AT MOST 1048576: true; the input reads as it did. -/
def fnExactCountUptoRow : OpenClaim := { program := "ytinibkdbfpafcaa", sum := "7bfce5df1608a88ffc3e8d5fd5a65fc13c0d0dca4b56f0b994f641de88dab35c", func := "loop.example/g00040/laws.FnExactCount", spec := "fnExactCount", plainKeys := false, apart := false, narrowed := true }
def FnExactCountUptoSaid : Prop := fnExactCountUptoRow.holds Try.pinned (OpenSpec.upto fnExactCountSpec)

/-- 'laws.FnExactLanded', WHERE WHAT IT READS IS OF BULK AT MOST 1048576: true; the input reads as it did. -/
def fnExactLandedUptoRow : OpenClaim := { program := "ytinibkdbfpafcaa", sum := "7bfce5df1608a88ffc3e8d5fd5a65fc13c0d0dca4b56f0b994f641de88dab35c", func := "loop.example/g00040/laws.FnExactLanded", spec := "fnExactLanded", unfollowed := true, recurses := true, plainKeys := false, apart := false, narrowed := true }
def FnExactLandedUptoSaid : Prop := fnExactLandedUptoRow.holds Try.pinned (OpenSpec.upto fnExactLandedSpec)

/-- 'laws.FnExactLotsOf', WHERE WHAT IT READS IS OF BULK AT MOST 1048576: true; the input reads as it did. -/
def fnExactLotsOfUptoRow : OpenClaim := { program := "ytinibkdbfpafcaa", sum := "7bfce5df1608a88ffc3e8d5fd5a65fc13c0d0dca4b56f0b994f641de88dab35c", func := "loop.example/g00040/laws.FnExactLotsOf", spec := "fnExactLotsOf", unfollowed := true, recurses := true, plainKeys := false, apart := false, narrowed := true }
def FnExactLotsOfUptoSaid : Prop := fnExactLotsOfUptoRow.holds Try.pinned (OpenSpec.upto fnExactLotsOfSpec)

/-- 'laws.FnExactTakeIn', WHERE WHAT IT READS IS OF BULK AT MOST 1048576: true; the input reads as it did. -/
def fnExactTakeInUptoRow : OpenClaim := { program := "ytinibkdbfpafcaa", sum := "7bfce5df1608a88ffc3e8d5fd5a65fc13c0d0dca4b56f0b994f641de88dab35c", func := "loop.example/g00040/laws.FnExactTakeIn", spec := "fnExactTakeIn", unfollowed := true, recurses := true, plainKeys := false, apart := false, narrowed := true }
def FnExactTakeInUptoSaid : Prop := fnExactTakeInUptoRow.holds Try.pinned (OpenSpec.upto fnExactTakeInSpec)

/-- 'laws.FnExactLoadOk', WHERE WHAT IT READS IS OF BULK AT MOST 1048576: true; the input reads as it did. -/
def fnExactLoadOkUptoRow : OpenClaim := { program := "ytinibkdbfpafcaa", sum := "7bfce5df1608a88ffc3e8d5fd5a65fc13c0d0dca4b56f0b994f641de88dab35c", func := "loop.example/g00040/laws.FnExactLoadOk", spec := "fnExactLoadOk", plainKeys := false, apart := false, narrowed := true }
def FnExactLoadOkUptoSaid : Prop := fnExactLoadOkUptoRow.holds Try.pinned (OpenSpec.upto fnExactLoadOkSpec)

/-- 'laws.FnMoved', WHERE WHAT IT READS IS OF BULK AT MOST 1048576: true; the input reads as it did. -/
def fnMovedUptoRow : OpenClaim := { program := "ytinibkdbfpafcaa", sum := "7bfce5df1608a88ffc3e8d5fd5a65fc13c0d0dca4b56f0b994f641de88dab35c", func := "loop.example/g00040/laws.FnMoved", spec := "fnMoved", plainKeys := false, apart := false, narrowed := true }
def FnMovedUptoSaid : Prop := fnMovedUptoRow.holds Try.pinned (OpenSpec.upto fnMovedSpec)

/-- 'laws.FnLevelled', WHERE WHAT IT READS IS OF BULK AT MOST 1048576: true; the input reads as it did. -/
def fnLevelledUptoRow : OpenClaim := { program := "ytinibkdbfpafcaa", sum := "7bfce5df1608a88ffc3e8d5fd5a65fc13c0d0dca4b56f0b994f641de88dab35c", func := "loop.example/g00040/laws.FnLevelled", spec := "fnLevelled", recurses := true, plainKeys := false, apart := false, narrowed := true }
def FnLevelledUptoSaid : Prop := fnLevelledUptoRow.holds Try.pinned (OpenSpec.upto fnLevelledSpec)

end Rows
end Go.Proofs.Ytinibkdbfpafcaa
