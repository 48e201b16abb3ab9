/-
  No cell of these rows narrows 'for every input' (looked for: loops, veiled, ifaces, maps, wideKeys, modest, calm, conditions, laid).
  DERIVED. THE GIVEN ROWS OF THIS SEAT. 9 by the template 'for every input the law returns true; each argument reads behind the call as it read before'; 0 by the template 'total and deterministic' (their statements: YtkkdmmefnicmaaaTotals.lean).
  GIVEN WITH THE SEED: the statements are not yours to turn. If you find one false, say at which input.
  Laid BY PROGRAM, IN A SANDBOX (cutbox-rows.mjs): the forced cells as the released guide's own fill.sh prints them over the translation f68446182ccdc617… (all of the seat's roots in one cut). By AI agents, Wed Nov 11 2026. No macro, syntax, notation, axiom, sorry.
-/
import Derived.Test.YtkkdmmefnicmaaaChecked
import GoSem.Claim
import GoSem.ClaimJoined
import GoSem.ClaimMapViews
import Derived.JoinedTies
import Derived.KernelRfl
namespace Go.Proofs.Ytkkdmmefnicmaaa
/- THE CELL 'sum', in the pinned program and in every row, IS THE sha256 OF THE DUMP (.gsa) THAT YtkkdmmefnicmaaaProg.lean LOADS. Nothing in Lean hashes anything: it is a label: what it is worth is what the hold of that sum in a sandbox is worth. -/
noncomputable def Try.pinned : Pinned := { name := "ytkkdmmefnicmaaa", sum := "f68446182ccdc617890d9be60027f8b2a93e7410dcbd3e61e057bd58960a9708", checked := Try.checked }
namespace Rows
def none {H : Type} : Left H := { results := [], args := [] }

/-- 'laws.FnLotsCover': WHATEVER THE INPUT: true; the input reads as it did. -/
def fnLotsCoverSpec : ChangeSpec := { name := "fnLotsCover", fn := fun _ => fun
  | [d] => { results := [.lit (.bool true)], args := [d] }
  | _ => none }
def fnLotsCoverRow : OpenClaim := { program := "ytkkdmmefnicmaaa", sum := "f68446182ccdc617890d9be60027f8b2a93e7410dcbd3e61e057bd58960a9708", func := "loop.example/g00040/laws.FnLotsCover", spec := "fnLotsCover", unfollowed := true, recurses := true, leaving := true, apart := false }
def FnLotsCoverSaid : Prop := fnLotsCoverRow.holds Try.pinned (OpenSpec.ofChange fnLotsCoverSpec)

/-- ITS FALSE NEIGHBOUR: 'it returns false'. Refute it at one input. -/
def fnLotsCoverWrong : ChangeSpec := { name := "fnLotsCover", fn := fun _ => fun
  | [d] => { results := [.lit (.bool false)], args := [d] }
  | _ => none }
def FnLotsCoverWrongFalsely : Prop := fnLotsCoverRow.holds Try.pinned (OpenSpec.ofChange fnLotsCoverWrong)

/-- 'laws.FnUnits': WHATEVER THE INPUT: true; the input reads as it did. -/
def fnUnitsSpec : ChangeSpec := { name := "fnUnits", fn := fun _ => fun
  | [d] => { results := [.lit (.bool true)], args := [d] }
  | _ => none }
def fnUnitsRow : OpenClaim := { program := "ytkkdmmefnicmaaa", sum := "f68446182ccdc617890d9be60027f8b2a93e7410dcbd3e61e057bd58960a9708", func := "loop.example/g00040/laws.FnUnits", spec := "fnUnits", apart := false }
def FnUnitsSaid : Prop := fnUnitsRow.holds Try.pinned (OpenSpec.ofChange fnUnitsSpec)

/-- ITS FALSE NEIGHBOUR: 'it returns false'. Refute it at one input. -/
def fnUnitsWrong : ChangeSpec := { name := "fnUnits", fn := fun _ => fun
  | [d] => { results := [.lit (.bool false)], args := [d] }
  | _ => none }
def FnUnitsWrongFalsely : Prop := fnUnitsRow.holds Try.pinned (OpenSpec.ofChange fnUnitsWrong)

/-- 'laws.FnExactLotsOf': WHATEVER THE INPUT: true; the input reads as it did. -/
def fnExactLotsOfSpec : ChangeSpec := { name := "fnExactLotsOf", fn := fun _ => fun
  | [d1, d2] => { results := [.lit (.bool true)], args := [d1, d2] }
  | _ => none }
def fnExactLotsOfRow : OpenClaim := { program := "ytkkdmmefnicmaaa", sum := "f68446182ccdc617890d9be60027f8b2a93e7410dcbd3e61e057bd58960a9708", func := "loop.example/g00040/laws.FnExactLotsOf", spec := "fnExactLotsOf", unfollowed := true, recurses := true, leaving := true, apart := false }
def FnExactLotsOfSaid : Prop := fnExactLotsOfRow.holds Try.pinned (OpenSpec.ofChange fnExactLotsOfSpec)

/-- ITS FALSE NEIGHBOUR: 'it returns false'. Refute it at one input. -/
def fnExactLotsOfWrong : ChangeSpec := { name := "fnExactLotsOf", fn := fun _ => fun
  | [d1, d2] => { results := [.lit (.bool false)], args := [d1, d2] }
  | _ => none }
def FnExactLotsOfWrongFalsely : Prop := fnExactLotsOfRow.holds Try.pinned (OpenSpec.ofChange fnExactLotsOfWrong)

/-- 'laws.FnLevelled': WHATEVER THE INPUT: true; the input reads as it did. -/
def fnLevelledSpec : ChangeSpec := { name := "fnLevelled", fn := fun _ => fun
  | [d] => { results := [.lit (.bool true)], args := [d] }
  | _ => none }
def fnLevelledRow : OpenClaim := { program := "ytkkdmmefnicmaaa", sum := "f68446182ccdc617890d9be60027f8b2a93e7410dcbd3e61e057bd58960a9708", func := "loop.example/g00040/laws.FnLevelled", spec := "fnLevelled", recurses := true, apart := false }
def FnLevelledSaid : Prop := fnLevelledRow.holds Try.pinned (OpenSpec.ofChange fnLevelledSpec)

/-- ITS FALSE NEIGHBOUR: 'it returns false'. Refute it at one input. -/
def fnLevelledWrong : ChangeSpec := { name := "fnLevelled", fn := fun _ => fun
  | [d] => { results := [.lit (.bool false)], args := [d] }
  | _ => none }
def FnLevelledWrongFalsely : Prop := fnLevelledRow.holds Try.pinned (OpenSpec.ofChange fnLevelledWrong)

/-- 'laws.FnPegged': WHATEVER THE INPUT: true; the input reads as it did. -/
def fnPeggedSpec : ChangeSpec := { name := "fnPegged", fn := fun _ => fun
  | [d] => { results := [.lit (.bool true)], args := [d] }
  | _ => none }
def fnPeggedRow : OpenClaim := { program := "ytkkdmmefnicmaaa", sum := "f68446182ccdc617890d9be60027f8b2a93e7410dcbd3e61e057bd58960a9708", func := "loop.example/g00040/laws.FnPegged", spec := "fnPegged", leaving := true, apart := false }
def FnPeggedSaid : Prop := fnPeggedRow.holds Try.pinned (OpenSpec.ofChange fnPeggedSpec)

/-- ITS FALSE NEIGHBOUR: 'it returns false'. Refute it at one input. -/
def fnPeggedWrong : ChangeSpec := { name := "fnPegged", fn := fun _ => fun
  | [d] => { results := [.lit (.bool false)], args := [d] }
  | _ => none }
def FnPeggedWrongFalsely : Prop := fnPeggedRow.holds Try.pinned (OpenSpec.ofChange fnPeggedWrong)

/-- 'laws.FnExactWriteBank': WHATEVER THE INPUT: true; the input reads as it did. -/
def fnExactWriteBankSpec : ChangeSpec := { name := "fnExactWriteBank", fn := fun _ => fun
  | [d1, d2] => { results := [.lit (.bool true)], args := [d1, d2] }
  | _ => none }
def fnExactWriteBankRow : OpenClaim := { program := "ytkkdmmefnicmaaa", sum := "f68446182ccdc617890d9be60027f8b2a93e7410dcbd3e61e057bd58960a9708", func := "loop.example/g00040/laws.FnExactWriteBank", spec := "fnExactWriteBank", recurses := true, apart := false }
def FnExactWriteBankSaid : Prop := fnExactWriteBankRow.holds Try.pinned (OpenSpec.ofChange fnExactWriteBankSpec)

/-- ITS FALSE NEIGHBOUR: 'it returns false'. Refute it at one input. -/
def fnExactWriteBankWrong : ChangeSpec := { name := "fnExactWriteBank", fn := fun _ => fun
  | [d1, d2] => { results := [.lit (.bool false)], args := [d1, d2] }
  | _ => none }
def FnExactWriteBankWrongFalsely : Prop := fnExactWriteBankRow.holds Try.pinned (OpenSpec.ofChange fnExactWriteBankWrong)

/-- 'laws.FnNoGap': WHATEVER THE INPUT: true; the input reads as it did. -/
def fnNoGapSpec : ChangeSpec := { name := "fnNoGap", fn := fun _ => fun
  | [d] => { results := [.lit (.bool true)], args := [d] }
  | _ => none }
def fnNoGapRow : OpenClaim := { program := "ytkkdmmefnicmaaa", sum := "f68446182ccdc617890d9be60027f8b2a93e7410dcbd3e61e057bd58960a9708", func := "loop.example/g00040/laws.FnNoGap", spec := "fnNoGap", recurses := true, apart := false }
def FnNoGapSaid : Prop := fnNoGapRow.holds Try.pinned (OpenSpec.ofChange fnNoGapSpec)

/-- ITS FALSE NEIGHBOUR: 'it returns false'. Refute it at one input. -/
def fnNoGapWrong : ChangeSpec := { name := "fnNoGap", fn := fun _ => fun
  | [d] => { results := [.lit (.bool false)], args := [d] }
  | _ => none }
def FnNoGapWrongFalsely : Prop := fnNoGapRow.holds Try.pinned (OpenSpec.ofChange fnNoGapWrong)

/-- 'laws.FnReconciled': WHATEVER THE INPUT: true; the input reads as it did. -/
def fnReconciledSpec : ChangeSpec := { name := "fnReconciled", fn := fun _ => fun
  | [d] => { results := [.lit (.bool true)], args := [d] }
  | _ => none }
def fnReconciledRow : OpenClaim := { program := "ytkkdmmefnicmaaa", sum := "f68446182ccdc617890d9be60027f8b2a93e7410dcbd3e61e057bd58960a9708", func := "loop.example/g00040/laws.FnReconciled", spec := "fnReconciled", unfollowed := true, recurses := true, leaving := true, apart := false }
def FnReconciledSaid : Prop := fnReconciledRow.holds Try.pinned (OpenSpec.ofChange fnReconciledSpec)

/-- ITS FALSE NEIGHBOUR: 'it returns false'. Refute it at one input. -/
def fnReconciledWrong : ChangeSpec := { name := "fnReconciled", fn := fun _ => fun
  | [d] => { results := [.lit (.bool false)], args := [d] }
  | _ => none }
def FnReconciledWrongFalsely : Prop := fnReconciledRow.holds Try.pinned (OpenSpec.ofChange fnReconciledWrong)

/-- 'laws.FnChained': WHATEVER THE INPUT: true; the input reads as it did. -/
def fnChainedSpec : ChangeSpec := { name := "fnChained", fn := fun _ => fun
  | [d] => { results := [.lit (.bool true)], args := [d] }
  | _ => none }
def fnChainedRow : OpenClaim := { program := "ytkkdmmefnicmaaa", sum := "f68446182ccdc617890d9be60027f8b2a93e7410dcbd3e61e057bd58960a9708", func := "loop.example/g00040/laws.FnChained", spec := "fnChained", unfollowed := true, recurses := true, leaving := true, apart := false }
def FnChainedSaid : Prop := fnChainedRow.holds Try.pinned (OpenSpec.ofChange fnChainedSpec)

/-- ITS FALSE NEIGHBOUR: 'it returns false'. Refute it at one input. -/
def fnChainedWrong : ChangeSpec := { name := "fnChained", fn := fun _ => fun
  | [d] => { results := [.lit (.bool false)], args := [d] }
  | _ => none }
def FnChainedWrongFalsely : Prop := fnChainedRow.holds Try.pinned (OpenSpec.ofChange fnChainedWrong)

/- THE SECOND FORM. 'bulk': how many values and letters a reading holds, each counted each time it is reached (what is shared counts as often as it is met; a slice's spare places count too). A statement '..UptoSaid' is the law's where the arguments, and the package variables that the reading takes, are together of bulk at most 1048576: NARROWER than '..Said'. Prove '..Said' where nothing that the law and all that it calls make is longer than what came in: it says more and counts as full. Else prove '..UptoSaid'. A law counts once. -/
mutual
def uptoBulk {H : Type} : DataW H → Nat
  | .lit (.string bytes) => bytes.length + 1
  | .lit _ => 1
  | .nil => 1
  | .ptr d => uptoBulk d + 1
  | .slice elems spare => uptoBulkAll elems + uptoBulkAll spare + 1
  | .agg parts => uptoBulkAll parts + 1
  | .iface _ d => uptoBulk d + 1
  | .map entries => uptoBulkEntries entries + 1
  | .held _ => 1
def uptoBulkAll {H : Type} : List (DataW H) → Nat
  | [] => 0
  | d :: r => uptoBulk d + uptoBulkAll r
def uptoBulkEntries {H : Type} : List (Lit × DataW H) → Nat
  | [] => 0
  | x :: r => uptoBulkEntry x + uptoBulkEntries r
def uptoBulkEntry {H : Type} : Lit × DataW H → Nat
  | (.string bytes, d) => bytes.length + uptoBulk d + 1
  | (_, d) => uptoBulk d + 1
 end
def uptoSmall : (H : Type) → List (DataW H) → Bool := fun _ ds => decide (uptoBulkAll ds ≤ 1048576)
def OpenSpec.upto (s : _root_.Go.ChangeSpec) : _root_.Go.OpenSpec := { _root_.Go.OpenSpec.ofChange s with cond := some uptoSmall }

/-- 'laws.FnLotsCover', WHERE WHAT IT READS IS OF BULK AT MOST 1048576: true; the input reads as it did. -/
def fnLotsCoverUptoRow : OpenClaim := { program := "ytkkdmmefnicmaaa", sum := "f68446182ccdc617890d9be60027f8b2a93e7410dcbd3e61e057bd58960a9708", func := "loop.example/g00040/laws.FnLotsCover", spec := "fnLotsCover", unfollowed := true, recurses := true, leaving := true, apart := false, narrowed := true }
def FnLotsCoverUptoSaid : Prop := fnLotsCoverUptoRow.holds Try.pinned (OpenSpec.upto fnLotsCoverSpec)

/-- 'laws.FnUnits', WHERE WHAT IT READS IS OF BULK AT MOST 1048576: true; the input reads as it did. -/
def fnUnitsUptoRow : OpenClaim := { program := "ytkkdmmefnicmaaa", sum := "f68446182ccdc617890d9be60027f8b2a93e7410dcbd3e61e057bd58960a9708", func := "loop.example/g00040/laws.FnUnits", spec := "fnUnits", apart := false, narrowed := true }
def FnUnitsUptoSaid : Prop := fnUnitsUptoRow.holds Try.pinned (OpenSpec.upto fnUnitsSpec)

/-- 'laws.FnExactLotsOf', WHERE WHAT IT READS IS OF BULK AT MOST 1048576: true; the input reads as it did. -/
def fnExactLotsOfUptoRow : OpenClaim := { program := "ytkkdmmefnicmaaa", sum := "f68446182ccdc617890d9be60027f8b2a93e7410dcbd3e61e057bd58960a9708", func := "loop.example/g00040/laws.FnExactLotsOf", spec := "fnExactLotsOf", unfollowed := true, recurses := true, leaving := true, apart := false, narrowed := true }
def FnExactLotsOfUptoSaid : Prop := fnExactLotsOfUptoRow.holds Try.pinned (OpenSpec.upto fnExactLotsOfSpec)

/-- 'laws.FnLevelled', WHERE WHAT IT READS IS OF BULK AT MOST 1048576: true; the input reads as it did. -/
def fnLevelledUptoRow : OpenClaim := { program := "ytkkdmmefnicmaaa", sum := "f68446182ccdc617890d9be60027f8b2a93e7410dcbd3e61e057bd58960a9708", func := "loop.example/g00040/laws.FnLevelled", spec := "fnLevelled", recurses := true, apart := false, narrowed := true }
def FnLevelledUptoSaid : Prop := fnLevelledUptoRow.holds Try.pinned (OpenSpec.upto fnLevelledSpec)

/-- 'laws.FnPegged', WHERE WHAT IT READS IS OF BULK AT MOST 1048576: true; the input reads as it did. -/
def fnPeggedUptoRow : OpenClaim := { program := "ytkkdmmefnicmaaa", sum := "f68446182ccdc617890d9be60027f8b2a93e7410dcbd3e61e057bd58960a9708", func := "loop.example/g00040/laws.FnPegged", spec := "fnPegged", leaving := true, apart := false, narrowed := true }
def FnPeggedUptoSaid : Prop := fnPeggedUptoRow.holds Try.pinned (OpenSpec.upto fnPeggedSpec)

/-- 'laws.FnExactWriteBank', WHERE WHAT IT READS IS OF BULK AT MOST 1048576: true; the input reads as it did. -/
def fnExactWriteBankUptoRow : OpenClaim := { program := "ytkkdmmefnicmaaa", sum := "f68446182ccdc617890d9be60027f8b2a93e7410dcbd3e61e057bd58960a9708", func := "loop.example/g00040/laws.FnExactWriteBank", spec := "fnExactWriteBank", recurses := true, apart := false, narrowed := true }
def FnExactWriteBankUptoSaid : Prop := fnExactWriteBankUptoRow.holds Try.pinned (OpenSpec.upto fnExactWriteBankSpec)

/-- 'laws.FnNoGap', WHERE WHAT IT READS IS OF BULK AT MOST 1048576: true; the input reads as it did. -/
def fnNoGapUptoRow : OpenClaim := { program := "ytkkdmmefnicmaaa", sum := "f68446182ccdc617890d9be60027f8b2a93e7410dcbd3e61e057bd58960a9708", func := "loop.example/g00040/laws.FnNoGap", spec := "fnNoGap", recurses := true, apart := false, narrowed := true }
def FnNoGapUptoSaid : Prop := fnNoGapUptoRow.holds Try.pinned (OpenSpec.upto fnNoGapSpec)

/-- 'laws.FnReconciled', WHERE WHAT IT READS IS OF BULK AT MOST 1048576: true; the input reads as it did. -/
def fnReconciledUptoRow : OpenClaim := { program := "ytkkdmmefnicmaaa", sum := "f68446182ccdc617890d9be60027f8b2a93e7410dcbd3e61e057bd58960a9708", func := "loop.example/g00040/laws.FnReconciled", spec := "fnReconciled", unfollowed := true, recurses := true, leaving := true, apart := false, narrowed := true }
def FnReconciledUptoSaid : Prop := fnReconciledUptoRow.holds Try.pinned (OpenSpec.upto fnReconciledSpec)

/-- 'laws.FnChained', WHERE WHAT IT READS IS OF BULK AT MOST 1048576: true; the input reads as it did. -/
def fnChainedUptoRow : OpenClaim := { program := "ytkkdmmefnicmaaa", sum := "f68446182ccdc617890d9be60027f8b2a93e7410dcbd3e61e057bd58960a9708", func := "loop.example/g00040/laws.FnChained", spec := "fnChained", unfollowed := true, recurses := true, leaving := true, apart := false, narrowed := true }
def FnChainedUptoSaid : Prop := fnChainedUptoRow.holds Try.pinned (OpenSpec.upto fnChainedSpec)

end Rows
end Go.Proofs.Ytkkdmmefnicmaaa
