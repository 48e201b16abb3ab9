/-
  No cell of these rows narrows 'for every input' (looked for: loops, veiled, ifaces, maps, wideKeys, modest, calm, conditions, laid).
  DERIVED. THE GIVEN ROWS OF THIS SEAT. 12 by the template 'for every input the law returns true; each argument reads behind the call as it read before'; 0 by the template 'total and deterministic' (their statements: YtflagondodkonaaTotals.lean).
  GIVEN WITH THE SEED: the statements are not yours to turn. If you find one false, say at which input.
  Laid BY PROGRAM, IN A SANDBOX (cutbox-rows.mjs): the forced cells as the released guide's own fill.sh prints them over the translation c6b584f7f08d30f6… (all of the seat's roots in one cut). By AI agents, Wed Nov 11 2026. No macro, syntax, notation, axiom, sorry.
-/
import Derived.Test.YtflagondodkonaaChecked
import GoSem.Claim
import GoSem.ClaimJoined
import GoSem.ClaimMapViews
import Derived.JoinedTies
import Derived.KernelRfl
namespace Go.Proofs.Ytflagondodkonaa
/- THE CELL 'sum', in the pinned program and in every row, IS THE sha256 OF THE DUMP (.gsa) THAT YtflagondodkonaaProg.lean LOADS. Nothing in Lean hashes anything: it is a label: what it is worth is what the hold of that sum in a sandbox is worth. -/
noncomputable def Try.pinned : Pinned := { name := "ytflagondodkonaa", sum := "c6b584f7f08d30f65c3a72506ab734a4f49799863b3e29c207ecafe916592fc7", checked := Try.checked }
namespace Rows
def none {H : Type} : Left H := { results := [], args := [] }

/-- 'laws.FnExactShowPaper': WHATEVER THE INPUT: true; the input reads as it did. -/
def fnExactShowPaperSpec : ChangeSpec := { name := "fnExactShowPaper", fn := fun _ => fun
  | [d1, d2] => { results := [.lit (.bool true)], args := [d1, d2] }
  | _ => none }
def fnExactShowPaperRow : OpenClaim := { program := "ytflagondodkonaa", sum := "c6b584f7f08d30f65c3a72506ab734a4f49799863b3e29c207ecafe916592fc7", func := "loop.example/g00040/laws.FnExactShowPaper", spec := "fnExactShowPaper", recurses := true, plainKeys := false, apart := false }
def FnExactShowPaperSaid : Prop := fnExactShowPaperRow.holds Try.pinned (OpenSpec.ofChange fnExactShowPaperSpec)

/-- ITS FALSE NEIGHBOUR: 'it returns false'. Refute it at one input. -/
def fnExactShowPaperWrong : ChangeSpec := { name := "fnExactShowPaper", fn := fun _ => fun
  | [d1, d2] => { results := [.lit (.bool false)], args := [d1, d2] }
  | _ => none }
def FnExactShowPaperWrongFalsely : Prop := fnExactShowPaperRow.holds Try.pinned (OpenSpec.ofChange fnExactShowPaperWrong)

/-- 'laws.FnExactItemsOk': WHATEVER THE INPUT: true; the input reads as it did. -/
def fnExactItemsOkSpec : ChangeSpec := { name := "fnExactItemsOk", fn := fun _ => fun
  | [d] => { results := [.lit (.bool true)], args := [d] }
  | _ => none }
def fnExactItemsOkRow : OpenClaim := { program := "ytflagondodkonaa", sum := "c6b584f7f08d30f65c3a72506ab734a4f49799863b3e29c207ecafe916592fc7", func := "loop.example/g00040/laws.FnExactItemsOk", spec := "fnExactItemsOk", plainKeys := false, apart := false }
def FnExactItemsOkSaid : Prop := fnExactItemsOkRow.holds Try.pinned (OpenSpec.ofChange fnExactItemsOkSpec)

/-- ITS FALSE NEIGHBOUR: 'it returns false'. Refute it at one input. -/
def fnExactItemsOkWrong : ChangeSpec := { name := "fnExactItemsOk", fn := fun _ => fun
  | [d] => { results := [.lit (.bool false)], args := [d] }
  | _ => none }
def FnExactItemsOkWrongFalsely : Prop := fnExactItemsOkRow.holds Try.pinned (OpenSpec.ofChange fnExactItemsOkWrong)

/-- 'laws.FnExactLateness': WHATEVER THE INPUT: true; the input reads as it did. -/
def fnExactLatenessSpec : ChangeSpec := { name := "fnExactLateness", fn := fun _ => fun
  | [d1, d2] => { results := [.lit (.bool true)], args := [d1, d2] }
  | _ => none }
def fnExactLatenessRow : OpenClaim := { program := "ytflagondodkonaa", sum := "c6b584f7f08d30f65c3a72506ab734a4f49799863b3e29c207ecafe916592fc7", func := "loop.example/g00040/laws.FnExactLateness", spec := "fnExactLateness", plainKeys := false, apart := false }
def FnExactLatenessSaid : Prop := fnExactLatenessRow.holds Try.pinned (OpenSpec.ofChange fnExactLatenessSpec)

/-- ITS FALSE NEIGHBOUR: 'it returns false'. Refute it at one input. -/
def fnExactLatenessWrong : ChangeSpec := { name := "fnExactLateness", fn := fun _ => fun
  | [d1, d2] => { results := [.lit (.bool false)], args := [d1, d2] }
  | _ => none }
def FnExactLatenessWrongFalsely : Prop := fnExactLatenessRow.holds Try.pinned (OpenSpec.ofChange fnExactLatenessWrong)

/-- 'laws.FnExactRoll': WHATEVER THE INPUT: true; the input reads as it did. -/
def fnExactRollSpec : ChangeSpec := { name := "fnExactRoll", fn := fun _ => fun
  | [d1, d2] => { results := [.lit (.bool true)], args := [d1, d2] }
  | _ => none }
def fnExactRollRow : OpenClaim := { program := "ytflagondodkonaa", sum := "c6b584f7f08d30f65c3a72506ab734a4f49799863b3e29c207ecafe916592fc7", func := "loop.example/g00040/laws.FnExactRoll", spec := "fnExactRoll", plainKeys := false, apart := false }
def FnExactRollSaid : Prop := fnExactRollRow.holds Try.pinned (OpenSpec.ofChange fnExactRollSpec)

/-- ITS FALSE NEIGHBOUR: 'it returns false'. Refute it at one input. -/
def fnExactRollWrong : ChangeSpec := { name := "fnExactRoll", fn := fun _ => fun
  | [d1, d2] => { results := [.lit (.bool false)], args := [d1, d2] }
  | _ => none }
def FnExactRollWrongFalsely : Prop := fnExactRollRow.holds Try.pinned (OpenSpec.ofChange fnExactRollWrong)

/-- 'laws.FnExactReceive': WHATEVER THE INPUT: true; the input reads as it did. -/
def fnExactReceiveSpec : ChangeSpec := { name := "fnExactReceive", fn := fun _ => fun
  | [d1, d2] => { results := [.lit (.bool true)], args := [d1, d2] }
  | _ => none }
def fnExactReceiveRow : OpenClaim := { program := "ytflagondodkonaa", sum := "c6b584f7f08d30f65c3a72506ab734a4f49799863b3e29c207ecafe916592fc7", func := "loop.example/g00040/laws.FnExactReceive", spec := "fnExactReceive", plainKeys := false, apart := false }
def FnExactReceiveSaid : Prop := fnExactReceiveRow.holds Try.pinned (OpenSpec.ofChange fnExactReceiveSpec)

/-- ITS FALSE NEIGHBOUR: 'it returns false'. Refute it at one input. -/
def fnExactReceiveWrong : ChangeSpec := { name := "fnExactReceive", fn := fun _ => fun
  | [d1, d2] => { results := [.lit (.bool false)], args := [d1, d2] }
  | _ => none }
def FnExactReceiveWrongFalsely : Prop := fnExactReceiveRow.holds Try.pinned (OpenSpec.ofChange fnExactReceiveWrong)

/-- 'laws.FnExactFindPaper': WHATEVER THE INPUT: true; the input reads as it did. -/
def fnExactFindPaperSpec : ChangeSpec := { name := "fnExactFindPaper", fn := fun _ => fun
  | [d1, d2] => { results := [.lit (.bool true)], args := [d1, d2] }
  | _ => none }
def fnExactFindPaperRow : OpenClaim := { program := "ytflagondodkonaa", sum := "c6b584f7f08d30f65c3a72506ab734a4f49799863b3e29c207ecafe916592fc7", func := "loop.example/g00040/laws.FnExactFindPaper", spec := "fnExactFindPaper", recurses := true, plainKeys := false, apart := false }
def FnExactFindPaperSaid : Prop := fnExactFindPaperRow.holds Try.pinned (OpenSpec.ofChange fnExactFindPaperSpec)

/-- ITS FALSE NEIGHBOUR: 'it returns false'. Refute it at one input. -/
def fnExactFindPaperWrong : ChangeSpec := { name := "fnExactFindPaper", fn := fun _ => fun
  | [d1, d2] => { results := [.lit (.bool false)], args := [d1, d2] }
  | _ => none }
def FnExactFindPaperWrongFalsely : Prop := fnExactFindPaperRow.holds Try.pinned (OpenSpec.ofChange fnExactFindPaperWrong)

/-- 'laws.FnExactMove': WHATEVER THE INPUT: true; the input reads as it did. -/
def fnExactMoveSpec : ChangeSpec := { name := "fnExactMove", fn := fun _ => fun
  | [d1, d2, d3, d4] => { results := [.lit (.bool true)], args := [d1, d2, d3, d4] }
  | _ => none }
def fnExactMoveRow : OpenClaim := { program := "ytflagondodkonaa", sum := "c6b584f7f08d30f65c3a72506ab734a4f49799863b3e29c207ecafe916592fc7", func := "loop.example/g00040/laws.FnExactMove", spec := "fnExactMove", plainKeys := false, apart := false }
def FnExactMoveSaid : Prop := fnExactMoveRow.holds Try.pinned (OpenSpec.ofChange fnExactMoveSpec)

/-- ITS FALSE NEIGHBOUR: 'it returns false'. Refute it at one input. -/
def fnExactMoveWrong : ChangeSpec := { name := "fnExactMove", fn := fun _ => fun
  | [d1, d2, d3, d4] => { results := [.lit (.bool false)], args := [d1, d2, d3, d4] }
  | _ => none }
def FnExactMoveWrongFalsely : Prop := fnExactMoveRow.holds Try.pinned (OpenSpec.ofChange fnExactMoveWrong)

/-- 'laws.FnPegged': WHATEVER THE INPUT: true; the input reads as it did. -/
def fnPeggedSpec : ChangeSpec := { name := "fnPegged", fn := fun _ => fun
  | [d] => { results := [.lit (.bool true)], args := [d] }
  | _ => none }
def fnPeggedRow : OpenClaim := { program := "ytflagondodkonaa", sum := "c6b584f7f08d30f65c3a72506ab734a4f49799863b3e29c207ecafe916592fc7", func := "loop.example/g00040/laws.FnPegged", spec := "fnPegged", plainKeys := false, leaving := true, apart := false }
def FnPeggedSaid : Prop := fnPeggedRow.holds Try.pinned (OpenSpec.ofChange fnPeggedSpec)

/-- ITS FALSE NEIGHBOUR: 'it returns false'. Refute it at one input. -/
def fnPeggedWrong : ChangeSpec := { name := "fnPegged", fn := fun _ => fun
  | [d] => { results := [.lit (.bool false)], args := [d] }
  | _ => none }
def FnPeggedWrongFalsely : Prop := fnPeggedRow.holds Try.pinned (OpenSpec.ofChange fnPeggedWrong)

/-- 'laws.FnExactWriteBank': WHATEVER THE INPUT: true; the input reads as it did. -/
def fnExactWriteBankSpec : ChangeSpec := { name := "fnExactWriteBank", fn := fun _ => fun
  | [d1, d2] => { results := [.lit (.bool true)], args := [d1, d2] }
  | _ => none }
def fnExactWriteBankRow : OpenClaim := { program := "ytflagondodkonaa", sum := "c6b584f7f08d30f65c3a72506ab734a4f49799863b3e29c207ecafe916592fc7", func := "loop.example/g00040/laws.FnExactWriteBank", spec := "fnExactWriteBank", recurses := true, plainKeys := false, apart := false }
def FnExactWriteBankSaid : Prop := fnExactWriteBankRow.holds Try.pinned (OpenSpec.ofChange fnExactWriteBankSpec)

/-- ITS FALSE NEIGHBOUR: 'it returns false'. Refute it at one input. -/
def fnExactWriteBankWrong : ChangeSpec := { name := "fnExactWriteBank", fn := fun _ => fun
  | [d1, d2] => { results := [.lit (.bool false)], args := [d1, d2] }
  | _ => none }
def FnExactWriteBankWrongFalsely : Prop := fnExactWriteBankRow.holds Try.pinned (OpenSpec.ofChange fnExactWriteBankWrong)

/-- 'laws.FnNoGap': WHATEVER THE INPUT: true; the input reads as it did. -/
def fnNoGapSpec : ChangeSpec := { name := "fnNoGap", fn := fun _ => fun
  | [d] => { results := [.lit (.bool true)], args := [d] }
  | _ => none }
def fnNoGapRow : OpenClaim := { program := "ytflagondodkonaa", sum := "c6b584f7f08d30f65c3a72506ab734a4f49799863b3e29c207ecafe916592fc7", func := "loop.example/g00040/laws.FnNoGap", spec := "fnNoGap", recurses := true, plainKeys := false, apart := false }
def FnNoGapSaid : Prop := fnNoGapRow.holds Try.pinned (OpenSpec.ofChange fnNoGapSpec)

/-- ITS FALSE NEIGHBOUR: 'it returns false'. Refute it at one input. -/
def fnNoGapWrong : ChangeSpec := { name := "fnNoGap", fn := fun _ => fun
  | [d] => { results := [.lit (.bool false)], args := [d] }
  | _ => none }
def FnNoGapWrongFalsely : Prop := fnNoGapRow.holds Try.pinned (OpenSpec.ofChange fnNoGapWrong)

/-- 'laws.FnRolled': WHATEVER THE INPUT: true; the input reads as it did. -/
def fnRolledSpec : ChangeSpec := { name := "fnRolled", fn := fun _ => fun
  | [d] => { results := [.lit (.bool true)], args := [d] }
  | _ => none }
def fnRolledRow : OpenClaim := { program := "ytflagondodkonaa", sum := "c6b584f7f08d30f65c3a72506ab734a4f49799863b3e29c207ecafe916592fc7", func := "loop.example/g00040/laws.FnRolled", spec := "fnRolled", recurses := true, plainKeys := false, apart := false }
def FnRolledSaid : Prop := fnRolledRow.holds Try.pinned (OpenSpec.ofChange fnRolledSpec)

/-- ITS FALSE NEIGHBOUR: 'it returns false'. Refute it at one input. -/
def fnRolledWrong : ChangeSpec := { name := "fnRolled", fn := fun _ => fun
  | [d] => { results := [.lit (.bool false)], args := [d] }
  | _ => none }
def FnRolledWrongFalsely : Prop := fnRolledRow.holds Try.pinned (OpenSpec.ofChange fnRolledWrong)

/-- 'laws.FnReconciled': WHATEVER THE INPUT: true; the input reads as it did. -/
def fnReconciledSpec : ChangeSpec := { name := "fnReconciled", fn := fun _ => fun
  | [d] => { results := [.lit (.bool true)], args := [d] }
  | _ => none }
def fnReconciledRow : OpenClaim := { program := "ytflagondodkonaa", sum := "c6b584f7f08d30f65c3a72506ab734a4f49799863b3e29c207ecafe916592fc7", func := "loop.example/g00040/laws.FnReconciled", spec := "fnReconciled", unfollowed := true, recurses := true, plainKeys := false, leaving := true, apart := false }
def FnReconciledSaid : Prop := fnReconciledRow.holds Try.pinned (OpenSpec.ofChange fnReconciledSpec)

/-- ITS FALSE NEIGHBOUR: 'it returns false'. Refute it at one input. -/
def fnReconciledWrong : ChangeSpec := { name := "fnReconciled", fn := fun _ => fun
  | [d] => { results := [.lit (.bool false)], args := [d] }
  | _ => none }
def FnReconciledWrongFalsely : Prop := fnReconciledRow.holds Try.pinned (OpenSpec.ofChange fnReconciledWrong)

/- THE SECOND FORM. 'bulk': how many values and letters a reading holds, each counted each time it is reached (what is shared counts as often as it is met; a slice's spare places count too). A statement '..UptoSaid' is the law's where the arguments, and the package variables that the reading takes, are together of bulk at most 1048576: NARROWER than '..Said'. Prove '..Said' where nothing that the law and all that it calls make is longer than what came in: it says more and counts as full. Else prove '..UptoSaid'. A law counts once. -/
mutual
def uptoBulk {H : Type} : DataW H → Nat
  | .lit (.string bytes) => bytes.length + 1
  | .lit _ => 1
  | .nil => 1
  | .ptr d => uptoBulk d + 1
  | .slice elems spare => uptoBulkAll elems + uptoBulkAll spare + 1
  | .agg parts => uptoBulkAll parts + 1
  | .iface _ d => uptoBulk d + 1
  | .map entries => uptoBulkEntries entries + 1
  | .held _ => 1
def uptoBulkAll {H : Type} : List (DataW H) → Nat
  | [] => 0
  | d :: r => uptoBulk d + uptoBulkAll r
def uptoBulkEntries {H : Type} : List (Lit × DataW H) → Nat
  | [] => 0
  | x :: r => uptoBulkEntry x + uptoBulkEntries r
def uptoBulkEntry {H : Type} : Lit × DataW H → Nat
  | (.string bytes, d) => bytes.length + uptoBulk d + 1
  | (_, d) => uptoBulk d + 1
 end
def uptoSmall : (H : Type) → List (DataW H) → Bool := fun _ ds => decide (uptoBulkAll ds ≤ 1048576)
def OpenSpec.upto (s : _root_.Go.ChangeSpec) : _root_.Go.OpenSpec := { _root_.Go.OpenSpec.ofChange s with cond := some uptoSmall }

/-- 'laws.FnExactShowPaper', WHERE WHAT IT READS IS OF BULK AT MOST 1048576: true; the input reads as it did. -/
def fnExactShowPaperUptoRow : OpenClaim := { program := "ytflagondodkonaa", sum := "c6b584f7f08d30f65c3a72506ab734a4f49799863b3e29c207ecafe916592fc7", func := "loop.example/g00040/laws.FnExactShowPaper", spec := "fnExactShowPaper", recurses := true, plainKeys := false, apart := false, narrowed := true }
def FnExactShowPaperUptoSaid : Prop := fnExactShowPaperUptoRow.holds Try.pinned (OpenSpec.upto fnExactShowPaperSpec)

/-- 'laws.FnExactItemsOk', WHERE WHAT IT READS IS OF BULK AT MOST 1048576: true; the input reads as it did. -/
def fnExactItemsOkUptoRow : OpenClaim := { program := "ytflagondodkonaa", sum := "c6b584f7f08d30f65c3a72506ab734a4f49799863b3e29c207ecafe916592fc7", func := "loop.example/g00040/laws.FnExactItemsOk", spec := "fnExactItemsOk", plainKeys := false, apart := false, narrowed := true }
def FnExactItemsOkUptoSaid : Prop := fnExactItemsOkUptoRow.holds Try.pinned (OpenSpec.upto fnExactItemsOkSpec)

/-- 'laws.FnExactLateness', WHERE WHAT IT READS IS OF BULK AT MOST 1048576: true; the input reads as it did. -/
def fnExactLatenessUptoRow : OpenClaim := { program := "ytflagondodkonaa", sum := "c6b584f7f08d30f65c3a72506ab734a4f49799863b3e29c207ecafe916592fc7", func := "loop.example/g00040/laws.FnExactLateness", spec := "fnExactLateness", plainKeys := false, apart := false, narrowed := true }
def FnExactLatenessUptoSaid : Prop := fnExactLatenessUptoRow.holds Try.pinned (OpenSpec.upto fnExactLatenessSpec)

/-- 'laws.FnExactRoll', WHERE WHAT IT READS IS OF BULK AT MOST 1048576: true; the input reads as it did. -/
def fnExactRollUptoRow : OpenClaim := { program := "ytflagondodkonaa", sum := "c6b584f7f08d30f65c3a72506ab734a4f49799863b3e29c207ecafe916592fc7", func := "loop.example/g00040/laws.FnExactRoll", spec := "fnExactRoll", plainKeys := false, apart := false, narrowed := true }
def FnExactRollUptoSaid : Prop := fnExactRollUptoRow.holds Try.pinned (OpenSpec.upto fnExactRollSpec)

/-- 'laws.FnExactReceive', WHERE WHAT IT READS IS OF BULK AT MOST 1048576: true; the input reads as it did. -/
def fnExactReceiveUptoRow : OpenClaim := { program := "ytflagondodkonaa", sum := "c6b584f7f08d30f65c3a72506ab734a4f49799863b3e29c207ecafe916592fc7", func := "loop.example/g00040/laws.FnExactReceive", spec := "fnExactReceive", plainKeys := false, apart := false, narrowed := true }
def FnExactReceiveUptoSaid : Prop := fnExactReceiveUptoRow.holds Try.pinned (OpenSpec.upto fnExactReceiveSpec)

/-- 'laws.FnExactFindPaper', WHERE WHAT IT READS IS OF BULK AT MOST 1048576: true; the input reads as it did. -/
def fnExactFindPaperUptoRow : OpenClaim := { program := "ytflagondodkonaa", sum := "c6b584f7f08d30f65c3a72506ab734a4f49799863b3e29c207ecafe916592fc7", func := "loop.example/g00040/laws.FnExactFindPaper", spec := "fnExactFindPaper", recurses := true, plainKeys := false, apart := false, narrowed := true }
def FnExactFindPaperUptoSaid : Prop := fnExactFindPaperUptoRow.holds Try.pinned (OpenSpec.upto fnExactFindPaperSpec)

/-- 'laws.FnExactMove', WHERE WHAT IT READS IS OF BULK AT MOST 1048576: true; the input reads as it did. -/
def fnExactMoveUptoRow : OpenClaim := { program := "ytflagondodkonaa", sum := "c6b584f7f08d30f65c3a72506ab734a4f49799863b3e29c207ecafe916592fc7", func := "loop.example/g00040/laws.FnExactMove", spec := "fnExactMove", plainKeys := false, apart := false, narrowed := true }
def FnExactMoveUptoSaid : Prop := fnExactMoveUptoRow.holds Try.pinned (OpenSpec.upto fnExactMoveSpec)

/-- 'laws.FnPegged', WHERE WHAT IT READS IS OF BULK AT MOST 1048576: true; the input reads as it did. -/
def fnPeggedUptoRow : OpenClaim := { program := "ytflagondodkonaa", sum := "c6b584f7f08d30f65c3a72506ab734a4f49799863b3e29c207ecafe916592fc7", func := "loop.example/g00040/laws.FnPegged", spec := "fnPegged", plainKeys := false, leaving := true, apart := false, narrowed := true }
def FnPeggedUptoSaid : Prop := fnPeggedUptoRow.holds Try.pinned (OpenSpec.upto fnPeggedSpec)

/-- 'laws.FnExactWriteBank', WHERE WHAT IT READS IS OF BULK AT MOST 1048576: true; the input reads as it did. -/
def fnExactWriteBankUptoRow : OpenClaim := { program := "ytflagondodkonaa", sum := "c6b584f7f08d30f65c3a72506ab734a4f49799863b3e29c207ecafe916592fc7", func := "loop.example/g00040/laws.FnExactWriteBank", spec := "fnExactWriteBank", recurses := true, plainKeys := false, apart := false, narrowed := true }
def FnExactWriteBankUptoSaid : Prop := fnExactWriteBankUptoRow.holds Try.pinned (OpenSpec.upto fnExactWriteBankSpec)

/-- 'laws.FnNoGap', WHERE WHAT IT READS IS OF BULK AT MOST 1048576: true; the input reads as it did. -/
def fnNoGapUptoRow : OpenClaim := { program := "ytflagondodkonaa", sum := "c6b584f7f08d30f65c3a72506ab734a4f49799863b3e29c207ecafe916592fc7", func := "loop.example/g00040/laws.FnNoGap", spec := "fnNoGap", recurses := true, plainKeys := false, apart := false, narrowed := true }
def FnNoGapUptoSaid : Prop := fnNoGapUptoRow.holds Try.pinned (OpenSpec.upto fnNoGapSpec)

/-- 'laws.FnRolled', WHERE WHAT IT READS IS OF BULK AT MOST 1048576: true; the input reads as it did. -/
def fnRolledUptoRow : OpenClaim := { program := "ytflagondodkonaa", sum := "c6b584f7f08d30f65c3a72506ab734a4f49799863b3e29c207ecafe916592fc7", func := "loop.example/g00040/laws.FnRolled", spec := "fnRolled", recurses := true, plainKeys := false, apart := false, narrowed := true }
def FnRolledUptoSaid : Prop := fnRolledUptoRow.holds Try.pinned (OpenSpec.upto fnRolledSpec)

/-- 'laws.FnReconciled', WHERE WHAT IT READS IS OF BULK AT MOST 1048576: true; the input reads as it did. -/
def fnReconciledUptoRow : OpenClaim := { program := "ytflagondodkonaa", sum := "c6b584f7f08d30f65c3a72506ab734a4f49799863b3e29c207ecafe916592fc7", func := "loop.example/g00040/laws.FnReconciled", spec := "fnReconciled", unfollowed := true, recurses := true, plainKeys := false, leaving := true, apart := false, narrowed := true }
def FnReconciledUptoSaid : Prop := fnReconciledUptoRow.holds Try.pinned (OpenSpec.upto fnReconciledSpec)

end Rows
end Go.Proofs.Ytflagondodkonaa
