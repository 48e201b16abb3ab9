/-
  No cell of these rows narrows 'for every input' (looked for: loops, veiled, ifaces, maps, wideKeys, modest, calm, conditions, laid).
  DERIVED. THE GIVEN ROWS OF THIS SEAT. 10 by the template 'for every input the law returns true; each argument reads behind the call as it read before'; 0 by the template 'total and deterministic' (their statements: YtiamlcnmjicpaaaTotals.lean).
  GIVEN WITH THE SEED: the statements are not yours to turn. If you find one false, say at which input.
  Laid BY PROGRAM, IN A SANDBOX (cutbox-rows.mjs): the forced cells as the released guide's own fill.sh prints them over the translation bb986caaeb206aba… (all of the seat's roots in one cut). By AI agents, Wed Nov 11 2026. No macro, syntax, notation, axiom, sorry.
-/
import Derived.Test.YtiamlcnmjicpaaaChecked
import GoSem.Claim
import GoSem.ClaimJoined
import GoSem.ClaimMapViews
import Derived.JoinedTies
import Derived.KernelRfl
namespace Go.Proofs.Ytiamlcnmjicpaaa
/- THE CELL 'sum', in the pinned program and in every row, IS THE sha256 OF THE DUMP (.gsa) THAT YtiamlcnmjicpaaaProg.lean LOADS. Nothing in Lean hashes anything: it is a label: what it is worth is what the hold of that sum in a sandbox is worth. -/
noncomputable def Try.pinned : Pinned := { name := "ytiamlcnmjicpaaa", sum := "bb986caaeb206abadb5a7df391e0101522f862feadc546f104da62fc373ff808", checked := Try.checked }
namespace Rows
def none {H : Type} : Left H := { results := [], args := [] }

/-- 'laws.FnExactPeopleOk': WHATEVER THE INPUT: true; the input reads as it did. -/
def fnExactPeopleOkSpec : ChangeSpec := { name := "fnExactPeopleOk", fn := fun _ => fun
  | [d] => { results := [.lit (.bool true)], args := [d] }
  | _ => none }
def fnExactPeopleOkRow : OpenClaim := { program := "ytiamlcnmjicpaaa", sum := "bb986caaeb206abadb5a7df391e0101522f862feadc546f104da62fc373ff808", func := "loop.example/g00040/laws.FnExactPeopleOk", spec := "fnExactPeopleOk", apart := false }
def FnExactPeopleOkSaid : Prop := fnExactPeopleOkRow.holds Try.pinned (OpenSpec.ofChange fnExactPeopleOkSpec)

/-- ITS FALSE NEIGHBOUR: 'it returns false'. Refute it at one input. -/
def fnExactPeopleOkWrong : ChangeSpec := { name := "fnExactPeopleOk", fn := fun _ => fun
  | [d] => { results := [.lit (.bool false)], args := [d] }
  | _ => none }
def FnExactPeopleOkWrongFalsely : Prop := fnExactPeopleOkRow.holds Try.pinned (OpenSpec.ofChange fnExactPeopleOkWrong)

/-- 'laws.FnSettled': WHATEVER THE INPUT: true; the input reads as it did. -/
def fnSettledSpec : ChangeSpec := { name := "fnSettled", fn := fun _ => fun
  | [d] => { results := [.lit (.bool true)], args := [d] }
  | _ => none }
def fnSettledRow : OpenClaim := { program := "ytiamlcnmjicpaaa", sum := "bb986caaeb206abadb5a7df391e0101522f862feadc546f104da62fc373ff808", func := "loop.example/g00040/laws.FnSettled", spec := "fnSettled", unfollowed := true, recurses := true, apart := false }
def FnSettledSaid : Prop := fnSettledRow.holds Try.pinned (OpenSpec.ofChange fnSettledSpec)

/-- ITS FALSE NEIGHBOUR: 'it returns false'. Refute it at one input. -/
def fnSettledWrong : ChangeSpec := { name := "fnSettled", fn := fun _ => fun
  | [d] => { results := [.lit (.bool false)], args := [d] }
  | _ => none }
def FnSettledWrongFalsely : Prop := fnSettledRow.holds Try.pinned (OpenSpec.ofChange fnSettledWrong)

/-- 'laws.FnExactBalance': WHATEVER THE INPUT: true; the input reads as it did. -/
def fnExactBalanceSpec : ChangeSpec := { name := "fnExactBalance", fn := fun _ => fun
  | [d1, d2, d3, d4, d5, d6] => { results := [.lit (.bool true)], args := [d1, d2, d3, d4, d5, d6] }
  | _ => none }
def fnExactBalanceRow : OpenClaim := { program := "ytiamlcnmjicpaaa", sum := "bb986caaeb206abadb5a7df391e0101522f862feadc546f104da62fc373ff808", func := "loop.example/g00040/laws.FnExactBalance", spec := "fnExactBalance", apart := false }
def FnExactBalanceSaid : Prop := fnExactBalanceRow.holds Try.pinned (OpenSpec.ofChange fnExactBalanceSpec)

/-- ITS FALSE NEIGHBOUR: 'it returns false'. Refute it at one input. -/
def fnExactBalanceWrong : ChangeSpec := { name := "fnExactBalance", fn := fun _ => fun
  | [d1, d2, d3, d4, d5, d6] => { results := [.lit (.bool false)], args := [d1, d2, d3, d4, d5, d6] }
  | _ => none }
def FnExactBalanceWrongFalsely : Prop := fnExactBalanceRow.holds Try.pinned (OpenSpec.ofChange fnExactBalanceWrong)

/-- 'laws.FnExactHeadOf': WHATEVER THE INPUT: true; the input reads as it did. -/
def fnExactHeadOfSpec : ChangeSpec := { name := "fnExactHeadOf", fn := fun _ => fun
  | [d] => { results := [.lit (.bool true)], args := [d] }
  | _ => none }
def fnExactHeadOfRow : OpenClaim := { program := "ytiamlcnmjicpaaa", sum := "bb986caaeb206abadb5a7df391e0101522f862feadc546f104da62fc373ff808", func := "loop.example/g00040/laws.FnExactHeadOf", spec := "fnExactHeadOf", unfollowed := true, recurses := true, apart := false }
def FnExactHeadOfSaid : Prop := fnExactHeadOfRow.holds Try.pinned (OpenSpec.ofChange fnExactHeadOfSpec)

/-- ITS FALSE NEIGHBOUR: 'it returns false'. Refute it at one input. -/
def fnExactHeadOfWrong : ChangeSpec := { name := "fnExactHeadOf", fn := fun _ => fun
  | [d] => { results := [.lit (.bool false)], args := [d] }
  | _ => none }
def FnExactHeadOfWrongFalsely : Prop := fnExactHeadOfRow.holds Try.pinned (OpenSpec.ofChange fnExactHeadOfWrong)

/-- 'laws.FnExactPropose': WHATEVER THE INPUT: true; the input reads as it did. -/
def fnExactProposeSpec : ChangeSpec := { name := "fnExactPropose", fn := fun _ => fun
  | [d1, d2, d3, d4] => { results := [.lit (.bool true)], args := [d1, d2, d3, d4] }
  | _ => none }
def fnExactProposeRow : OpenClaim := { program := "ytiamlcnmjicpaaa", sum := "bb986caaeb206abadb5a7df391e0101522f862feadc546f104da62fc373ff808", func := "loop.example/g00040/laws.FnExactPropose", spec := "fnExactPropose", unfollowed := true, recurses := true, apart := false }
def FnExactProposeSaid : Prop := fnExactProposeRow.holds Try.pinned (OpenSpec.ofChange fnExactProposeSpec)

/-- ITS FALSE NEIGHBOUR: 'it returns false'. Refute it at one input. -/
def fnExactProposeWrong : ChangeSpec := { name := "fnExactPropose", fn := fun _ => fun
  | [d1, d2, d3, d4] => { results := [.lit (.bool false)], args := [d1, d2, d3, d4] }
  | _ => none }
def FnExactProposeWrongFalsely : Prop := fnExactProposeRow.holds Try.pinned (OpenSpec.ofChange fnExactProposeWrong)

/-- 'laws.FnLotsCover': WHATEVER THE INPUT: true; the input reads as it did. -/
def fnLotsCoverSpec : ChangeSpec := { name := "fnLotsCover", fn := fun _ => fun
  | [d] => { results := [.lit (.bool true)], args := [d] }
  | _ => none }
def fnLotsCoverRow : OpenClaim := { program := "ytiamlcnmjicpaaa", sum := "bb986caaeb206abadb5a7df391e0101522f862feadc546f104da62fc373ff808", func := "loop.example/g00040/laws.FnLotsCover", spec := "fnLotsCover", unfollowed := true, recurses := true, apart := false }
def FnLotsCoverSaid : Prop := fnLotsCoverRow.holds Try.pinned (OpenSpec.ofChange fnLotsCoverSpec)

/-- ITS FALSE NEIGHBOUR: 'it returns false'. Refute it at one input. -/
def fnLotsCoverWrong : ChangeSpec := { name := "fnLotsCover", fn := fun _ => fun
  | [d] => { results := [.lit (.bool false)], args := [d] }
  | _ => none }
def FnLotsCoverWrongFalsely : Prop := fnLotsCoverRow.holds Try.pinned (OpenSpec.ofChange fnLotsCoverWrong)

/-- 'laws.FnWorkBack': WHATEVER THE INPUT: true; the input reads as it did. -/
def fnWorkBackSpec : ChangeSpec := { name := "fnWorkBack", fn := fun _ => fun
  | [d] => { results := [.lit (.bool true)], args := [d] }
  | _ => none }
def fnWorkBackRow : OpenClaim := { program := "ytiamlcnmjicpaaa", sum := "bb986caaeb206abadb5a7df391e0101522f862feadc546f104da62fc373ff808", func := "loop.example/g00040/laws.FnWorkBack", spec := "fnWorkBack", unfollowed := true, recurses := true, apart := false }
def FnWorkBackSaid : Prop := fnWorkBackRow.holds Try.pinned (OpenSpec.ofChange fnWorkBackSpec)

/-- ITS FALSE NEIGHBOUR: 'it returns false'. Refute it at one input. -/
def fnWorkBackWrong : ChangeSpec := { name := "fnWorkBack", fn := fun _ => fun
  | [d] => { results := [.lit (.bool false)], args := [d] }
  | _ => none }
def FnWorkBackWrongFalsely : Prop := fnWorkBackRow.holds Try.pinned (OpenSpec.ofChange fnWorkBackWrong)

/-- 'laws.FnShared': WHATEVER THE INPUT: true; the input reads as it did. -/
def fnSharedSpec : ChangeSpec := { name := "fnShared", fn := fun _ => fun
  | [d] => { results := [.lit (.bool true)], args := [d] }
  | _ => none }
def fnSharedRow : OpenClaim := { program := "ytiamlcnmjicpaaa", sum := "bb986caaeb206abadb5a7df391e0101522f862feadc546f104da62fc373ff808", func := "loop.example/g00040/laws.FnShared", spec := "fnShared", unfollowed := true, recurses := true, apart := false }
def FnSharedSaid : Prop := fnSharedRow.holds Try.pinned (OpenSpec.ofChange fnSharedSpec)

/-- ITS FALSE NEIGHBOUR: 'it returns false'. Refute it at one input. -/
def fnSharedWrong : ChangeSpec := { name := "fnShared", fn := fun _ => fun
  | [d] => { results := [.lit (.bool false)], args := [d] }
  | _ => none }
def FnSharedWrongFalsely : Prop := fnSharedRow.holds Try.pinned (OpenSpec.ofChange fnSharedWrong)

/-- 'laws.FnExactSettle': WHATEVER THE INPUT: true; the input reads as it did. -/
def fnExactSettleSpec : ChangeSpec := { name := "fnExactSettle", fn := fun _ => fun
  | [d1, d2] => { results := [.lit (.bool true)], args := [d1, d2] }
  | _ => none }
def fnExactSettleRow : OpenClaim := { program := "ytiamlcnmjicpaaa", sum := "bb986caaeb206abadb5a7df391e0101522f862feadc546f104da62fc373ff808", func := "loop.example/g00040/laws.FnExactSettle", spec := "fnExactSettle", unfollowed := true, recurses := true, apart := false }
def FnExactSettleSaid : Prop := fnExactSettleRow.holds Try.pinned (OpenSpec.ofChange fnExactSettleSpec)

/-- ITS FALSE NEIGHBOUR: 'it returns false'. Refute it at one input. -/
def fnExactSettleWrong : ChangeSpec := { name := "fnExactSettle", fn := fun _ => fun
  | [d1, d2] => { results := [.lit (.bool false)], args := [d1, d2] }
  | _ => none }
def FnExactSettleWrongFalsely : Prop := fnExactSettleRow.holds Try.pinned (OpenSpec.ofChange fnExactSettleWrong)

/-- 'laws.FnExactQtyIn': WHATEVER THE INPUT: true; the input reads as it did. -/
def fnExactQtyInSpec : ChangeSpec := { name := "fnExactQtyIn", fn := fun _ => fun
  | [d1, d2, d3, d4] => { results := [.lit (.bool true)], args := [d1, d2, d3, d4] }
  | _ => none }
def fnExactQtyInRow : OpenClaim := { program := "ytiamlcnmjicpaaa", sum := "bb986caaeb206abadb5a7df391e0101522f862feadc546f104da62fc373ff808", func := "loop.example/g00040/laws.FnExactQtyIn", spec := "fnExactQtyIn", apart := false }
def FnExactQtyInSaid : Prop := fnExactQtyInRow.holds Try.pinned (OpenSpec.ofChange fnExactQtyInSpec)

/-- ITS FALSE NEIGHBOUR: 'it returns false'. Refute it at one input. -/
def fnExactQtyInWrong : ChangeSpec := { name := "fnExactQtyIn", fn := fun _ => fun
  | [d1, d2, d3, d4] => { results := [.lit (.bool false)], args := [d1, d2, d3, d4] }
  | _ => none }
def FnExactQtyInWrongFalsely : Prop := fnExactQtyInRow.holds Try.pinned (OpenSpec.ofChange fnExactQtyInWrong)

/- THE SECOND FORM. 'bulk': how many values and letters a reading holds, each counted each time it is reached (what is shared counts as often as it is met; a slice's spare places count too). A statement '..UptoSaid' is the law's where the arguments, and the package variables that the reading takes, are together of bulk at most 1048576: NARROWER than '..Said'. Prove '..Said' where nothing that the law and all that it calls make is longer than what came in: it says more and counts as full. Else prove '..UptoSaid'. A law counts once. -/
mutual
def uptoBulk {H : Type} : DataW H → Nat
  | .lit (.string bytes) => bytes.length + 1
  | .lit _ => 1
  | .nil => 1
  | .ptr d => uptoBulk d + 1
  | .slice elems spare => uptoBulkAll elems + uptoBulkAll spare + 1
  | .agg parts => uptoBulkAll parts + 1
  | .iface _ d => uptoBulk d + 1
  | .map entries => uptoBulkEntries entries + 1
  | .held _ => 1
def uptoBulkAll {H : Type} : List (DataW H) → Nat
  | [] => 0
  | d :: r => uptoBulk d + uptoBulkAll r
def uptoBulkEntries {H : Type} : List (Lit × DataW H) → Nat
  | [] => 0
  | x :: r => uptoBulkEntry x + uptoBulkEntries r
def uptoBulkEntry {H : Type} : Lit × DataW H → Nat
  | (.string bytes, d) => bytes.length + uptoBulk d + 1
  | (_, d) => uptoBulk d + 1
 end
def uptoSmall : (H : Type) → List (DataW H) → Bool := fun _ ds => decide (uptoBulkAll ds ≤ 1048576)
def OpenSpec.upto (s : _root_.Go.ChangeSpec) : _root_.Go.OpenSpec := { _root_.Go.OpenSpec.ofChange s with cond := some uptoSmall }

/-- 'laws.FnExactPeopleOk', WHERE WHAT IT READS IS OF BULK AT MOST 1048576: true; the input reads as it did. -/
def fnExactPeopleOkUptoRow : OpenClaim := { program := "ytiamlcnmjicpaaa", sum := "bb986caaeb206abadb5a7df391e0101522f862feadc546f104da62fc373ff808", func := "loop.example/g00040/laws.FnExactPeopleOk", spec := "fnExactPeopleOk", apart := false, narrowed := true }
def FnExactPeopleOkUptoSaid : Prop := fnExactPeopleOkUptoRow.holds Try.pinned (OpenSpec.upto fnExactPeopleOkSpec)

/-- 'laws.FnSettled', WHERE WHAT IT READS IS OF BULK AT MOST 1048576: true; the input reads as it did. -/
def fnSettledUptoRow : OpenClaim := { program := "ytiamlcnmjicpaaa", sum := "bb986caaeb206abadb5a7df391e0101522f862feadc546f104da62fc373ff808", func := "loop.example/g00040/laws.FnSettled", spec := "fnSettled", unfollowed := true, recurses := true, apart := false, narrowed := true }
def FnSettledUptoSaid : Prop := fnSettledUptoRow.holds Try.pinned (OpenSpec.upto fnSettledSpec)

/-- 'laws.FnExactBalance', WHERE WHAT IT READS IS OF BULK AT MOST 1048576: true; the input reads as it did. -/
def fnExactBalanceUptoRow : OpenClaim := { program := "ytiamlcnmjicpaaa", sum := "bb986caaeb206abadb5a7df391e0101522f862feadc546f104da62fc373ff808", func := "loop.example/g00040/laws.FnExactBalance", spec := "fnExactBalance", apart := false, narrowed := true }
def FnExactBalanceUptoSaid : Prop := fnExactBalanceUptoRow.holds Try.pinned (OpenSpec.upto fnExactBalanceSpec)

/-- 'laws.FnExactHeadOf', WHERE WHAT IT READS IS OF BULK AT MOST 1048576: true; the input reads as it did. -/
def fnExactHeadOfUptoRow : OpenClaim := { program := "ytiamlcnmjicpaaa", sum := "bb986caaeb206abadb5a7df391e0101522f862feadc546f104da62fc373ff808", func := "loop.example/g00040/laws.FnExactHeadOf", spec := "fnExactHeadOf", unfollowed := true, recurses := true, apart := false, narrowed := true }
def FnExactHeadOfUptoSaid : Prop := fnExactHeadOfUptoRow.holds Try.pinned (OpenSpec.upto fnExactHeadOfSpec)

/-- 'laws.FnExactPropose', WHERE WHAT IT READS IS OF BULK AT MOST 1048576: true; the input reads as it did. -/
def fnExactProposeUptoRow : OpenClaim := { program := "ytiamlcnmjicpaaa", sum := "bb986caaeb206abadb5a7df391e0101522f862feadc546f104da62fc373ff808", func := "loop.example/g00040/laws.FnExactPropose", spec := "fnExactPropose", unfollowed := true, recurses := true, apart := false, narrowed := true }
def FnExactProposeUptoSaid : Prop := fnExactProposeUptoRow.holds Try.pinned (OpenSpec.upto fnExactProposeSpec)

/-- 'laws.FnLotsCover', WHERE WHAT IT READS IS OF BULK AT MOST 1048576: true; the input reads as it did. -/
def fnLotsCoverUptoRow : OpenClaim := { program := "ytiamlcnmjicpaaa", sum := "bb986caaeb206abadb5a7df391e0101522f862feadc546f104da62fc373ff808", func := "loop.example/g00040/laws.FnLotsCover", spec := "fnLotsCover", unfollowed := true, recurses := true, apart := false, narrowed := true }
def FnLotsCoverUptoSaid : Prop := fnLotsCoverUptoRow.holds Try.pinned (OpenSpec.upto fnLotsCoverSpec)

/-- 'laws.FnWorkBack', WHERE WHAT IT READS IS OF BULK AT MOST 1048576: true; the input reads as it did. -/
def fnWorkBackUptoRow : OpenClaim := { program := "ytiamlcnmjicpaaa", sum := "bb986caaeb206abadb5a7df391e0101522f862feadc546f104da62fc373ff808", func := "loop.example/g00040/laws.FnWorkBack", spec := "fnWorkBack", unfollowed := true, recurses := true, apart := false, narrowed := true }
def FnWorkBackUptoSaid : Prop := fnWorkBackUptoRow.holds Try.pinned (OpenSpec.upto fnWorkBackSpec)

/-- 'laws.FnShared', WHERE WHAT IT READS IS OF BULK AT MOST 1048576: true; the input reads as it did. -/
def fnSharedUptoRow : OpenClaim := { program := "ytiamlcnmjicpaaa", sum := "bb986caaeb206abadb5a7df391e0101522f862feadc546f104da62fc373ff808", func := "loop.example/g00040/laws.FnShared", spec := "fnShared", unfollowed := true, recurses := true, apart := false, narrowed := true }
def FnSharedUptoSaid : Prop := fnSharedUptoRow.holds Try.pinned (OpenSpec.upto fnSharedSpec)

/-- 'laws.FnExactSettle', WHERE WHAT IT READS IS OF BULK AT MOST 1048576: true; the input reads as it did. -/
def fnExactSettleUptoRow : OpenClaim := { program := "ytiamlcnmjicpaaa", sum := "bb986caaeb206abadb5a7df391e0101522f862feadc546f104da62fc373ff808", func := "loop.example/g00040/laws.FnExactSettle", spec := "fnExactSettle", unfollowed := true, recurses := true, apart := false, narrowed := true }
def FnExactSettleUptoSaid : Prop := fnExactSettleUptoRow.holds Try.pinned (OpenSpec.upto fnExactSettleSpec)

/-- 'laws.FnExactQtyIn', WHERE WHAT IT READS IS OF BULK AT MOST 1048576: true; the input reads as it did. -/
def fnExactQtyInUptoRow : OpenClaim := { program := "ytiamlcnmjicpaaa", sum := "bb986caaeb206abadb5a7df391e0101522f862feadc546f104da62fc373ff808", func := "loop.example/g00040/laws.FnExactQtyIn", spec := "fnExactQtyIn", apart := false, narrowed := true }
def FnExactQtyInUptoSaid : Prop := fnExactQtyInUptoRow.holds Try.pinned (OpenSpec.upto fnExactQtyInSpec)

end Rows
end Go.Proofs.Ytiamlcnmjicpaaa
