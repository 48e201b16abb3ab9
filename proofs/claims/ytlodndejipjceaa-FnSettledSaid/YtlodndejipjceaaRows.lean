/-
  No cell of these rows narrows 'for every input' (looked for: loops, veiled, ifaces, maps, wideKeys, modest, calm, conditions, laid).
  DERIVED. THE GIVEN ROWS OF THIS SEAT. 12 by the template 'for every input the law returns true; each argument reads behind the call as it read before'; 0 by the template 'total and deterministic' (their statements: YtlodndejipjceaaTotals.lean).
  GIVEN WITH THE SEED: the statements are not yours to turn. If you find one false, say at which input.
  Laid BY PROGRAM, IN A SANDBOX (cutbox-rows.mjs): the forced cells as the released guide's own fill.sh prints them over the translation cc2865e9264500fb… (all of the seat's roots in one cut). By AI agents, Wed Nov 11 2026. No macro, syntax, notation, axiom, sorry.
-/
import Derived.Test.YtlodndejipjceaaChecked
import GoSem.Claim
import GoSem.ClaimJoined
import GoSem.ClaimMapViews
import Derived.JoinedTies
import Derived.KernelRfl
namespace Go.Proofs.Ytlodndejipjceaa
/- THE CELL 'sum', in the pinned program and in every row, IS THE sha256 OF THE DUMP (.gsa) THAT YtlodndejipjceaaProg.lean LOADS. Nothing in Lean hashes anything: it is a label: what it is worth is what the hold of that sum in a sandbox is worth. -/
noncomputable def Try.pinned : Pinned := { name := "ytlodndejipjceaa", sum := "cc2865e9264500fb2290298f2ef98c4eb71c69754faeefc60e2d3a18bee0627f", checked := Try.checked }
namespace Rows
def none {H : Type} : Left H := { results := [], args := [] }

/-- 'laws.FnSettled': WHATEVER THE INPUT: true; the input reads as it did. -/
def fnSettledSpec : ChangeSpec := { name := "fnSettled", fn := fun _ => fun
  | [d] => { results := [.lit (.bool true)], args := [d] }
  | _ => none }
def fnSettledRow : OpenClaim := { program := "ytlodndejipjceaa", sum := "cc2865e9264500fb2290298f2ef98c4eb71c69754faeefc60e2d3a18bee0627f", func := "loop.example/g00040/laws.FnSettled", spec := "fnSettled", unfollowed := true, recurses := true, plainKeys := false, apart := false }
def FnSettledSaid : Prop := fnSettledRow.holds Try.pinned (OpenSpec.ofChange fnSettledSpec)

/-- ITS FALSE NEIGHBOUR: 'it returns false'. Refute it at one input. -/
def fnSettledWrong : ChangeSpec := { name := "fnSettled", fn := fun _ => fun
  | [d] => { results := [.lit (.bool false)], args := [d] }
  | _ => none }
def FnSettledWrongFalsely : Prop := fnSettledRow.holds Try.pinned (OpenSpec.ofChange fnSettledWrong)

/-- 'laws.FnExactPropose': WHATEVER THE INPUT: true; the input reads as it did. -/
def fnExactProposeSpec : ChangeSpec := { name := "fnExactPropose", fn := fun _ => fun
  | [d1, d2, d3, d4] => { results := [.lit (.bool true)], args := [d1, d2, d3, d4] }
  | _ => none }
def fnExactProposeRow : OpenClaim := { program := "ytlodndejipjceaa", sum := "cc2865e9264500fb2290298f2ef98c4eb71c69754faeefc60e2d3a18bee0627f", func := "loop.example/g00040/laws.FnExactPropose", spec := "fnExactPropose", unfollowed := true, recurses := true, plainKeys := false, apart := false }
def FnExactProposeSaid : Prop := fnExactProposeRow.holds Try.pinned (OpenSpec.ofChange fnExactProposeSpec)

/-- ITS FALSE NEIGHBOUR: 'it returns false'. Refute it at one input. -/
def fnExactProposeWrong : ChangeSpec := { name := "fnExactPropose", fn := fun _ => fun
  | [d1, d2, d3, d4] => { results := [.lit (.bool false)], args := [d1, d2, d3, d4] }
  | _ => none }
def FnExactProposeWrongFalsely : Prop := fnExactProposeRow.holds Try.pinned (OpenSpec.ofChange fnExactProposeWrong)

/-- 'laws.FnShared': WHATEVER THE INPUT: true; the input reads as it did. -/
def fnSharedSpec : ChangeSpec := { name := "fnShared", fn := fun _ => fun
  | [d] => { results := [.lit (.bool true)], args := [d] }
  | _ => none }
def fnSharedRow : OpenClaim := { program := "ytlodndejipjceaa", sum := "cc2865e9264500fb2290298f2ef98c4eb71c69754faeefc60e2d3a18bee0627f", func := "loop.example/g00040/laws.FnShared", spec := "fnShared", unfollowed := true, recurses := true, plainKeys := false, apart := false }
def FnSharedSaid : Prop := fnSharedRow.holds Try.pinned (OpenSpec.ofChange fnSharedSpec)

/-- ITS FALSE NEIGHBOUR: 'it returns false'. Refute it at one input. -/
def fnSharedWrong : ChangeSpec := { name := "fnShared", fn := fun _ => fun
  | [d] => { results := [.lit (.bool false)], args := [d] }
  | _ => none }
def FnSharedWrongFalsely : Prop := fnSharedRow.holds Try.pinned (OpenSpec.ofChange fnSharedWrong)

/-- 'laws.FnExactSettle': WHATEVER THE INPUT: true; the input reads as it did. -/
def fnExactSettleSpec : ChangeSpec := { name := "fnExactSettle", fn := fun _ => fun
  | [d1, d2] => { results := [.lit (.bool true)], args := [d1, d2] }
  | _ => none }
def fnExactSettleRow : OpenClaim := { program := "ytlodndejipjceaa", sum := "cc2865e9264500fb2290298f2ef98c4eb71c69754faeefc60e2d3a18bee0627f", func := "loop.example/g00040/laws.FnExactSettle", spec := "fnExactSettle", unfollowed := true, recurses := true, plainKeys := false, apart := false }
def FnExactSettleSaid : Prop := fnExactSettleRow.holds Try.pinned (OpenSpec.ofChange fnExactSettleSpec)

/-- ITS FALSE NEIGHBOUR: 'it returns false'. Refute it at one input. -/
def fnExactSettleWrong : ChangeSpec := { name := "fnExactSettle", fn := fun _ => fun
  | [d1, d2] => { results := [.lit (.bool false)], args := [d1, d2] }
  | _ => none }
def FnExactSettleWrongFalsely : Prop := fnExactSettleRow.holds Try.pinned (OpenSpec.ofChange fnExactSettleWrong)

/-- 'laws.FnLanded': WHATEVER THE INPUT: true; the input reads as it did. -/
def fnLandedSpec : ChangeSpec := { name := "fnLanded", fn := fun _ => fun
  | [d] => { results := [.lit (.bool true)], args := [d] }
  | _ => none }
def fnLandedRow : OpenClaim := { program := "ytlodndejipjceaa", sum := "cc2865e9264500fb2290298f2ef98c4eb71c69754faeefc60e2d3a18bee0627f", func := "loop.example/g00040/laws.FnLanded", spec := "fnLanded", unfollowed := true, recurses := true, plainKeys := false, apart := false }
def FnLandedSaid : Prop := fnLandedRow.holds Try.pinned (OpenSpec.ofChange fnLandedSpec)

/-- ITS FALSE NEIGHBOUR: 'it returns false'. Refute it at one input. -/
def fnLandedWrong : ChangeSpec := { name := "fnLanded", fn := fun _ => fun
  | [d] => { results := [.lit (.bool false)], args := [d] }
  | _ => none }
def FnLandedWrongFalsely : Prop := fnLandedRow.holds Try.pinned (OpenSpec.ofChange fnLandedWrong)

/-- 'laws.FnExactLanded': WHATEVER THE INPUT: true; the input reads as it did. -/
def fnExactLandedSpec : ChangeSpec := { name := "fnExactLanded", fn := fun _ => fun
  | [d1, d2, d3] => { results := [.lit (.bool true)], args := [d1, d2, d3] }
  | _ => none }
def fnExactLandedRow : OpenClaim := { program := "ytlodndejipjceaa", sum := "cc2865e9264500fb2290298f2ef98c4eb71c69754faeefc60e2d3a18bee0627f", func := "loop.example/g00040/laws.FnExactLanded", spec := "fnExactLanded", unfollowed := true, recurses := true, plainKeys := false, apart := false }
def FnExactLandedSaid : Prop := fnExactLandedRow.holds Try.pinned (OpenSpec.ofChange fnExactLandedSpec)

/-- ITS FALSE NEIGHBOUR: 'it returns false'. Refute it at one input. -/
def fnExactLandedWrong : ChangeSpec := { name := "fnExactLanded", fn := fun _ => fun
  | [d1, d2, d3] => { results := [.lit (.bool false)], args := [d1, d2, d3] }
  | _ => none }
def FnExactLandedWrongFalsely : Prop := fnExactLandedRow.holds Try.pinned (OpenSpec.ofChange fnExactLandedWrong)

/-- 'laws.FnExactPicks': WHATEVER THE INPUT: true; the input reads as it did. -/
def fnExactPicksSpec : ChangeSpec := { name := "fnExactPicks", fn := fun _ => fun
  | [d1, d2, d3, d4] => { results := [.lit (.bool true)], args := [d1, d2, d3, d4] }
  | _ => none }
def fnExactPicksRow : OpenClaim := { program := "ytlodndejipjceaa", sum := "cc2865e9264500fb2290298f2ef98c4eb71c69754faeefc60e2d3a18bee0627f", func := "loop.example/g00040/laws.FnExactPicks", spec := "fnExactPicks", unfollowed := true, recurses := true, plainKeys := false, apart := false }
def FnExactPicksSaid : Prop := fnExactPicksRow.holds Try.pinned (OpenSpec.ofChange fnExactPicksSpec)

/-- ITS FALSE NEIGHBOUR: 'it returns false'. Refute it at one input. -/
def fnExactPicksWrong : ChangeSpec := { name := "fnExactPicks", fn := fun _ => fun
  | [d1, d2, d3, d4] => { results := [.lit (.bool false)], args := [d1, d2, d3, d4] }
  | _ => none }
def FnExactPicksWrongFalsely : Prop := fnExactPicksRow.holds Try.pinned (OpenSpec.ofChange fnExactPicksWrong)

/-- 'laws.FnExactRank': WHATEVER THE INPUT: true; the input reads as it did. -/
def fnExactRankSpec : ChangeSpec := { name := "fnExactRank", fn := fun _ => fun
  | [d1, d2] => { results := [.lit (.bool true)], args := [d1, d2] }
  | _ => none }
def fnExactRankRow : OpenClaim := { program := "ytlodndejipjceaa", sum := "cc2865e9264500fb2290298f2ef98c4eb71c69754faeefc60e2d3a18bee0627f", func := "loop.example/g00040/laws.FnExactRank", spec := "fnExactRank", unfollowed := true, recurses := true, plainKeys := false, apart := false }
def FnExactRankSaid : Prop := fnExactRankRow.holds Try.pinned (OpenSpec.ofChange fnExactRankSpec)

/-- ITS FALSE NEIGHBOUR: 'it returns false'. Refute it at one input. -/
def fnExactRankWrong : ChangeSpec := { name := "fnExactRank", fn := fun _ => fun
  | [d1, d2] => { results := [.lit (.bool false)], args := [d1, d2] }
  | _ => none }
def FnExactRankWrongFalsely : Prop := fnExactRankRow.holds Try.pinned (OpenSpec.ofChange fnExactRankWrong)

/-- 'laws.FnExactAllot': WHATEVER THE INPUT: true; the input reads as it did. -/
def fnExactAllotSpec : ChangeSpec := { name := "fnExactAllot", fn := fun _ => fun
  | [d1, d2] => { results := [.lit (.bool true)], args := [d1, d2] }
  | _ => none }
def fnExactAllotRow : OpenClaim := { program := "ytlodndejipjceaa", sum := "cc2865e9264500fb2290298f2ef98c4eb71c69754faeefc60e2d3a18bee0627f", func := "loop.example/g00040/laws.FnExactAllot", spec := "fnExactAllot", unfollowed := true, recurses := true, plainKeys := false, apart := false }
def FnExactAllotSaid : Prop := fnExactAllotRow.holds Try.pinned (OpenSpec.ofChange fnExactAllotSpec)

/-- ITS FALSE NEIGHBOUR: 'it returns false'. Refute it at one input. -/
def fnExactAllotWrong : ChangeSpec := { name := "fnExactAllot", fn := fun _ => fun
  | [d1, d2] => { results := [.lit (.bool false)], args := [d1, d2] }
  | _ => none }
def FnExactAllotWrongFalsely : Prop := fnExactAllotRow.holds Try.pinned (OpenSpec.ofChange fnExactAllotWrong)

/-- 'laws.FnExactStepDown': WHATEVER THE INPUT: true; the input reads as it did. -/
def fnExactStepDownSpec : ChangeSpec := { name := "fnExactStepDown", fn := fun _ => fun
  | [d1, d2] => { results := [.lit (.bool true)], args := [d1, d2] }
  | _ => none }
def fnExactStepDownRow : OpenClaim := { program := "ytlodndejipjceaa", sum := "cc2865e9264500fb2290298f2ef98c4eb71c69754faeefc60e2d3a18bee0627f", func := "loop.example/g00040/laws.FnExactStepDown", spec := "fnExactStepDown", unfollowed := true, recurses := true, plainKeys := false, apart := false }
def FnExactStepDownSaid : Prop := fnExactStepDownRow.holds Try.pinned (OpenSpec.ofChange fnExactStepDownSpec)

/-- ITS FALSE NEIGHBOUR: 'it returns false'. Refute it at one input. -/
def fnExactStepDownWrong : ChangeSpec := { name := "fnExactStepDown", fn := fun _ => fun
  | [d1, d2] => { results := [.lit (.bool false)], args := [d1, d2] }
  | _ => none }
def FnExactStepDownWrongFalsely : Prop := fnExactStepDownRow.holds Try.pinned (OpenSpec.ofChange fnExactStepDownWrong)

/-- 'laws.FnExactLotsOf': WHATEVER THE INPUT: true; the input reads as it did. -/
def fnExactLotsOfSpec : ChangeSpec := { name := "fnExactLotsOf", fn := fun _ => fun
  | [d1, d2] => { results := [.lit (.bool true)], args := [d1, d2] }
  | _ => none }
def fnExactLotsOfRow : OpenClaim := { program := "ytlodndejipjceaa", sum := "cc2865e9264500fb2290298f2ef98c4eb71c69754faeefc60e2d3a18bee0627f", func := "loop.example/g00040/laws.FnExactLotsOf", spec := "fnExactLotsOf", unfollowed := true, recurses := true, plainKeys := false, apart := false }
def FnExactLotsOfSaid : Prop := fnExactLotsOfRow.holds Try.pinned (OpenSpec.ofChange fnExactLotsOfSpec)

/-- ITS FALSE NEIGHBOUR: 'it returns false'. Refute it at one input. -/
def fnExactLotsOfWrong : ChangeSpec := { name := "fnExactLotsOf", fn := fun _ => fun
  | [d1, d2] => { results := [.lit (.bool false)], args := [d1, d2] }
  | _ => none }
def FnExactLotsOfWrongFalsely : Prop := fnExactLotsOfRow.holds Try.pinned (OpenSpec.ofChange fnExactLotsOfWrong)

/-- 'laws.FnLotsCover': WHATEVER THE INPUT: true; the input reads as it did. -/
def fnLotsCoverSpec : ChangeSpec := { name := "fnLotsCover", fn := fun _ => fun
  | [d] => { results := [.lit (.bool true)], args := [d] }
  | _ => none }
def fnLotsCoverRow : OpenClaim := { program := "ytlodndejipjceaa", sum := "cc2865e9264500fb2290298f2ef98c4eb71c69754faeefc60e2d3a18bee0627f", func := "loop.example/g00040/laws.FnLotsCover", spec := "fnLotsCover", unfollowed := true, recurses := true, plainKeys := false, apart := false }
def FnLotsCoverSaid : Prop := fnLotsCoverRow.holds Try.pinned (OpenSpec.ofChange fnLotsCoverSpec)

/-- ITS FALSE NEIGHBOUR: 'it returns false'. Refute it at one input. -/
def fnLotsCoverWrong : ChangeSpec := { name := "fnLotsCover", fn := fun _ => fun
  | [d] => { results := [.lit (.bool false)], args := [d] }
  | _ => none }
def FnLotsCoverWrongFalsely : Prop := fnLotsCoverRow.holds Try.pinned (OpenSpec.ofChange fnLotsCoverWrong)

/- THE SECOND FORM. 'bulk': how many values and letters a reading holds, each counted each time it is reached (what is shared counts as often as it is met; a slice's spare places count too). A statement '..UptoSaid' is the law's where the arguments, and the package variables that the reading takes, are together of bulk at most 1048576: NARROWER than '..Said'. Prove '..Said' where nothing that the law and all that it calls make is longer than what came in: it says more and counts as full. Else prove '..UptoSaid'. A law counts once. -/
mutual
def uptoBulk {H : Type} : DataW H → Nat
  | .lit (.string bytes) => bytes.length + 1
  | .lit _ => 1
  | .nil => 1
  | .ptr d => uptoBulk d + 1
  | .slice elems spare => uptoBulkAll elems + uptoBulkAll spare + 1
  | .agg parts => uptoBulkAll parts + 1
  | .iface _ d => uptoBulk d + 1
  | .map entries => uptoBulkEntries entries + 1
  | .held _ => 1
def uptoBulkAll {H : Type} : List (DataW H) → Nat
  | [] => 0
  | d :: r => uptoBulk d + uptoBulkAll r
def uptoBulkEntries {H : Type} : List (Lit × DataW H) → Nat
  | [] => 0
  | x :: r => uptoBulkEntry x + uptoBulkEntries r
def uptoBulkEntry {H : Type} : Lit × DataW H → Nat
  | (.string bytes, d) => bytes.length + uptoBulk d + 1
  | (_, d) => uptoBulk d + 1
 end
def uptoSmall : (H : Type) → List (DataW H) → Bool := fun _ ds => decide (uptoBulkAll ds ≤ 1048576)
def OpenSpec.upto (s : _root_.Go.ChangeSpec) : _root_.Go.OpenSpec := { _root_.Go.OpenSpec.ofChange s with cond := some uptoSmall }

/-- 'laws.FnSettled', WHERE WHAT IT READS IS OF BULK AT MOST 1048576: true; the input reads as it did. -/
def fnSettledUptoRow : OpenClaim := { program := "ytlodndejipjceaa", sum := "cc2865e9264500fb2290298f2ef98c4eb71c69754faeefc60e2d3a18bee0627f", func := "loop.example/g00040/laws.FnSettled", spec := "fnSettled", unfollowed := true, recurses := true, plainKeys := false, apart := false, narrowed := true }
def FnSettledUptoSaid : Prop := fnSettledUptoRow.holds Try.pinned (OpenSpec.upto fnSettledSpec)

/-- 'laws.FnExactPropose', WHERE WHAT IT READS IS OF BULK AT MOST 1048576: true; the input reads as it did. -/
def fnExactProposeUptoRow : OpenClaim := { program := "ytlodndejipjceaa", sum := "cc2865e9264500fb2290298f2ef98c4eb71c69754faeefc60e2d3a18bee0627f", func := "loop.example/g00040/laws.FnExactPropose", spec := "fnExactPropose", unfollowed := true, recurses := true, plainKeys := false, apart := false, narrowed := true }
def FnExactProposeUptoSaid : Prop := fnExactProposeUptoRow.holds Try.pinned (OpenSpec.upto fnExactProposeSpec)

/-- 'laws.FnShared', WHERE WHAT IT READS IS OF BULK AT MOST 1048576: true; the input reads as it did. -/
def fnSharedUptoRow : OpenClaim := { program := "ytlodndejipjceaa", sum := "cc2865e9264500fb2290298f2ef98c4eb71c69754faeefc60e2d3a18bee0627f", func := "loop.example/g00040/laws.FnShared", spec := "fnShared", unfollowed := true, recurses := true, plainKeys := false, apart := false, narrowed := true }
def FnSharedUptoSaid : Prop := fnSharedUptoRow.holds Try.pinned (OpenSpec.upto fnSharedSpec)

/-- 'laws.FnExactSettle', WHERE WHAT IT READS IS OF BULK AT MOST 1048576: true; the input reads as it did. -/
def fnExactSettleUptoRow : OpenClaim := { program := "ytlodndejipjceaa", sum := "cc2865e9264500fb2290298f2ef98c4eb71c69754faeefc60e2d3a18bee0627f", func := "loop.example/g00040/laws.FnExactSettle", spec := "fnExactSettle", unfollowed := true, recurses := true, plainKeys := false, apart := false, narrowed := true }
def FnExactSettleUptoSaid : Prop := fnExactSettleUptoRow.holds Try.pinned (OpenSpec.upto fnExactSettleSpec)

/-- 'laws.FnLanded', WHERE WHAT IT READS IS OF BULK AT MOST 1048576: true; the input reads as it did. -/
def fnLandedUptoRow : OpenClaim := { program := "ytlodndejipjceaa", sum := "cc2865e9264500fb2290298f2ef98c4eb71c69754faeefc60e2d3a18bee0627f", func := "loop.example/g00040/laws.FnLanded", spec := "fnLanded", unfollowed := true, recurses := true, plainKeys := false, apart := false, narrowed := true }
def FnLandedUptoSaid : Prop := fnLandedUptoRow.holds Try.pinned (OpenSpec.upto fnLandedSpec)

/-- 'laws.FnExactLanded', WHERE WHAT IT READS IS OF BULK AT MOST 1048576: true; the input reads as it did. -/
def fnExactLandedUptoRow : OpenClaim := { program := "ytlodndejipjceaa", sum := "cc2865e9264500fb2290298f2ef98c4eb71c69754faeefc60e2d3a18bee0627f", func := "loop.example/g00040/laws.FnExactLanded", spec := "fnExactLanded", unfollowed := true, recurses := true, plainKeys := false, apart := false, narrowed := true }
def FnExactLandedUptoSaid : Prop := fnExactLandedUptoRow.holds Try.pinned (OpenSpec.upto fnExactLandedSpec)

/-- 'laws.FnExactPicks', WHERE WHAT IT READS IS OF BULK AT MOST 1048576: true; the input reads as it did. -/
def fnExactPicksUptoRow : OpenClaim := { program := "ytlodndejipjceaa", sum := "cc2865e9264500fb2290298f2ef98c4eb71c69754faeefc60e2d3a18bee0627f", func := "loop.example/g00040/laws.FnExactPicks", spec := "fnExactPicks", unfollowed := true, recurses := true, plainKeys := false, apart := false, narrowed := true }
def FnExactPicksUptoSaid : Prop := fnExactPicksUptoRow.holds Try.pinned (OpenSpec.upto fnExactPicksSpec)

/-- 'laws.FnExactRank', WHERE WHAT IT READS IS OF BULK AT MOST 1048576: true; the input reads as it did. -/
def fnExactRankUptoRow : OpenClaim := { program := "ytlodndejipjceaa", sum := "cc2865e9264500fb2290298f2ef98c4eb71c69754faeefc60e2d3a18bee0627f", func := "loop.example/g00040/laws.FnExactRank", spec := "fnExactRank", unfollowed := true, recurses := true, plainKeys := false, apart := false, narrowed := true }
def FnExactRankUptoSaid : Prop := fnExactRankUptoRow.holds Try.pinned (OpenSpec.upto fnExactRankSpec)

/-- 'laws.FnExactAllot', WHERE WHAT IT READS IS OF BULK AT MOST 1048576: true; the input reads as it did. -/
def fnExactAllotUptoRow : OpenClaim := { program := "ytlodndejipjceaa", sum := "cc2865e9264500fb2290298f2ef98c4eb71c69754faeefc60e2d3a18bee0627f", func := "loop.example/g00040/laws.FnExactAllot", spec := "fnExactAllot", unfollowed := true, recurses := true, plainKeys := false, apart := false, narrowed := true }
def FnExactAllotUptoSaid : Prop := fnExactAllotUptoRow.holds Try.pinned (OpenSpec.upto fnExactAllotSpec)

/-- 'laws.FnExactStepDown', WHERE WHAT IT READS IS OF BULK AT MOST 1048576: true; the input reads as it did. -/
def fnExactStepDownUptoRow : OpenClaim := { program := "ytlodndejipjceaa", sum := "cc2865e9264500fb2290298f2ef98c4eb71c69754faeefc60e2d3a18bee0627f", func := "loop.example/g00040/laws.FnExactStepDown", spec := "fnExactStepDown", unfollowed := true, recurses := true, plainKeys := false, apart := false, narrowed := true }
def FnExactStepDownUptoSaid : Prop := fnExactStepDownUptoRow.holds Try.pinned (OpenSpec.upto fnExactStepDownSpec)

/-- 'laws.FnExactLotsOf', WHERE WHAT IT READS IS OF BULK AT MOST 1048576: true; the input reads as it did. -/
def fnExactLotsOfUptoRow : OpenClaim := { program := "ytlodndejipjceaa", sum := "cc2865e9264500fb2290298f2ef98c4eb71c69754faeefc60e2d3a18bee0627f", func := "loop.example/g00040/laws.FnExactLotsOf", spec := "fnExactLotsOf", unfollowed := true, recurses := true, plainKeys := false, apart := false, narrowed := true }
def FnExactLotsOfUptoSaid : Prop := fnExactLotsOfUptoRow.holds Try.pinned (OpenSpec.upto fnExactLotsOfSpec)

/-- 'laws.FnLotsCover', WHERE WHAT IT READS IS OF BULK AT MOST 1048576: true; the input reads as it did. -/
def fnLotsCoverUptoRow : OpenClaim := { program := "ytlodndejipjceaa", sum := "cc2865e9264500fb2290298f2ef98c4eb71c69754faeefc60e2d3a18bee0627f", func := "loop.example/g00040/laws.FnLotsCover", spec := "fnLotsCover", unfollowed := true, recurses := true, plainKeys := false, apart := false, narrowed := true }
def FnLotsCoverUptoSaid : Prop := fnLotsCoverUptoRow.holds Try.pinned (OpenSpec.upto fnLotsCoverSpec)

end Rows
end Go.Proofs.Ytlodndejipjceaa
