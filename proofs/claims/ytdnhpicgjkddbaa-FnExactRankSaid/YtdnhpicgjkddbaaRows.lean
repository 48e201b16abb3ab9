/-
  No cell of these rows narrows 'for every input' (looked for: loops, veiled, ifaces, maps, wideKeys, modest, calm, conditions, laid).
  DERIVED. THE GIVEN ROWS OF THIS SEAT. 12 by the template 'for every input the law returns true; each argument reads behind the call as it read before'; 0 by the template 'total and deterministic' (their statements: YtdnhpicgjkddbaaTotals.lean).
  GIVEN WITH THE SEED: the statements are not yours to turn. If you find one false, say at which input.
  Laid BY PROGRAM, IN A SANDBOX (cutbox-rows.mjs): the forced cells as the released guide's own fill.sh prints them over the translation acc894ad5867d359… (all of the seat's roots in one cut). By AI agents, Wed Nov 11 2026. No macro, syntax, notation, axiom, sorry.
-/
import Derived.Test.YtdnhpicgjkddbaaChecked
import GoSem.Claim
import GoSem.ClaimJoined
import GoSem.ClaimMapViews
import Derived.JoinedTies
import Derived.KernelRfl
namespace Go.Proofs.Ytdnhpicgjkddbaa
/- THE CELL 'sum', in the pinned program and in every row, IS THE sha256 OF THE DUMP (.gsa) THAT YtdnhpicgjkddbaaProg.lean LOADS. Nothing in Lean hashes anything: it is a label: what it is worth is what the hold of that sum in a sandbox is worth. -/
noncomputable def Try.pinned : Pinned := { name := "ytdnhpicgjkddbaa", sum := "acc894ad5867d3593012dd787a19fbf01be7668edc18fe346bc34c442ebd6627", checked := Try.checked }
namespace Rows
def none {H : Type} : Left H := { results := [], args := [] }

/-- 'laws.FnRolled': WHATEVER THE INPUT: true; the input reads as it did. -/
def fnRolledSpec : ChangeSpec := { name := "fnRolled", fn := fun _ => fun
  | [d] => { results := [.lit (.bool true)], args := [d] }
  | _ => none }
def fnRolledRow : OpenClaim := { program := "ytdnhpicgjkddbaa", sum := "acc894ad5867d3593012dd787a19fbf01be7668edc18fe346bc34c442ebd6627", func := "loop.example/g00040/laws.FnRolled", spec := "fnRolled", recurses := true, apart := false }
def FnRolledSaid : Prop := fnRolledRow.holds Try.pinned (OpenSpec.ofChange fnRolledSpec)

/-- ITS FALSE NEIGHBOUR: 'it returns false'. Refute it at one input. -/
def fnRolledWrong : ChangeSpec := { name := "fnRolled", fn := fun _ => fun
  | [d] => { results := [.lit (.bool false)], args := [d] }
  | _ => none }
def FnRolledWrongFalsely : Prop := fnRolledRow.holds Try.pinned (OpenSpec.ofChange fnRolledWrong)

/-- 'laws.FnExactRegisterOk': WHATEVER THE INPUT: true; the input reads as it did. -/
def fnExactRegisterOkSpec : ChangeSpec := { name := "fnExactRegisterOk", fn := fun _ => fun
  | [d] => { results := [.lit (.bool true)], args := [d] }
  | _ => none }
def fnExactRegisterOkRow : OpenClaim := { program := "ytdnhpicgjkddbaa", sum := "acc894ad5867d3593012dd787a19fbf01be7668edc18fe346bc34c442ebd6627", func := "loop.example/g00040/laws.FnExactRegisterOk", spec := "fnExactRegisterOk", recurses := true, apart := false }
def FnExactRegisterOkSaid : Prop := fnExactRegisterOkRow.holds Try.pinned (OpenSpec.ofChange fnExactRegisterOkSpec)

/-- ITS FALSE NEIGHBOUR: 'it returns false'. Refute it at one input. -/
def fnExactRegisterOkWrong : ChangeSpec := { name := "fnExactRegisterOk", fn := fun _ => fun
  | [d] => { results := [.lit (.bool false)], args := [d] }
  | _ => none }
def FnExactRegisterOkWrongFalsely : Prop := fnExactRegisterOkRow.holds Try.pinned (OpenSpec.ofChange fnExactRegisterOkWrong)

/-- 'laws.FnExactShowPaper': WHATEVER THE INPUT: true; the input reads as it did. -/
def fnExactShowPaperSpec : ChangeSpec := { name := "fnExactShowPaper", fn := fun _ => fun
  | [d1, d2] => { results := [.lit (.bool true)], args := [d1, d2] }
  | _ => none }
def fnExactShowPaperRow : OpenClaim := { program := "ytdnhpicgjkddbaa", sum := "acc894ad5867d3593012dd787a19fbf01be7668edc18fe346bc34c442ebd6627", func := "loop.example/g00040/laws.FnExactShowPaper", spec := "fnExactShowPaper", recurses := true, apart := false }
def FnExactShowPaperSaid : Prop := fnExactShowPaperRow.holds Try.pinned (OpenSpec.ofChange fnExactShowPaperSpec)

/-- ITS FALSE NEIGHBOUR: 'it returns false'. Refute it at one input. -/
def fnExactShowPaperWrong : ChangeSpec := { name := "fnExactShowPaper", fn := fun _ => fun
  | [d1, d2] => { results := [.lit (.bool false)], args := [d1, d2] }
  | _ => none }
def FnExactShowPaperWrongFalsely : Prop := fnExactShowPaperRow.holds Try.pinned (OpenSpec.ofChange fnExactShowPaperWrong)

/-- 'laws.FnExactFindPaper': WHATEVER THE INPUT: true; the input reads as it did. -/
def fnExactFindPaperSpec : ChangeSpec := { name := "fnExactFindPaper", fn := fun _ => fun
  | [d1, d2] => { results := [.lit (.bool true)], args := [d1, d2] }
  | _ => none }
def fnExactFindPaperRow : OpenClaim := { program := "ytdnhpicgjkddbaa", sum := "acc894ad5867d3593012dd787a19fbf01be7668edc18fe346bc34c442ebd6627", func := "loop.example/g00040/laws.FnExactFindPaper", spec := "fnExactFindPaper", recurses := true, apart := false }
def FnExactFindPaperSaid : Prop := fnExactFindPaperRow.holds Try.pinned (OpenSpec.ofChange fnExactFindPaperSpec)

/-- ITS FALSE NEIGHBOUR: 'it returns false'. Refute it at one input. -/
def fnExactFindPaperWrong : ChangeSpec := { name := "fnExactFindPaper", fn := fun _ => fun
  | [d1, d2] => { results := [.lit (.bool false)], args := [d1, d2] }
  | _ => none }
def FnExactFindPaperWrongFalsely : Prop := fnExactFindPaperRow.holds Try.pinned (OpenSpec.ofChange fnExactFindPaperWrong)

/-- 'laws.FnNoGap': WHATEVER THE INPUT: true; the input reads as it did. -/
def fnNoGapSpec : ChangeSpec := { name := "fnNoGap", fn := fun _ => fun
  | [d] => { results := [.lit (.bool true)], args := [d] }
  | _ => none }
def fnNoGapRow : OpenClaim := { program := "ytdnhpicgjkddbaa", sum := "acc894ad5867d3593012dd787a19fbf01be7668edc18fe346bc34c442ebd6627", func := "loop.example/g00040/laws.FnNoGap", spec := "fnNoGap", recurses := true, apart := false }
def FnNoGapSaid : Prop := fnNoGapRow.holds Try.pinned (OpenSpec.ofChange fnNoGapSpec)

/-- ITS FALSE NEIGHBOUR: 'it returns false'. Refute it at one input. -/
def fnNoGapWrong : ChangeSpec := { name := "fnNoGap", fn := fun _ => fun
  | [d] => { results := [.lit (.bool false)], args := [d] }
  | _ => none }
def FnNoGapWrongFalsely : Prop := fnNoGapRow.holds Try.pinned (OpenSpec.ofChange fnNoGapWrong)

/-- 'laws.FnExactAllot': WHATEVER THE INPUT: true; the input reads as it did. -/
def fnExactAllotSpec : ChangeSpec := { name := "fnExactAllot", fn := fun _ => fun
  | [d1, d2] => { results := [.lit (.bool true)], args := [d1, d2] }
  | _ => none }
def fnExactAllotRow : OpenClaim := { program := "ytdnhpicgjkddbaa", sum := "acc894ad5867d3593012dd787a19fbf01be7668edc18fe346bc34c442ebd6627", func := "loop.example/g00040/laws.FnExactAllot", spec := "fnExactAllot", unfollowed := true, recurses := true, apart := false }
def FnExactAllotSaid : Prop := fnExactAllotRow.holds Try.pinned (OpenSpec.ofChange fnExactAllotSpec)

/-- ITS FALSE NEIGHBOUR: 'it returns false'. Refute it at one input. -/
def fnExactAllotWrong : ChangeSpec := { name := "fnExactAllot", fn := fun _ => fun
  | [d1, d2] => { results := [.lit (.bool false)], args := [d1, d2] }
  | _ => none }
def FnExactAllotWrongFalsely : Prop := fnExactAllotRow.holds Try.pinned (OpenSpec.ofChange fnExactAllotWrong)

/-- 'laws.FnExactStepDown': WHATEVER THE INPUT: true; the input reads as it did. -/
def fnExactStepDownSpec : ChangeSpec := { name := "fnExactStepDown", fn := fun _ => fun
  | [d1, d2] => { results := [.lit (.bool true)], args := [d1, d2] }
  | _ => none }
def fnExactStepDownRow : OpenClaim := { program := "ytdnhpicgjkddbaa", sum := "acc894ad5867d3593012dd787a19fbf01be7668edc18fe346bc34c442ebd6627", func := "loop.example/g00040/laws.FnExactStepDown", spec := "fnExactStepDown", unfollowed := true, recurses := true, apart := false }
def FnExactStepDownSaid : Prop := fnExactStepDownRow.holds Try.pinned (OpenSpec.ofChange fnExactStepDownSpec)

/-- ITS FALSE NEIGHBOUR: 'it returns false'. Refute it at one input. -/
def fnExactStepDownWrong : ChangeSpec := { name := "fnExactStepDown", fn := fun _ => fun
  | [d1, d2] => { results := [.lit (.bool false)], args := [d1, d2] }
  | _ => none }
def FnExactStepDownWrongFalsely : Prop := fnExactStepDownRow.holds Try.pinned (OpenSpec.ofChange fnExactStepDownWrong)

/-- 'laws.FnExactRank': WHATEVER THE INPUT: true; the input reads as it did. -/
def fnExactRankSpec : ChangeSpec := { name := "fnExactRank", fn := fun _ => fun
  | [d1, d2] => { results := [.lit (.bool true)], args := [d1, d2] }
  | _ => none }
def fnExactRankRow : OpenClaim := { program := "ytdnhpicgjkddbaa", sum := "acc894ad5867d3593012dd787a19fbf01be7668edc18fe346bc34c442ebd6627", func := "loop.example/g00040/laws.FnExactRank", spec := "fnExactRank", unfollowed := true, recurses := true, apart := false }
def FnExactRankSaid : Prop := fnExactRankRow.holds Try.pinned (OpenSpec.ofChange fnExactRankSpec)

/-- ITS FALSE NEIGHBOUR: 'it returns false'. Refute it at one input. -/
def fnExactRankWrong : ChangeSpec := { name := "fnExactRank", fn := fun _ => fun
  | [d1, d2] => { results := [.lit (.bool false)], args := [d1, d2] }
  | _ => none }
def FnExactRankWrongFalsely : Prop := fnExactRankRow.holds Try.pinned (OpenSpec.ofChange fnExactRankWrong)

/-- 'laws.FnExactHeadOf': WHATEVER THE INPUT: true; the input reads as it did. -/
def fnExactHeadOfSpec : ChangeSpec := { name := "fnExactHeadOf", fn := fun _ => fun
  | [d] => { results := [.lit (.bool true)], args := [d] }
  | _ => none }
def fnExactHeadOfRow : OpenClaim := { program := "ytdnhpicgjkddbaa", sum := "acc894ad5867d3593012dd787a19fbf01be7668edc18fe346bc34c442ebd6627", func := "loop.example/g00040/laws.FnExactHeadOf", spec := "fnExactHeadOf", unfollowed := true, recurses := true, apart := false }
def FnExactHeadOfSaid : Prop := fnExactHeadOfRow.holds Try.pinned (OpenSpec.ofChange fnExactHeadOfSpec)

/-- ITS FALSE NEIGHBOUR: 'it returns false'. Refute it at one input. -/
def fnExactHeadOfWrong : ChangeSpec := { name := "fnExactHeadOf", fn := fun _ => fun
  | [d] => { results := [.lit (.bool false)], args := [d] }
  | _ => none }
def FnExactHeadOfWrongFalsely : Prop := fnExactHeadOfRow.holds Try.pinned (OpenSpec.ofChange fnExactHeadOfWrong)

/-- 'laws.FnChained': WHATEVER THE INPUT: true; the input reads as it did. -/
def fnChainedSpec : ChangeSpec := { name := "fnChained", fn := fun _ => fun
  | [d] => { results := [.lit (.bool true)], args := [d] }
  | _ => none }
def fnChainedRow : OpenClaim := { program := "ytdnhpicgjkddbaa", sum := "acc894ad5867d3593012dd787a19fbf01be7668edc18fe346bc34c442ebd6627", func := "loop.example/g00040/laws.FnChained", spec := "fnChained", unfollowed := true, recurses := true, apart := false }
def FnChainedSaid : Prop := fnChainedRow.holds Try.pinned (OpenSpec.ofChange fnChainedSpec)

/-- ITS FALSE NEIGHBOUR: 'it returns false'. Refute it at one input. -/
def fnChainedWrong : ChangeSpec := { name := "fnChained", fn := fun _ => fun
  | [d] => { results := [.lit (.bool false)], args := [d] }
  | _ => none }
def FnChainedWrongFalsely : Prop := fnChainedRow.holds Try.pinned (OpenSpec.ofChange fnChainedWrong)

/-- 'laws.FnExactLotsOf': WHATEVER THE INPUT: true; the input reads as it did. -/
def fnExactLotsOfSpec : ChangeSpec := { name := "fnExactLotsOf", fn := fun _ => fun
  | [d1, d2] => { results := [.lit (.bool true)], args := [d1, d2] }
  | _ => none }
def fnExactLotsOfRow : OpenClaim := { program := "ytdnhpicgjkddbaa", sum := "acc894ad5867d3593012dd787a19fbf01be7668edc18fe346bc34c442ebd6627", func := "loop.example/g00040/laws.FnExactLotsOf", spec := "fnExactLotsOf", unfollowed := true, recurses := true, apart := false }
def FnExactLotsOfSaid : Prop := fnExactLotsOfRow.holds Try.pinned (OpenSpec.ofChange fnExactLotsOfSpec)

/-- ITS FALSE NEIGHBOUR: 'it returns false'. Refute it at one input. -/
def fnExactLotsOfWrong : ChangeSpec := { name := "fnExactLotsOf", fn := fun _ => fun
  | [d1, d2] => { results := [.lit (.bool false)], args := [d1, d2] }
  | _ => none }
def FnExactLotsOfWrongFalsely : Prop := fnExactLotsOfRow.holds Try.pinned (OpenSpec.ofChange fnExactLotsOfWrong)

/-- 'laws.FnLotsCover': WHATEVER THE INPUT: true; the input reads as it did. -/
def fnLotsCoverSpec : ChangeSpec := { name := "fnLotsCover", fn := fun _ => fun
  | [d] => { results := [.lit (.bool true)], args := [d] }
  | _ => none }
def fnLotsCoverRow : OpenClaim := { program := "ytdnhpicgjkddbaa", sum := "acc894ad5867d3593012dd787a19fbf01be7668edc18fe346bc34c442ebd6627", func := "loop.example/g00040/laws.FnLotsCover", spec := "fnLotsCover", unfollowed := true, recurses := true, apart := false }
def FnLotsCoverSaid : Prop := fnLotsCoverRow.holds Try.pinned (OpenSpec.ofChange fnLotsCoverSpec)

/-- ITS FALSE NEIGHBOUR: 'it returns false'. Refute it at one input. -/
def fnLotsCoverWrong : ChangeSpec := { name := "fnLotsCover", fn := fun _ => fun
  | [d] => { results := [.lit (.bool false)], args := [d] }
  | _ => none }
def FnLotsCoverWrongFalsely : Prop := fnLotsCoverRow.holds Try.pinned (OpenSpec.ofChange fnLotsCoverWrong)

/- THE SECOND FORM. 'bulk': how many values and letters a reading holds, each counted each time it is reached (what is shared counts as often as it is met; a slice's spare places count too). A statement '..UptoSaid' is the law's where the arguments, and the package variables that the reading takes, are together of bulk at most 1048576: NARROWER than '..Said'. Prove '..Said' where nothing that the law and all that it calls make is longer than what came in: it says more and counts as full. Else prove '..UptoSaid'. A law counts once. -/
mutual
def uptoBulk {H : Type} : DataW H → Nat
  | .lit (.string bytes) => bytes.length + 1
  | .lit _ => 1
  | .nil => 1
  | .ptr d => uptoBulk d + 1
  | .slice elems spare => uptoBulkAll elems + uptoBulkAll spare + 1
  | .agg parts => uptoBulkAll parts + 1
  | .iface _ d => uptoBulk d + 1
  | .map entries => uptoBulkEntries entries + 1
  | .held _ => 1
def uptoBulkAll {H : Type} : List (DataW H) → Nat
  | [] => 0
  | d :: r => uptoBulk d + uptoBulkAll r
def uptoBulkEntries {H : Type} : List (Lit × DataW H) → Nat
  | [] => 0
  | x :: r => uptoBulkEntry x + uptoBulkEntries r
def uptoBulkEntry {H : Type} : Lit × DataW H → Nat
  | (.string bytes, d) => bytes.length + uptoBulk d + 1
  | (_, d) => uptoBulk d + 1
 end
def uptoSmall : (H : Type) → List (DataW H) → Bool := fun _ ds => decide (uptoBulkAll ds ≤ 1048576)
def OpenSpec.upto (s : _root_.Go.ChangeSpec) : _root_.Go.OpenSpec := { _root_.Go.OpenSpec.ofChange s with cond := some uptoSmall }

/-- 'laws.FnRolled', WHERE WHAT IT READS IS OF BULK AT MOST 1048576: true; the input reads as it did. -/
def fnRolledUptoRow : OpenClaim := { program := "ytdnhpicgjkddbaa", sum := "acc894ad5867d3593012dd787a19fbf01be7668edc18fe346bc34c442ebd6627", func := "loop.example/g00040/laws.FnRolled", spec := "fnRolled", recurses := true, apart := false, narrowed := true }
def FnRolledUptoSaid : Prop := fnRolledUptoRow.holds Try.pinned (OpenSpec.upto fnRolledSpec)

/-- 'laws.FnExactRegisterOk', WHERE WHAT IT READS IS OF BULK AT MOST 1048576: true; the input reads as it did. -/
def fnExactRegisterOkUptoRow : OpenClaim := { program := "ytdnhpicgjkddbaa", sum := "acc894ad5867d3593012dd787a19fbf01be7668edc18fe346bc34c442ebd6627", func := "loop.example/g00040/laws.FnExactRegisterOk", spec := "fnExactRegisterOk", recurses := true, apart := false, narrowed := true }
def FnExactRegisterOkUptoSaid : Prop := fnExactRegisterOkUptoRow.holds Try.pinned (OpenSpec.upto fnExactRegisterOkSpec)

/-- 'laws.FnExactShowPaper', WHERE WHAT IT READS IS OF BULK AT MOST 1048576: true; the input reads as it did. -/
def fnExactShowPaperUptoRow : OpenClaim := { program := "ytdnhpicgjkddbaa", sum := "acc894ad5867d3593012dd787a19fbf01be7668edc18fe346bc34c442ebd6627", func := "loop.example/g00040/laws.FnExactShowPaper", spec := "fnExactShowPaper", recurses := true, apart := false, narrowed := true }
def FnExactShowPaperUptoSaid : Prop := fnExactShowPaperUptoRow.holds Try.pinned (OpenSpec.upto fnExactShowPaperSpec)

/-- 'laws.FnExactFindPaper', WHERE WHAT IT READS IS OF BULK AT MOST 1048576: true; the input reads as it did. -/
def fnExactFindPaperUptoRow : OpenClaim := { program := "ytdnhpicgjkddbaa", sum := "acc894ad5867d3593012dd787a19fbf01be7668edc18fe346bc34c442ebd6627", func := "loop.example/g00040/laws.FnExactFindPaper", spec := "fnExactFindPaper", recurses := true, apart := false, narrowed := true }
def FnExactFindPaperUptoSaid : Prop := fnExactFindPaperUptoRow.holds Try.pinned (OpenSpec.upto fnExactFindPaperSpec)

/-- 'laws.FnNoGap', WHERE WHAT IT READS IS OF BULK AT MOST 1048576: true; the input reads as it did. -/
def fnNoGapUptoRow : OpenClaim := { program := "ytdnhpicgjkddbaa", sum := "acc894ad5867d3593012dd787a19fbf01be7668edc18fe346bc34c442ebd6627", func := "loop.example/g00040/laws.FnNoGap", spec := "fnNoGap", recurses := true, apart := false, narrowed := true }
def FnNoGapUptoSaid : Prop := fnNoGapUptoRow.holds Try.pinned (OpenSpec.upto fnNoGapSpec)

/-- 'laws.FnExactAllot', WHERE WHAT IT READS IS OF BULK AT MOST 1048576: true; the input reads as it did. -/
def fnExactAllotUptoRow : OpenClaim := { program := "ytdnhpicgjkddbaa", sum := "acc894ad5867d3593012dd787a19fbf01be7668edc18fe346bc34c442ebd6627", func := "loop.example/g00040/laws.FnExactAllot", spec := "fnExactAllot", unfollowed := true, recurses := true, apart := false, narrowed := true }
def FnExactAllotUptoSaid : Prop := fnExactAllotUptoRow.holds Try.pinned (OpenSpec.upto fnExactAllotSpec)

/-- 'laws.FnExactStepDown', WHERE WHAT IT READS IS OF BULK AT MOST 1048576: true; the input reads as it did. -/
def fnExactStepDownUptoRow : OpenClaim := { program := "ytdnhpicgjkddbaa", sum := "acc894ad5867d3593012dd787a19fbf01be7668edc18fe346bc34c442ebd6627", func := "loop.example/g00040/laws.FnExactStepDown", spec := "fnExactStepDown", unfollowed := true, recurses := true, apart := false, narrowed := true }
def FnExactStepDownUptoSaid : Prop := fnExactStepDownUptoRow.holds Try.pinned (OpenSpec.upto fnExactStepDownSpec)

/-- 'laws.FnExactRank', WHERE WHAT IT READS IS OF BULK AT MOST 1048576: true; the input reads as it did. -/
def fnExactRankUptoRow : OpenClaim := { program := "ytdnhpicgjkddbaa", sum := "acc894ad5867d3593012dd787a19fbf01be7668edc18fe346bc34c442ebd6627", func := "loop.example/g00040/laws.FnExactRank", spec := "fnExactRank", unfollowed := true, recurses := true, apart := false, narrowed := true }
def FnExactRankUptoSaid : Prop := fnExactRankUptoRow.holds Try.pinned (OpenSpec.upto fnExactRankSpec)

/-- 'laws.FnExactHeadOf', WHERE WHAT IT READS IS OF BULK AT MOST 1048576: true; the input reads as it did. -/
def fnExactHeadOfUptoRow : OpenClaim := { program := "ytdnhpicgjkddbaa", sum := "acc894ad5867d3593012dd787a19fbf01be7668edc18fe346bc34c442ebd6627", func := "loop.example/g00040/laws.FnExactHeadOf", spec := "fnExactHeadOf", unfollowed := true, recurses := true, apart := false, narrowed := true }
def FnExactHeadOfUptoSaid : Prop := fnExactHeadOfUptoRow.holds Try.pinned (OpenSpec.upto fnExactHeadOfSpec)

/-- 'laws.FnChained', WHERE WHAT IT READS IS OF BULK AT MOST 1048576: true; the input reads as it did. -/
def fnChainedUptoRow : OpenClaim := { program := "ytdnhpicgjkddbaa", sum := "acc894ad5867d3593012dd787a19fbf01be7668edc18fe346bc34c442ebd6627", func := "loop.example/g00040/laws.FnChained", spec := "fnChained", unfollowed := true, recurses := true, apart := false, narrowed := true }
def FnChainedUptoSaid : Prop := fnChainedUptoRow.holds Try.pinned (OpenSpec.upto fnChainedSpec)

/-- 'laws.FnExactLotsOf', WHERE WHAT IT READS IS OF BULK AT MOST 1048576: true; the input reads as it did. -/
def fnExactLotsOfUptoRow : OpenClaim := { program := "ytdnhpicgjkddbaa", sum := "acc894ad5867d3593012dd787a19fbf01be7668edc18fe346bc34c442ebd6627", func := "loop.example/g00040/laws.FnExactLotsOf", spec := "fnExactLotsOf", unfollowed := true, recurses := true, apart := false, narrowed := true }
def FnExactLotsOfUptoSaid : Prop := fnExactLotsOfUptoRow.holds Try.pinned (OpenSpec.upto fnExactLotsOfSpec)

/-- 'laws.FnLotsCover', WHERE WHAT IT READS IS OF BULK AT MOST 1048576: true; the input reads as it did. -/
def fnLotsCoverUptoRow : OpenClaim := { program := "ytdnhpicgjkddbaa", sum := "acc894ad5867d3593012dd787a19fbf01be7668edc18fe346bc34c442ebd6627", func := "loop.example/g00040/laws.FnLotsCover", spec := "fnLotsCover", unfollowed := true, recurses := true, apart := false, narrowed := true }
def FnLotsCoverUptoSaid : Prop := fnLotsCoverUptoRow.holds Try.pinned (OpenSpec.upto fnLotsCoverSpec)

end Rows
end Go.Proofs.Ytdnhpicgjkddbaa
