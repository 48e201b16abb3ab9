/-
  No cell of these rows narrows 'for every input' (looked for: loops, veiled, ifaces, maps, wideKeys, modest, calm, conditions, laid).
  DERIVED. THE GIVEN ROWS OF THIS SEAT. 6 by the template 'for every input the law returns true; each argument reads behind the call as it read before'; 0 by the template 'total and deterministic' (their statements: YtdnenglafphkbaaTotals.lean).
  GIVEN WITH THE SEED: the statements are not yours to turn. If you find one false, say at which input.
  Laid BY PROGRAM, IN A SANDBOX (cutbox-rows.mjs): the forced cells as the released guide's own fill.sh prints them over the translation 01b83ab7158f5574… (all of the seat's roots in one cut). By AI agents, Wed Nov 11 2026. No macro, syntax, notation, axiom, sorry.
-/
import Derived.Test.YtdnenglafphkbaaChecked
import GoSem.Claim
import GoSem.ClaimJoined
import GoSem.ClaimMapViews
import Derived.JoinedTies
import Derived.KernelRfl
namespace Go.Proofs.Ytdnenglafphkbaa
/- THE CELL 'sum', in the pinned program and in every row, IS THE sha256 OF THE DUMP (.gsa) THAT YtdnenglafphkbaaProg.lean LOADS. Nothing in Lean hashes anything: it is a label: what it is worth is what the hold of that sum in a sandbox is worth. -/
noncomputable def Try.pinned : Pinned := { name := "ytdnenglafphkbaa", sum := "01b83ab7158f5574aa2422c9c1c28ef40fd447c441ac2e8b00f17d0922f88be9", checked := Try.checked }
namespace Rows
def none {H : Type} : Left H := { results := [], args := [] }

/-- 'laws.FnWorkBack': WHATEVER THE INPUT: true; the input reads as it did. -/
def fnWorkBackSpec : ChangeSpec := { name := "fnWorkBack", fn := fun _ => fun
  | [d] => { results := [.lit (.bool true)], args := [d] }
  | _ => none }
def fnWorkBackRow : OpenClaim := { program := "ytdnenglafphkbaa", sum := "01b83ab7158f5574aa2422c9c1c28ef40fd447c441ac2e8b00f17d0922f88be9", func := "loop.example/g00040/laws.FnWorkBack", spec := "fnWorkBack", unfollowed := true, recurses := true, plainKeys := false, apart := false }
def FnWorkBackSaid : Prop := fnWorkBackRow.holds Try.pinned (OpenSpec.ofChange fnWorkBackSpec)

/-- ITS FALSE NEIGHBOUR: 'it returns false'. Refute it at one input. -/
def fnWorkBackWrong : ChangeSpec := { name := "fnWorkBack", fn := fun _ => fun
  | [d] => { results := [.lit (.bool false)], args := [d] }
  | _ => none }
def FnWorkBackWrongFalsely : Prop := fnWorkBackRow.holds Try.pinned (OpenSpec.ofChange fnWorkBackWrong)

/-- 'laws.FnExactQtyIn': WHATEVER THE INPUT: true; the input reads as it did. -/
def fnExactQtyInSpec : ChangeSpec := { name := "fnExactQtyIn", fn := fun _ => fun
  | [d1, d2, d3, d4] => { results := [.lit (.bool true)], args := [d1, d2, d3, d4] }
  | _ => none }
def fnExactQtyInRow : OpenClaim := { program := "ytdnenglafphkbaa", sum := "01b83ab7158f5574aa2422c9c1c28ef40fd447c441ac2e8b00f17d0922f88be9", func := "loop.example/g00040/laws.FnExactQtyIn", spec := "fnExactQtyIn", plainKeys := false, apart := false }
def FnExactQtyInSaid : Prop := fnExactQtyInRow.holds Try.pinned (OpenSpec.ofChange fnExactQtyInSpec)

/-- ITS FALSE NEIGHBOUR: 'it returns false'. Refute it at one input. -/
def fnExactQtyInWrong : ChangeSpec := { name := "fnExactQtyIn", fn := fun _ => fun
  | [d1, d2, d3, d4] => { results := [.lit (.bool false)], args := [d1, d2, d3, d4] }
  | _ => none }
def FnExactQtyInWrongFalsely : Prop := fnExactQtyInRow.holds Try.pinned (OpenSpec.ofChange fnExactQtyInWrong)

/-- 'laws.FnExactHold': WHATEVER THE INPUT: true; the input reads as it did. -/
def fnExactHoldSpec : ChangeSpec := { name := "fnExactHold", fn := fun _ => fun
  | [d1, d2] => { results := [.lit (.bool true)], args := [d1, d2] }
  | _ => none }
def fnExactHoldRow : OpenClaim := { program := "ytdnenglafphkbaa", sum := "01b83ab7158f5574aa2422c9c1c28ef40fd447c441ac2e8b00f17d0922f88be9", func := "loop.example/g00040/laws.FnExactHold", spec := "fnExactHold", unfollowed := true, recurses := true, plainKeys := false, apart := false }
def FnExactHoldSaid : Prop := fnExactHoldRow.holds Try.pinned (OpenSpec.ofChange fnExactHoldSpec)

/-- ITS FALSE NEIGHBOUR: 'it returns false'. Refute it at one input. -/
def fnExactHoldWrong : ChangeSpec := { name := "fnExactHold", fn := fun _ => fun
  | [d1, d2] => { results := [.lit (.bool false)], args := [d1, d2] }
  | _ => none }
def FnExactHoldWrongFalsely : Prop := fnExactHoldRow.holds Try.pinned (OpenSpec.ofChange fnExactHoldWrong)

/-- 'laws.FnExactShip': WHATEVER THE INPUT: true; the input reads as it did. -/
def fnExactShipSpec : ChangeSpec := { name := "fnExactShip", fn := fun _ => fun
  | [d1, d2] => { results := [.lit (.bool true)], args := [d1, d2] }
  | _ => none }
def fnExactShipRow : OpenClaim := { program := "ytdnenglafphkbaa", sum := "01b83ab7158f5574aa2422c9c1c28ef40fd447c441ac2e8b00f17d0922f88be9", func := "loop.example/g00040/laws.FnExactShip", spec := "fnExactShip", unfollowed := true, recurses := true, plainKeys := false, apart := false }
def FnExactShipSaid : Prop := fnExactShipRow.holds Try.pinned (OpenSpec.ofChange fnExactShipSpec)

/-- ITS FALSE NEIGHBOUR: 'it returns false'. Refute it at one input. -/
def fnExactShipWrong : ChangeSpec := { name := "fnExactShip", fn := fun _ => fun
  | [d1, d2] => { results := [.lit (.bool false)], args := [d1, d2] }
  | _ => none }
def FnExactShipWrongFalsely : Prop := fnExactShipRow.holds Try.pinned (OpenSpec.ofChange fnExactShipWrong)

/-- 'laws.FnExactMay': WHATEVER THE INPUT: true; the input reads as it did. -/
def fnExactMaySpec : ChangeSpec := { name := "fnExactMay", fn := fun _ => fun
  | [d1, d2, d3, d4] => { results := [.lit (.bool true)], args := [d1, d2, d3, d4] }
  | _ => none }
def fnExactMayRow : OpenClaim := { program := "ytdnenglafphkbaa", sum := "01b83ab7158f5574aa2422c9c1c28ef40fd447c441ac2e8b00f17d0922f88be9", func := "loop.example/g00040/laws.FnExactMay", spec := "fnExactMay", plainKeys := false, apart := false }
def FnExactMaySaid : Prop := fnExactMayRow.holds Try.pinned (OpenSpec.ofChange fnExactMaySpec)

/-- ITS FALSE NEIGHBOUR: 'it returns false'. Refute it at one input. -/
def fnExactMayWrong : ChangeSpec := { name := "fnExactMay", fn := fun _ => fun
  | [d1, d2, d3, d4] => { results := [.lit (.bool false)], args := [d1, d2, d3, d4] }
  | _ => none }
def FnExactMayWrongFalsely : Prop := fnExactMayRow.holds Try.pinned (OpenSpec.ofChange fnExactMayWrong)

/-- 'laws.FnExactTakeIn': WHATEVER THE INPUT: true; the input reads as it did. -/
def fnExactTakeInSpec : ChangeSpec := { name := "fnExactTakeIn", fn := fun _ => fun
  | [d1, d2, d3] => { results := [.lit (.bool true)], args := [d1, d2, d3] }
  | _ => none }
def fnExactTakeInRow : OpenClaim := { program := "ytdnenglafphkbaa", sum := "01b83ab7158f5574aa2422c9c1c28ef40fd447c441ac2e8b00f17d0922f88be9", func := "loop.example/g00040/laws.FnExactTakeIn", spec := "fnExactTakeIn", unfollowed := true, recurses := true, plainKeys := false, apart := false }
def FnExactTakeInSaid : Prop := fnExactTakeInRow.holds Try.pinned (OpenSpec.ofChange fnExactTakeInSpec)

/-- ITS FALSE NEIGHBOUR: 'it returns false'. Refute it at one input. -/
def fnExactTakeInWrong : ChangeSpec := { name := "fnExactTakeIn", fn := fun _ => fun
  | [d1, d2, d3] => { results := [.lit (.bool false)], args := [d1, d2, d3] }
  | _ => none }
def FnExactTakeInWrongFalsely : Prop := fnExactTakeInRow.holds Try.pinned (OpenSpec.ofChange fnExactTakeInWrong)

/- THE SECOND FORM. 'bulk': how many values and letters a reading holds, each counted each time it is reached (what is shared counts as often as it is met; a slice's spare places count too). A statement '..UptoSaid' is the law's where the arguments, and the package variables that the reading takes, are together of bulk at most 1048576: NARROWER than '..Said'. Prove '..Said' where nothing that the law and all that it calls make is longer than what came in: it says more and counts as full. Else prove '..UptoSaid'. A law counts once. -/
mutual
def uptoBulk {H : Type} : DataW H → Nat
  | .lit (.string bytes) => bytes.length + 1
  | .lit _ => 1
  | .nil => 1
  | .ptr d => uptoBulk d + 1
  | .slice elems spare => uptoBulkAll elems + uptoBulkAll spare + 1
  | .agg parts => uptoBulkAll parts + 1
  | .iface _ d => uptoBulk d + 1
  | .map entries => uptoBulkEntries entries + 1
  | .held _ => 1
def uptoBulkAll {H : Type} : List (DataW H) → Nat
  | [] => 0
  | d :: r => uptoBulk d + uptoBulkAll r
def uptoBulkEntries {H : Type} : List (Lit × DataW H) → Nat
  | [] => 0
  | x :: r => uptoBulkEntry x + uptoBulkEntries r
def uptoBulkEntry {H : Type} : Lit × DataW H → Nat
  | (.string bytes, d) => bytes.length + uptoBulk d + 1
  | (_, d) => uptoBulk d + 1
 end
def uptoSmall : (H : Type) → List (DataW H) → Bool := fun _ ds => decide (uptoBulkAll ds ≤ 1048576)
def OpenSpec.upto (s : _root_.Go.ChangeSpec) : _root_.Go.OpenSpec := { _root_.Go.OpenSpec.ofChange s with cond := some uptoSmall }

/-- 'laws.FnWorkBack', WHERE WHAT IT READS IS OF BULK AT MOST 1048576: true; the input reads as it did. -/
def fnWorkBackUptoRow : OpenClaim := { program := "ytdnenglafphkbaa", sum := "01b83ab7158f5574aa2422c9c1c28ef40fd447c441ac2e8b00f17d0922f88be9", func := "loop.example/g00040/laws.FnWorkBack", spec := "fnWorkBack", unfollowed := true, recurses := true, plainKeys := false, apart := false, narrowed := true }
def FnWorkBackUptoSaid : Prop := fnWorkBackUptoRow.holds Try.pinned (OpenSpec.upto fnWorkBackSpec)

/-- 'laws.FnExactQtyIn', WHERE WHAT IT READS IS OF BULK AT MOST 1048576: true; the input reads as it did. -/
def fnExactQtyInUptoRow : OpenClaim := { program := "ytdnenglafphkbaa", sum := "01b83ab7158f5574aa2422c9c1c28ef40fd447c441ac2e8b00f17d0922f88be9", func := "loop.example/g00040/laws.FnExactQtyIn", spec := "fnExactQtyIn", plainKeys := false, apart := false, narrowed := true }
def FnExactQtyInUptoSaid : Prop := fnExactQtyInUptoRow.holds Try.pinned (OpenSpec.upto fnExactQtyInSpec)

/-- 'laws.FnExactHold', WHERE WHAT IT READS IS OF BULK AT MOST 1048576: true; the input reads as it did. -/
def fnExactHoldUptoRow : OpenClaim := { program := "ytdnenglafphkbaa", sum := "01b83ab7158f5574aa2422c9c1c28ef40fd447c441ac2e8b00f17d0922f88be9", func := "loop.example/g00040/laws.FnExactHold", spec := "fnExactHold", unfollowed := true, recurses := true, plainKeys := false, apart := false, narrowed := true }
def FnExactHoldUptoSaid : Prop := fnExactHoldUptoRow.holds Try.pinned (OpenSpec.upto fnExactHoldSpec)

/-- 'laws.FnExactShip', WHERE WHAT IT READS IS OF BULK AT MOST 1048576: true; the input reads as it did. -/
def fnExactShipUptoRow : OpenClaim := { program := "ytdnenglafphkbaa", sum := "01b83ab7158f5574aa2422c9c1c28ef40fd447c441ac2e8b00f17d0922f88be9", func := "loop.example/g00040/laws.FnExactShip", spec := "fnExactShip", unfollowed := true, recurses := true, plainKeys := false, apart := false, narrowed := true }
def FnExactShipUptoSaid : Prop := fnExactShipUptoRow.holds Try.pinned (OpenSpec.upto fnExactShipSpec)

/-- 'laws.FnExactMay', WHERE WHAT IT READS IS OF BULK AT MOST 1048576: true; the input reads as it did. -/
def fnExactMayUptoRow : OpenClaim := { program := "ytdnenglafphkbaa", sum := "01b83ab7158f5574aa2422c9c1c28ef40fd447c441ac2e8b00f17d0922f88be9", func := "loop.example/g00040/laws.FnExactMay", spec := "fnExactMay", plainKeys := false, apart := false, narrowed := true }
def FnExactMayUptoSaid : Prop := fnExactMayUptoRow.holds Try.pinned (OpenSpec.upto fnExactMaySpec)

/-- 'laws.FnExactTakeIn', WHERE WHAT IT READS IS OF BULK AT MOST 1048576: true; the input reads as it did. -/
def fnExactTakeInUptoRow : OpenClaim := { program := "ytdnenglafphkbaa", sum := "01b83ab7158f5574aa2422c9c1c28ef40fd447c441ac2e8b00f17d0922f88be9", func := "loop.example/g00040/laws.FnExactTakeIn", spec := "fnExactTakeIn", unfollowed := true, recurses := true, plainKeys := false, apart := false, narrowed := true }
def FnExactTakeInUptoSaid : Prop := fnExactTakeInUptoRow.holds Try.pinned (OpenSpec.upto fnExactTakeInSpec)

end Rows
end Go.Proofs.Ytdnenglafphkbaa
