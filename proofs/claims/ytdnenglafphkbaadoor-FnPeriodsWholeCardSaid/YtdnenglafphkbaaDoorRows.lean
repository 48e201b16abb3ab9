/-
  NARROWER THAN 'FOR EVERY INPUT', by the rows' own cells (each row's printed sentence says how): FnMonthsOn: laid · FnExactPeriods: laid · FnPeriodsWhole: laid.
  DERIVED. THE GIVEN ROWS OF THIS SEAT. 3 by the template 'for every input the law returns true; each argument reads behind the call as it read before'; 0 by the template 'total and deterministic' (their statements: YtdnenglafphkbaaDoorTotals.lean).
  GIVEN WITH THE SEED: the statements are not yours to turn. If you find one false, say at which input.
  Laid BY PROGRAM, IN A SANDBOX (cutbox-rows.mjs): the forced cells as the released guide's own fill.sh prints them over the translation 1d94bfe1f58e03d0… (all of the seat's roots in one cut). By AI agents, Wed Nov 11 2026. No macro, syntax, notation, axiom, sorry.
-/
import Derived.Test.YtdnenglafphkbaaDoorChecked
import GoSem.Claim
import GoSem.ClaimJoined
import GoSem.ClaimMapViews
import Derived.JoinedTies
import Derived.KernelRfl
namespace Go.Proofs.YtdnenglafphkbaaDoor
/- THE CELL 'sum', in the pinned program and in every row, IS THE sha256 OF THE DUMP (.gsa) THAT YtdnenglafphkbaaDoorProg.lean LOADS. Nothing in Lean hashes anything: it is a label: what it is worth is what the hold of that sum in a sandbox is worth. -/
noncomputable def Tryd.pinned : Pinned := { name := "ytdnenglafphkbaadoor", sum := "1d94bfe1f58e03d0ca4b119b325f792090d30d448c56f0abccd19b4f00f5d01b", checked := Tryd.checked }
namespace Rows
def none {H : Type} : Left H := { results := [], args := [] }

/- WHAT THE LISTED PACKAGE-LEVEL VARIABLES READ AS WHEN THE CALL BEGINS. Each datum BY PROGRAM (the guide's laid-datum.mjs) off the statement by which the dump's own 'gosem.cut.vars' lays the variable. In a bare row this is a premise. The card (YtdnenglafphkbaaDoorCards.lean) ties it to the program's text. -/
def laid_loop_example_g00040_impl_monthDays {H : Type} : DataW H := .agg [.lit (.int .i64 0), .lit (.int .i64 31), .lit (.int .i64 28), .lit (.int .i64 31), .lit (.int .i64 30), .lit (.int .i64 31), .lit (.int .i64 30), .lit (.int .i64 31), .lit (.int .i64 31), .lit (.int .i64 30), .lit (.int .i64 31), .lit (.int .i64 30), .lit (.int .i64 31)]

/-- 'laws.FnMonthsOn': WHATEVER THE INPUT: true; the input reads as it did. -/
def fnMonthsOnSpec : ChangeSpec := { name := "fnMonthsOn", vars := ["loop.example/g00040/impl.monthDays"], fn := fun _ => fun
  | [d, g1] => { results := [.lit (.bool true)], args := [d], vars := [g1] }
  | _ => none }
def fnMonthsOnRow : OpenClaim := { program := "ytdnenglafphkbaadoor", sum := "1d94bfe1f58e03d0ca4b119b325f792090d30d448c56f0abccd19b4f00f5d01b", func := "loop.example/g00040/laws.FnMonthsOn", spec := "fnMonthsOn", named := ["loop.example/g00040/impl.monthDays"], apart := false, laid := [("loop.example/g00040/impl.monthDays", laid_loop_example_g00040_impl_monthDays)] }
def FnMonthsOnSaid : Prop := fnMonthsOnRow.holds Tryd.pinned (OpenSpec.ofChange fnMonthsOnSpec)

/-- ITS FALSE NEIGHBOUR: 'it returns false'. Refute it at one input. -/
def fnMonthsOnWrong : ChangeSpec := { name := "fnMonthsOn", vars := ["loop.example/g00040/impl.monthDays"], fn := fun _ => fun
  | [d, g1] => { results := [.lit (.bool false)], args := [d], vars := [g1] }
  | _ => none }
def FnMonthsOnWrongFalsely : Prop := fnMonthsOnRow.holds Tryd.pinned (OpenSpec.ofChange fnMonthsOnWrong)

/-- 'laws.FnExactPeriods': WHATEVER THE INPUT: true; the input reads as it did. -/
def fnExactPeriodsSpec : ChangeSpec := { name := "fnExactPeriods", vars := ["loop.example/g00040/impl.monthDays"], fn := fun _ => fun
  | [d1, d2, d3, g1] => { results := [.lit (.bool true)], args := [d1, d2, d3], vars := [g1] }
  | _ => none }
def fnExactPeriodsRow : OpenClaim := { program := "ytdnenglafphkbaadoor", sum := "1d94bfe1f58e03d0ca4b119b325f792090d30d448c56f0abccd19b4f00f5d01b", func := "loop.example/g00040/laws.FnExactPeriods", spec := "fnExactPeriods", named := ["loop.example/g00040/impl.monthDays"], apart := false, laid := [("loop.example/g00040/impl.monthDays", laid_loop_example_g00040_impl_monthDays)] }
def FnExactPeriodsSaid : Prop := fnExactPeriodsRow.holds Tryd.pinned (OpenSpec.ofChange fnExactPeriodsSpec)

/-- ITS FALSE NEIGHBOUR: 'it returns false'. Refute it at one input. -/
def fnExactPeriodsWrong : ChangeSpec := { name := "fnExactPeriods", vars := ["loop.example/g00040/impl.monthDays"], fn := fun _ => fun
  | [d1, d2, d3, g1] => { results := [.lit (.bool false)], args := [d1, d2, d3], vars := [g1] }
  | _ => none }
def FnExactPeriodsWrongFalsely : Prop := fnExactPeriodsRow.holds Tryd.pinned (OpenSpec.ofChange fnExactPeriodsWrong)

/-- 'laws.FnPeriodsWhole': WHATEVER THE INPUT: true; the input reads as it did. -/
def fnPeriodsWholeSpec : ChangeSpec := { name := "fnPeriodsWhole", vars := ["loop.example/g00040/impl.monthDays"], fn := fun _ => fun
  | [d, g1] => { results := [.lit (.bool true)], args := [d], vars := [g1] }
  | _ => none }
def fnPeriodsWholeRow : OpenClaim := { program := "ytdnenglafphkbaadoor", sum := "1d94bfe1f58e03d0ca4b119b325f792090d30d448c56f0abccd19b4f00f5d01b", func := "loop.example/g00040/laws.FnPeriodsWhole", spec := "fnPeriodsWhole", named := ["loop.example/g00040/impl.monthDays"], apart := false, laid := [("loop.example/g00040/impl.monthDays", laid_loop_example_g00040_impl_monthDays)] }
def FnPeriodsWholeSaid : Prop := fnPeriodsWholeRow.holds Tryd.pinned (OpenSpec.ofChange fnPeriodsWholeSpec)

/-- ITS FALSE NEIGHBOUR: 'it returns false'. Refute it at one input. -/
def fnPeriodsWholeWrong : ChangeSpec := { name := "fnPeriodsWhole", vars := ["loop.example/g00040/impl.monthDays"], fn := fun _ => fun
  | [d, g1] => { results := [.lit (.bool false)], args := [d], vars := [g1] }
  | _ => none }
def FnPeriodsWholeWrongFalsely : Prop := fnPeriodsWholeRow.holds Tryd.pinned (OpenSpec.ofChange fnPeriodsWholeWrong)

/- THE SECOND FORM. 'bulk': how many values and letters a reading holds, each counted each time it is reached (what is shared counts as often as it is met; a slice's spare places count too). A statement '..UptoSaid' is the law's where the arguments, and the package variables that the reading takes, are together of bulk at most 1048576: NARROWER than '..Said'. Prove '..Said' where nothing that the law and all that it calls make is longer than what came in: it says more and counts as full. Else prove '..UptoSaid'. A law counts once. -/
mutual
def uptoBulk {H : Type} : DataW H → Nat
  | .lit (.string bytes) => bytes.length + 1
  | .lit _ => 1
  | .nil => 1
  | .ptr d => uptoBulk d + 1
  | .slice elems spare => uptoBulkAll elems + uptoBulkAll spare + 1
  | .agg parts => uptoBulkAll parts + 1
  | .iface _ d => uptoBulk d + 1
  | .map entries => uptoBulkEntries entries + 1
  | .held _ => 1
def uptoBulkAll {H : Type} : List (DataW H) → Nat
  | [] => 0
  | d :: r => uptoBulk d + uptoBulkAll r
def uptoBulkEntries {H : Type} : List (Lit × DataW H) → Nat
  | [] => 0
  | x :: r => uptoBulkEntry x + uptoBulkEntries r
def uptoBulkEntry {H : Type} : Lit × DataW H → Nat
  | (.string bytes, d) => bytes.length + uptoBulk d + 1
  | (_, d) => uptoBulk d + 1
 end
def uptoSmall : (H : Type) → List (DataW H) → Bool := fun _ ds => decide (uptoBulkAll ds ≤ 1048576)
def OpenSpec.upto (s : _root_.Go.ChangeSpec) : _root_.Go.OpenSpec := { _root_.Go.OpenSpec.ofChange s with cond := some uptoSmall }

/-- 'laws.FnMonthsOn', WHERE WHAT IT READS IS OF BULK AT MOST 1048576: true; the input reads as it did. -/
def fnMonthsOnUptoRow : OpenClaim := { program := "ytdnenglafphkbaadoor", sum := "1d94bfe1f58e03d0ca4b119b325f792090d30d448c56f0abccd19b4f00f5d01b", func := "loop.example/g00040/laws.FnMonthsOn", spec := "fnMonthsOn", named := ["loop.example/g00040/impl.monthDays"], apart := false, laid := [("loop.example/g00040/impl.monthDays", laid_loop_example_g00040_impl_monthDays)], narrowed := true }
def FnMonthsOnUptoSaid : Prop := fnMonthsOnUptoRow.holds Tryd.pinned (OpenSpec.upto fnMonthsOnSpec)

/-- 'laws.FnExactPeriods', WHERE WHAT IT READS IS OF BULK AT MOST 1048576: true; the input reads as it did. -/
def fnExactPeriodsUptoRow : OpenClaim := { program := "ytdnenglafphkbaadoor", sum := "1d94bfe1f58e03d0ca4b119b325f792090d30d448c56f0abccd19b4f00f5d01b", func := "loop.example/g00040/laws.FnExactPeriods", spec := "fnExactPeriods", named := ["loop.example/g00040/impl.monthDays"], apart := false, laid := [("loop.example/g00040/impl.monthDays", laid_loop_example_g00040_impl_monthDays)], narrowed := true }
def FnExactPeriodsUptoSaid : Prop := fnExactPeriodsUptoRow.holds Tryd.pinned (OpenSpec.upto fnExactPeriodsSpec)

/-- 'laws.FnPeriodsWhole', WHERE WHAT IT READS IS OF BULK AT MOST 1048576: true; the input reads as it did. -/
def fnPeriodsWholeUptoRow : OpenClaim := { program := "ytdnenglafphkbaadoor", sum := "1d94bfe1f58e03d0ca4b119b325f792090d30d448c56f0abccd19b4f00f5d01b", func := "loop.example/g00040/laws.FnPeriodsWhole", spec := "fnPeriodsWhole", named := ["loop.example/g00040/impl.monthDays"], apart := false, laid := [("loop.example/g00040/impl.monthDays", laid_loop_example_g00040_impl_monthDays)], narrowed := true }
def FnPeriodsWholeUptoSaid : Prop := fnPeriodsWholeUptoRow.holds Tryd.pinned (OpenSpec.upto fnPeriodsWholeSpec)

end Rows
end Go.Proofs.YtdnenglafphkbaaDoor
