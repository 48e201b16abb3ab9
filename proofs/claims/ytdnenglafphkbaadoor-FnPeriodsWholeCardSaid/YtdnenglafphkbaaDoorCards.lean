/-
  DERIVED. GIVEN WITH THE SEED: THE CARDS: each row of YtdnenglafphkbaaDoorRows.lean that lists a variable, with what it lists TIED to the program's text (the seventh form; the later family's looks); each row that meets fmt, with fmt's text TOLD by the authors' own Lean function (tested against real Go, not proved from fmt's source: count such statements apart). THE CARD IS WHAT COUNTS. Prove the row's statement (the work); the ties are given (YtdnenglafphkbaaDoorTie.lean); close each card by the builder's one call (the guide's Derived/Test/ToyasCard.lean, 'card_holds'). Laid BY PROGRAM, IN A SANDBOX (cutbox-door.mjs). By AI agents, Wed Nov 11 2026. No macro, syntax, notation, axiom, sorry.
-/
import Derived.Test.YtdnenglafphkbaaDoorRows
import GoSem.ClaimSeven
namespace Go.Proofs.YtdnenglafphkbaaDoor
namespace Rows

/-- THE TIED CARD OF 'laws.FnMonthsOn'. -/
def fnMonthsOnCard : Claim7 := { stood := { row := fnMonthsOnRow, standIns := [], harness := (true, "5b28d5101c808eaac6dbe877e3fa221cbeb7971b733df2263dc2121e151f1fcd"), looks := false }, kinds := [], alts := [], laidByText := true, laidKinds := [.data], laidTests := true, laidLooks := .later }
def FnMonthsOnCardSaid : Prop := Claim7.holds Tryd.pinned (.plain (OpenSpec.ofChange fnMonthsOnSpec)) fnMonthsOnCard

/-- THE TIED CARD OF 'laws.FnExactPeriods'. -/
def fnExactPeriodsCard : Claim7 := { stood := { row := fnExactPeriodsRow, standIns := [], harness := (true, "5b28d5101c808eaac6dbe877e3fa221cbeb7971b733df2263dc2121e151f1fcd"), looks := false }, kinds := [], alts := [], laidByText := true, laidKinds := [.data], laidTests := true, laidLooks := .later }
def FnExactPeriodsCardSaid : Prop := Claim7.holds Tryd.pinned (.plain (OpenSpec.ofChange fnExactPeriodsSpec)) fnExactPeriodsCard

/-- THE TIED CARD OF 'laws.FnPeriodsWhole'. -/
def fnPeriodsWholeCard : Claim7 := { stood := { row := fnPeriodsWholeRow, standIns := [], harness := (true, "5b28d5101c808eaac6dbe877e3fa221cbeb7971b733df2263dc2121e151f1fcd"), looks := false }, kinds := [], alts := [], laidByText := true, laidKinds := [.data], laidTests := true, laidLooks := .later }
def FnPeriodsWholeCardSaid : Prop := Claim7.holds Tryd.pinned (.plain (OpenSpec.ofChange fnPeriodsWholeSpec)) fnPeriodsWholeCard

/-- THE SECOND FORM's CARD OF 'laws.FnMonthsOn'. -/
def fnMonthsOnUptoCard : Claim7 := { stood := { row := fnMonthsOnUptoRow, standIns := [], harness := (true, "5b28d5101c808eaac6dbe877e3fa221cbeb7971b733df2263dc2121e151f1fcd"), looks := false }, kinds := [], alts := [], laidByText := true, laidKinds := [.data], laidTests := true, laidLooks := .later }
def FnMonthsOnUptoCardSaid : Prop := Claim7.holds Tryd.pinned (.plain (OpenSpec.upto fnMonthsOnSpec)) fnMonthsOnUptoCard

/-- THE SECOND FORM's CARD OF 'laws.FnExactPeriods'. -/
def fnExactPeriodsUptoCard : Claim7 := { stood := { row := fnExactPeriodsUptoRow, standIns := [], harness := (true, "5b28d5101c808eaac6dbe877e3fa221cbeb7971b733df2263dc2121e151f1fcd"), looks := false }, kinds := [], alts := [], laidByText := true, laidKinds := [.data], laidTests := true, laidLooks := .later }
def FnExactPeriodsUptoCardSaid : Prop := Claim7.holds Tryd.pinned (.plain (OpenSpec.upto fnExactPeriodsSpec)) fnExactPeriodsUptoCard

/-- THE SECOND FORM's CARD OF 'laws.FnPeriodsWhole'. -/
def fnPeriodsWholeUptoCard : Claim7 := { stood := { row := fnPeriodsWholeUptoRow, standIns := [], harness := (true, "5b28d5101c808eaac6dbe877e3fa221cbeb7971b733df2263dc2121e151f1fcd"), looks := false }, kinds := [], alts := [], laidByText := true, laidKinds := [.data], laidTests := true, laidLooks := .later }
def FnPeriodsWholeUptoCardSaid : Prop := Claim7.holds Tryd.pinned (.plain (OpenSpec.upto fnPeriodsWholeSpec)) fnPeriodsWholeUptoCard
end Rows
end Go.Proofs.YtdnenglafphkbaaDoor
