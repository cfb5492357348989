/-
  DERIVED. GIVEN WITH THE SEED: THE CARDS: each row of YtbjhcjhkmppocaaDoorRows.lean that lists a variable, with what it lists TIED to the program's text (the seventh form; the later family's looks); each row that meets fmt, with fmt's text TOLD by the authors' own Lean function (tested against real Go, not proved from fmt's source: count such statements apart). THE CARD IS WHAT COUNTS. Prove the row's statement (the work); the ties are given (YtbjhcjhkmppocaaDoorTie.lean); close each card by the builder's one call (the guide's Derived/Test/ToyasCard.lean, 'card_holds'). Laid BY PROGRAM, IN A SANDBOX (cutbox-door.mjs). By AI agents, Wed Nov 11 2026. No macro, syntax, notation, axiom, sorry.
-/
import Derived.Test.YtbjhcjhkmppocaaDoorRows
import GoSem.ClaimSeven
namespace Go.Proofs.YtbjhcjhkmppocaaDoor
namespace Rows

/-- THE TIED CARD OF 'laws.FnGripWays'. -/
def fnGripWaysCard : Claim7 := { stood := { row := fnGripWaysRow, standIns := [], harness := (true, "6a86f3e257d4e5050ec134a827062d10e562e7549ac05bafbd4cb2e7ab693f5a"), looks := true }, kinds := [], alts := [], laidByText := true, laidKinds := [.data, .data, .data, .sentinel, .sentinel, .widerDeep, .widerDeep], laidTests := true, laidLooks := .later }
def FnGripWaysCardSaid : Prop := Claim7.holds Tryd.pinned (.plain (OpenSpec.ofChange fnGripWaysSpec)) fnGripWaysCard

/-- THE SECOND FORM's CARD OF 'laws.FnGripWays'. -/
def fnGripWaysUptoCard : Claim7 := { stood := { row := fnGripWaysUptoRow, standIns := [], harness := (true, "6a86f3e257d4e5050ec134a827062d10e562e7549ac05bafbd4cb2e7ab693f5a"), looks := true }, kinds := [], alts := [], laidByText := true, laidKinds := [.data, .data, .data, .sentinel, .sentinel, .widerDeep, .widerDeep], laidTests := true, laidLooks := .later }
def FnGripWaysUptoCardSaid : Prop := Claim7.holds Tryd.pinned (.plain (OpenSpec.upto fnGripWaysSpec)) fnGripWaysUptoCard
end Rows
end Go.Proofs.YtbjhcjhkmppocaaDoor
