/-
  DERIVED. GIVEN WITH THE SEED: THE CARDS: each row of YtjpnifmbgemibaaDoorRows.lean that lists a variable, with what it lists TIED to the program's text (the seventh form; the later family's looks); each row that meets fmt, with fmt's text TOLD by the authors' own Lean function (tested against real Go, not proved from fmt's source: count such statements apart). THE CARD IS WHAT COUNTS. Prove the row's statement (the work); the ties are given (YtjpnifmbgemibaaDoorTie.lean); close each card by the builder's one call (the guide's Derived/Test/ToyasCard.lean, 'card_holds'). Laid BY PROGRAM, IN A SANDBOX (cutbox-door.mjs). By AI agents, Wed Nov 11 2026. No macro, syntax, notation, axiom, sorry.
-/
import Derived.Test.YtjpnifmbgemibaaDoorRows
import GoSem.ClaimSeven
namespace Go.Proofs.YtjpnifmbgemibaaDoor
namespace Rows

/-- THE TIED CARD OF 'laws.FnDayRows'. -/
def fnDayRowsCard : Claim7 := { stood := { row := fnDayRowsRow, standIns := [], harness := (true, "9c905d253c3712d54c9f069c214c3565f5990f3e201abcde40f3971ba9ff16d8"), looks := true }, kinds := [], alts := [], laidByText := true, laidKinds := [.data, .data, .data, .data, .sentinel, .sentinel, .pinned], laidTests := true, laidLooks := .later }
def FnDayRowsCardSaid : Prop := Claim7.holds Tryd.pinned (.plain (OpenSpec.ofChange fnDayRowsSpec)) fnDayRowsCard

/-- THE SECOND FORM's CARD OF 'laws.FnDayRows'. -/
def fnDayRowsUptoCard : Claim7 := { stood := { row := fnDayRowsUptoRow, standIns := [], harness := (true, "9c905d253c3712d54c9f069c214c3565f5990f3e201abcde40f3971ba9ff16d8"), looks := true }, kinds := [], alts := [], laidByText := true, laidKinds := [.data, .data, .data, .data, .sentinel, .sentinel, .pinned], laidTests := true, laidLooks := .later }
def FnDayRowsUptoCardSaid : Prop := Claim7.holds Tryd.pinned (.plain (OpenSpec.upto fnDayRowsSpec)) fnDayRowsUptoCard
end Rows
end Go.Proofs.YtjpnifmbgemibaaDoor
