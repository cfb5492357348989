/-
  DERIVED. GIVEN WITH THE SEED: THE CARDS: each row of YtpmmaohaahbphaaDoorRows.lean that lists a variable, with what it lists TIED to the program's text (the seventh form; the later family's looks); each row that meets fmt, with fmt's text TOLD by the authors' own Lean function (tested against real Go, not proved from fmt's source: count such statements apart). THE CARD IS WHAT COUNTS. Prove the row's statement (the work); the ties are given (YtpmmaohaahbphaaDoorTie.lean); close each card by the builder's one call (the guide's Derived/Test/ToyasCard.lean, 'card_holds'). Laid BY PROGRAM, IN A SANDBOX (cutbox-door.mjs). By AI agents, Wed Nov 11 2026. No macro, syntax, notation, axiom, sorry.
-/
import Derived.Test.YtpmmaohaahbphaaDoorRows
import GoSem.ClaimSeven
namespace Go.Proofs.YtpmmaohaahbphaaDoor
namespace Rows

/-- THE TIED CARD OF 'laws.FnInspections'. -/
def fnInspectionsCard : Claim7 := { stood := { row := fnInspectionsRow, standIns := [], harness := (true, "c60c2144116a49e80636fade673a06c3256a479d6ed5ded8309492a6dd9445f5"), looks := false }, kinds := [], alts := [], laidByText := true, laidKinds := [.data, .data, .data], laidTests := true, laidLooks := .later }
def FnInspectionsCardSaid : Prop := Claim7.holds Tryd.pinned (.plain (OpenSpec.ofChange fnInspectionsSpec)) fnInspectionsCard

/-- THE SECOND FORM's CARD OF 'laws.FnInspections'. -/
def fnInspectionsUptoCard : Claim7 := { stood := { row := fnInspectionsUptoRow, standIns := [], harness := (true, "c60c2144116a49e80636fade673a06c3256a479d6ed5ded8309492a6dd9445f5"), looks := false }, kinds := [], alts := [], laidByText := true, laidKinds := [.data, .data, .data], laidTests := true, laidLooks := .later }
def FnInspectionsUptoCardSaid : Prop := Claim7.holds Tryd.pinned (.plain (OpenSpec.upto fnInspectionsSpec)) fnInspectionsUptoCard
end Rows
end Go.Proofs.YtpmmaohaahbphaaDoor
