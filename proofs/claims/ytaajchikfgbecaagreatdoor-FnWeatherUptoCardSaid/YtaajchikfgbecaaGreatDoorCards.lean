/-
  DERIVED. GIVEN WITH THE SEED: THE CARDS: each row of YtaajchikfgbecaaGreatDoorRows.lean that lists a variable, with what it lists TIED to the program's text (the seventh form; the later family's looks); each row that meets fmt, with fmt's text TOLD by the authors' own Lean function (tested against real Go, not proved from fmt's source: count such statements apart). THE CARD IS WHAT COUNTS. Prove the row's statement (the work); the ties are given (YtaajchikfgbecaaGreatDoorTie.lean); close each card by the builder's one call (the guide's Derived/Test/ToyasCard.lean, 'card_holds'). Laid BY PROGRAM, IN A SANDBOX (cutbox-door.mjs). By AI agents, Wed Nov 11 2026. No macro, syntax, notation, axiom, sorry.
-/
import Derived.Test.YtaajchikfgbecaaGreatDoorRows
import GoSem.ClaimSeven
namespace Go.Proofs.YtaajchikfgbecaaGreatDoor
namespace Rows

/-- THE TIED CARD OF 'laws.FnWeather'. -/
def fnWeatherCard : Claim7 := { stood := { row := fnWeatherRow, standIns := [], harness := (true, "4857f556e0281fbaaac1fb0bb9f683d2794c6ccde273f7c0ca2096b7a8a8b2a2"), looks := true }, kinds := [], alts := [], laidByText := true, laidKinds := [.data, .data, .data, .data, .sentinel, .sentinel, .data, .pinned], laidTests := true, laidLooks := .later }
def FnWeatherCardSaid : Prop := Claim7.holds Tryz.pinned (.plain (OpenSpec.ofChange fnWeatherSpec)) fnWeatherCard

/-- THE SECOND FORM's CARD OF 'laws.FnWeather'. -/
def fnWeatherUptoCard : Claim7 := { stood := { row := fnWeatherUptoRow, standIns := [], harness := (true, "4857f556e0281fbaaac1fb0bb9f683d2794c6ccde273f7c0ca2096b7a8a8b2a2"), looks := true }, kinds := [], alts := [], laidByText := true, laidKinds := [.data, .data, .data, .data, .sentinel, .sentinel, .data, .pinned], laidTests := true, laidLooks := .later }
def FnWeatherUptoCardSaid : Prop := Claim7.holds Tryz.pinned (.plain (OpenSpec.upto fnWeatherSpec)) fnWeatherUptoCard
end Rows
end Go.Proofs.YtaajchikfgbecaaGreatDoor
