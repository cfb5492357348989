/-
  DERIVED. GIVEN WITH THE SEED: THE CARDS: each row of YtppiaacfnoifkaaDoorRows.lean that lists a variable, with what it lists TIED to the program's text (the seventh form; the later family's looks); each row that meets fmt, with fmt's text TOLD by the authors' own Lean function (tested against real Go, not proved from fmt's source: count such statements apart). THE CARD IS WHAT COUNTS. Prove the row's statement (the work); the ties are given (YtppiaacfnoifkaaDoorTie.lean); close each card by the builder's one call (the guide's Derived/Test/ToyasCard.lean, 'card_holds'). Laid BY PROGRAM, IN A SANDBOX (cutbox-door.mjs). By AI agents, Wed Nov 11 2026. No macro, syntax, notation, axiom, sorry.
-/
import Derived.Test.YtppiaacfnoifkaaDoorRows
import GoSem.ClaimSeven
namespace Go.Proofs.YtppiaacfnoifkaaDoor
namespace Rows

/-- THE TIED CARD OF 'laws.FnExactCrashLog'. -/
def fnExactCrashLogCard : Claim7 := { stood := { row := fnExactCrashLogRow, standIns := [], harness := (true, "0c0f273ac2fd8c00ab7351c4e62d125a65d605c9f88df0e55a414e2d62703eda"), looks := true }, kinds := [], alts := [], laidByText := true, laidKinds := [.data, .data, .data], laidTests := true, laidLooks := .later }
def FnExactCrashLogCardSaid : Prop := Claim7.holds Tryd.pinned (.plain (OpenSpec.ofChange fnExactCrashLogSpec)) fnExactCrashLogCard

/-- THE TIED CARD OF 'laws.FnCrashRecovery'. -/
def fnCrashRecoveryCard : Claim7 := { stood := { row := fnCrashRecoveryRow, standIns := [], harness := (true, "0c0f273ac2fd8c00ab7351c4e62d125a65d605c9f88df0e55a414e2d62703eda"), looks := true }, kinds := [], alts := [], laidByText := true, laidKinds := [.data, .data, .data], laidTests := true, laidLooks := .later }
def FnCrashRecoveryCardSaid : Prop := Claim7.holds Tryd.pinned (.plain (OpenSpec.ofChange fnCrashRecoverySpec)) fnCrashRecoveryCard

/-- THE TIED CARD OF 'laws.FnInspections'. -/
def fnInspectionsCard : Claim7 := { stood := { row := fnInspectionsRow, standIns := [], harness := (true, "0c0f273ac2fd8c00ab7351c4e62d125a65d605c9f88df0e55a414e2d62703eda"), looks := true }, kinds := [], alts := [], laidByText := true, laidKinds := [.data, .data, .data], laidTests := true, laidLooks := .later }
def FnInspectionsCardSaid : Prop := Claim7.holds Tryd.pinned (.plain (OpenSpec.ofChange fnInspectionsSpec)) fnInspectionsCard

/-- THE TIED CARD OF 'laws.FnExactParseDayLine'. -/
def fnExactParseDayLineCard : Claim7 := { stood := { row := fnExactParseDayLineRow, standIns := [], harness := (true, "0c0f273ac2fd8c00ab7351c4e62d125a65d605c9f88df0e55a414e2d62703eda"), looks := true }, kinds := [], alts := [], laidByText := true, laidKinds := [.data, .data, .data, .data, .sentinel, .sentinel, .pinned], laidTests := true, laidLooks := .later }
def FnExactParseDayLineCardSaid : Prop := Claim7.holds Tryd.pinned (.plain (OpenSpec.ofChange fnExactParseDayLineSpec)) fnExactParseDayLineCard

/-- THE TIED CARD OF 'laws.FnDayRows'. -/
def fnDayRowsCard : Claim7 := { stood := { row := fnDayRowsRow, standIns := [], harness := (true, "0c0f273ac2fd8c00ab7351c4e62d125a65d605c9f88df0e55a414e2d62703eda"), looks := true }, kinds := [], alts := [], laidByText := true, laidKinds := [.data, .data, .data, .data, .sentinel, .sentinel, .pinned], laidTests := true, laidLooks := .later }
def FnDayRowsCardSaid : Prop := Claim7.holds Tryd.pinned (.plain (OpenSpec.ofChange fnDayRowsSpec)) fnDayRowsCard

/-- THE SECOND FORM's CARD OF 'laws.FnExactCrashLog'. -/
def fnExactCrashLogUptoCard : Claim7 := { stood := { row := fnExactCrashLogUptoRow, standIns := [], harness := (true, "0c0f273ac2fd8c00ab7351c4e62d125a65d605c9f88df0e55a414e2d62703eda"), looks := true }, kinds := [], alts := [], laidByText := true, laidKinds := [.data, .data, .data], laidTests := true, laidLooks := .later }
def FnExactCrashLogUptoCardSaid : Prop := Claim7.holds Tryd.pinned (.plain (OpenSpec.upto fnExactCrashLogSpec)) fnExactCrashLogUptoCard

/-- THE SECOND FORM's CARD OF 'laws.FnCrashRecovery'. -/
def fnCrashRecoveryUptoCard : Claim7 := { stood := { row := fnCrashRecoveryUptoRow, standIns := [], harness := (true, "0c0f273ac2fd8c00ab7351c4e62d125a65d605c9f88df0e55a414e2d62703eda"), looks := true }, kinds := [], alts := [], laidByText := true, laidKinds := [.data, .data, .data], laidTests := true, laidLooks := .later }
def FnCrashRecoveryUptoCardSaid : Prop := Claim7.holds Tryd.pinned (.plain (OpenSpec.upto fnCrashRecoverySpec)) fnCrashRecoveryUptoCard

/-- THE SECOND FORM's CARD OF 'laws.FnInspections'. -/
def fnInspectionsUptoCard : Claim7 := { stood := { row := fnInspectionsUptoRow, standIns := [], harness := (true, "0c0f273ac2fd8c00ab7351c4e62d125a65d605c9f88df0e55a414e2d62703eda"), looks := true }, kinds := [], alts := [], laidByText := true, laidKinds := [.data, .data, .data], laidTests := true, laidLooks := .later }
def FnInspectionsUptoCardSaid : Prop := Claim7.holds Tryd.pinned (.plain (OpenSpec.upto fnInspectionsSpec)) fnInspectionsUptoCard

/-- THE SECOND FORM's CARD OF 'laws.FnExactParseDayLine'. -/
def fnExactParseDayLineUptoCard : Claim7 := { stood := { row := fnExactParseDayLineUptoRow, standIns := [], harness := (true, "0c0f273ac2fd8c00ab7351c4e62d125a65d605c9f88df0e55a414e2d62703eda"), looks := true }, kinds := [], alts := [], laidByText := true, laidKinds := [.data, .data, .data, .data, .sentinel, .sentinel, .pinned], laidTests := true, laidLooks := .later }
def FnExactParseDayLineUptoCardSaid : Prop := Claim7.holds Tryd.pinned (.plain (OpenSpec.upto fnExactParseDayLineSpec)) fnExactParseDayLineUptoCard

/-- THE SECOND FORM's CARD OF 'laws.FnDayRows'. -/
def fnDayRowsUptoCard : Claim7 := { stood := { row := fnDayRowsUptoRow, standIns := [], harness := (true, "0c0f273ac2fd8c00ab7351c4e62d125a65d605c9f88df0e55a414e2d62703eda"), looks := true }, kinds := [], alts := [], laidByText := true, laidKinds := [.data, .data, .data, .data, .sentinel, .sentinel, .pinned], laidTests := true, laidLooks := .later }
def FnDayRowsUptoCardSaid : Prop := Claim7.holds Tryd.pinned (.plain (OpenSpec.upto fnDayRowsSpec)) fnDayRowsUptoCard
end Rows
end Go.Proofs.YtppiaacfnoifkaaDoor
