/-
  DERIVED. GIVEN WITH THE SEED: THE CARDS: each row of YteckiilljhdkpaaDoorRows.lean that lists a variable, with what it lists TIED to the program's text (the seventh form; the later family's looks); each row that meets fmt, with fmt's text TOLD by the authors' own Lean function (tested against real Go, not proved from fmt's source: count such statements apart). THE CARD IS WHAT COUNTS. Prove the row's statement (the work); the ties are given (YteckiilljhdkpaaDoorTie.lean); close each card by the builder's one call (the guide's Derived/Test/ToyasCard.lean, 'card_holds'). Laid BY PROGRAM, IN A SANDBOX (cutbox-door.mjs). By AI agents, Wed Nov 11 2026. No macro, syntax, notation, axiom, sorry.
-/
import Derived.Test.YteckiilljhdkpaaDoorRows
import GoSem.ClaimSeven
namespace Go.Proofs.YteckiilljhdkpaaDoor
namespace Rows

/-- THE TIED CARD OF 'laws.FnExactDayLine'. -/
def fnExactDayLineCard : Claim7 := { stood := { row := fnExactDayLineRow, standIns := [], harness := (true, "17b921a3f2ea57cb41c3030bc31be03040394a1a1803516ddaaa3ff34b7c9fea"), looks := false }, kinds := [], alts := [], laidByText := true, laidKinds := [.data, .data, .data], laidTests := true, laidLooks := .later }
def FnExactDayLineCardSaid : Prop := Claim7.holds Tryd.pinned (.plain (OpenSpec.ofChange fnExactDayLineSpec)) fnExactDayLineCard

/-- THE TIED CARD OF 'laws.FnExactWeekText'. -/
def fnExactWeekTextCard : Claim7 := { stood := { row := fnExactWeekTextRow, standIns := [], harness := (true, "17b921a3f2ea57cb41c3030bc31be03040394a1a1803516ddaaa3ff34b7c9fea"), looks := false }, kinds := [], alts := [], laidByText := true, laidKinds := [.data, .data, .data], laidTests := true, laidLooks := .later }
def FnExactWeekTextCardSaid : Prop := Claim7.holds Tryd.pinned (.plain (OpenSpec.ofChange fnExactWeekTextSpec)) fnExactWeekTextCard

/-- THE TIED CARD OF 'laws.FnExactPossibleKinds'. -/
def fnExactPossibleKindsCard : Claim7 := { stood := { row := fnExactPossibleKindsRow, standIns := [], harness := (true, "17b921a3f2ea57cb41c3030bc31be03040394a1a1803516ddaaa3ff34b7c9fea"), looks := false }, kinds := [], alts := [], laidByText := true, laidKinds := [.widerDeep], laidTests := true, laidLooks := .later }
def FnExactPossibleKindsCardSaid : Prop := Claim7.holds Tryd.pinned (.plain (OpenSpec.ofChange fnExactPossibleKindsSpec)) fnExactPossibleKindsCard

/-- THE TIED CARD OF 'laws.FnExactStepPlatform'. -/
def fnExactStepPlatformCard : Claim7 := { stood := { row := fnExactStepPlatformRow, standIns := [], harness := (true, "17b921a3f2ea57cb41c3030bc31be03040394a1a1803516ddaaa3ff34b7c9fea"), looks := false }, kinds := [], alts := [], laidByText := true, laidKinds := [.widerDeep], laidTests := true, laidLooks := .later }
def FnExactStepPlatformCardSaid : Prop := Claim7.holds Tryd.pinned (.plain (OpenSpec.ofChange fnExactStepPlatformSpec)) fnExactStepPlatformCard

/-- THE TIED CARD OF 'laws.FnExactRunPlatform'. -/
def fnExactRunPlatformCard : Claim7 := { stood := { row := fnExactRunPlatformRow, standIns := [], harness := (true, "17b921a3f2ea57cb41c3030bc31be03040394a1a1803516ddaaa3ff34b7c9fea"), looks := false }, kinds := [], alts := [], laidByText := true, laidKinds := [.widerDeep], laidTests := true, laidLooks := .later }
def FnExactRunPlatformCardSaid : Prop := Claim7.holds Tryd.pinned (.plain (OpenSpec.ofChange fnExactRunPlatformSpec)) fnExactRunPlatformCard

/-- THE TIED CARD OF 'laws.FnBoarding'. -/
def fnBoardingCard : Claim7 := { stood := { row := fnBoardingRow, standIns := [], harness := (true, "17b921a3f2ea57cb41c3030bc31be03040394a1a1803516ddaaa3ff34b7c9fea"), looks := false }, kinds := [], alts := [], laidByText := true, laidKinds := [.widerDeep], laidTests := true, laidLooks := .later }
def FnBoardingCardSaid : Prop := Claim7.holds Tryd.pinned (.plain (OpenSpec.ofChange fnBoardingSpec)) fnBoardingCard

/-- THE TIED CARD OF 'laws.FnExactQuickestGo'. -/
def fnExactQuickestGoCard : Claim7 := { stood := { row := fnExactQuickestGoRow, standIns := [], harness := (true, "17b921a3f2ea57cb41c3030bc31be03040394a1a1803516ddaaa3ff34b7c9fea"), looks := false }, kinds := [], alts := [], laidByText := true, laidKinds := [.widerDeep], laidTests := true, laidLooks := .later }
def FnExactQuickestGoCardSaid : Prop := Claim7.holds Tryd.pinned (.plain (OpenSpec.ofChange fnExactQuickestGoSpec)) fnExactQuickestGoCard

/-- THE TIED CARD OF 'laws.FnQuickest'. -/
def fnQuickestCard : Claim7 := { stood := { row := fnQuickestRow, standIns := [], harness := (true, "17b921a3f2ea57cb41c3030bc31be03040394a1a1803516ddaaa3ff34b7c9fea"), looks := false }, kinds := [], alts := [], laidByText := true, laidKinds := [.data, .data, .data, .widerDeep], laidTests := true, laidLooks := .later }
def FnQuickestCardSaid : Prop := Claim7.holds Tryd.pinned (.plain (OpenSpec.ofChange fnQuickestSpec)) fnQuickestCard

/-- THE SECOND FORM's CARD OF 'laws.FnExactDayLine'. -/
def fnExactDayLineUptoCard : Claim7 := { stood := { row := fnExactDayLineUptoRow, standIns := [], harness := (true, "17b921a3f2ea57cb41c3030bc31be03040394a1a1803516ddaaa3ff34b7c9fea"), looks := false }, kinds := [], alts := [], laidByText := true, laidKinds := [.data, .data, .data], laidTests := true, laidLooks := .later }
def FnExactDayLineUptoCardSaid : Prop := Claim7.holds Tryd.pinned (.plain (OpenSpec.upto fnExactDayLineSpec)) fnExactDayLineUptoCard

/-- THE SECOND FORM's CARD OF 'laws.FnExactWeekText'. -/
def fnExactWeekTextUptoCard : Claim7 := { stood := { row := fnExactWeekTextUptoRow, standIns := [], harness := (true, "17b921a3f2ea57cb41c3030bc31be03040394a1a1803516ddaaa3ff34b7c9fea"), looks := false }, kinds := [], alts := [], laidByText := true, laidKinds := [.data, .data, .data], laidTests := true, laidLooks := .later }
def FnExactWeekTextUptoCardSaid : Prop := Claim7.holds Tryd.pinned (.plain (OpenSpec.upto fnExactWeekTextSpec)) fnExactWeekTextUptoCard

/-- THE SECOND FORM's CARD OF 'laws.FnExactPossibleKinds'. -/
def fnExactPossibleKindsUptoCard : Claim7 := { stood := { row := fnExactPossibleKindsUptoRow, standIns := [], harness := (true, "17b921a3f2ea57cb41c3030bc31be03040394a1a1803516ddaaa3ff34b7c9fea"), looks := false }, kinds := [], alts := [], laidByText := true, laidKinds := [.widerDeep], laidTests := true, laidLooks := .later }
def FnExactPossibleKindsUptoCardSaid : Prop := Claim7.holds Tryd.pinned (.plain (OpenSpec.upto fnExactPossibleKindsSpec)) fnExactPossibleKindsUptoCard

/-- THE SECOND FORM's CARD OF 'laws.FnExactStepPlatform'. -/
def fnExactStepPlatformUptoCard : Claim7 := { stood := { row := fnExactStepPlatformUptoRow, standIns := [], harness := (true, "17b921a3f2ea57cb41c3030bc31be03040394a1a1803516ddaaa3ff34b7c9fea"), looks := false }, kinds := [], alts := [], laidByText := true, laidKinds := [.widerDeep], laidTests := true, laidLooks := .later }
def FnExactStepPlatformUptoCardSaid : Prop := Claim7.holds Tryd.pinned (.plain (OpenSpec.upto fnExactStepPlatformSpec)) fnExactStepPlatformUptoCard

/-- THE SECOND FORM's CARD OF 'laws.FnExactRunPlatform'. -/
def fnExactRunPlatformUptoCard : Claim7 := { stood := { row := fnExactRunPlatformUptoRow, standIns := [], harness := (true, "17b921a3f2ea57cb41c3030bc31be03040394a1a1803516ddaaa3ff34b7c9fea"), looks := false }, kinds := [], alts := [], laidByText := true, laidKinds := [.widerDeep], laidTests := true, laidLooks := .later }
def FnExactRunPlatformUptoCardSaid : Prop := Claim7.holds Tryd.pinned (.plain (OpenSpec.upto fnExactRunPlatformSpec)) fnExactRunPlatformUptoCard

/-- THE SECOND FORM's CARD OF 'laws.FnBoarding'. -/
def fnBoardingUptoCard : Claim7 := { stood := { row := fnBoardingUptoRow, standIns := [], harness := (true, "17b921a3f2ea57cb41c3030bc31be03040394a1a1803516ddaaa3ff34b7c9fea"), looks := false }, kinds := [], alts := [], laidByText := true, laidKinds := [.widerDeep], laidTests := true, laidLooks := .later }
def FnBoardingUptoCardSaid : Prop := Claim7.holds Tryd.pinned (.plain (OpenSpec.upto fnBoardingSpec)) fnBoardingUptoCard

/-- THE SECOND FORM's CARD OF 'laws.FnExactQuickestGo'. -/
def fnExactQuickestGoUptoCard : Claim7 := { stood := { row := fnExactQuickestGoUptoRow, standIns := [], harness := (true, "17b921a3f2ea57cb41c3030bc31be03040394a1a1803516ddaaa3ff34b7c9fea"), looks := false }, kinds := [], alts := [], laidByText := true, laidKinds := [.widerDeep], laidTests := true, laidLooks := .later }
def FnExactQuickestGoUptoCardSaid : Prop := Claim7.holds Tryd.pinned (.plain (OpenSpec.upto fnExactQuickestGoSpec)) fnExactQuickestGoUptoCard

/-- THE SECOND FORM's CARD OF 'laws.FnQuickest'. -/
def fnQuickestUptoCard : Claim7 := { stood := { row := fnQuickestUptoRow, standIns := [], harness := (true, "17b921a3f2ea57cb41c3030bc31be03040394a1a1803516ddaaa3ff34b7c9fea"), looks := false }, kinds := [], alts := [], laidByText := true, laidKinds := [.data, .data, .data, .widerDeep], laidTests := true, laidLooks := .later }
def FnQuickestUptoCardSaid : Prop := Claim7.holds Tryd.pinned (.plain (OpenSpec.upto fnQuickestSpec)) fnQuickestUptoCard
end Rows
end Go.Proofs.YteckiilljhdkpaaDoor
