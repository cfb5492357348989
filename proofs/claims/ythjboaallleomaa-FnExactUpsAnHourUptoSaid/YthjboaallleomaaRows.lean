/-
  No cell of these rows narrows 'for every input' (looked for: loops, veiled, ifaces, maps, wideKeys, modest, calm, conditions, laid).
  DERIVED. THE GIVEN ROWS OF THIS SEAT. 8 by the template 'for every input the law returns true; each argument reads behind the call as it read before'; 0 by the template 'total and deterministic' (their statements: YthjboaallleomaaTotals.lean).
  GIVEN WITH THE SEED: the statements are not yours to turn. If you find one false, say at which input.
  Laid BY PROGRAM, IN A SANDBOX (cutbox-rows.mjs): the forced cells as the released guide's own fill.sh prints them over the translation c86066b3bc47ae13… (all of the seat's roots in one cut). By AI agents, Wed Nov 11 2026. No macro, syntax, notation, axiom, sorry.
-/
import Derived.Test.YthjboaallleomaaChecked
import GoSem.Claim
import GoSem.ClaimJoined
import GoSem.ClaimMapViews
import Derived.JoinedTies
import Derived.KernelRfl
namespace Go.Proofs.Ythjboaallleomaa
/- THE CELL 'sum', in the pinned program and in every row, IS THE sha256 OF THE DUMP (.gsa) THAT YthjboaallleomaaProg.lean LOADS. Nothing in Lean hashes anything: it is a label: what it is worth is what the hold of that sum in a sandbox is worth. -/
noncomputable def Try.pinned : Pinned := { name := "ythjboaallleomaa", sum := "c86066b3bc47ae138d667a34b5ca44e034d98e5aabe7e52d55fd32f4fb6433ef", checked := Try.checked }
namespace Rows
def none {H : Type} : Left H := { results := [], args := [] }

/-- 'laws.FnExactIsDayRow': WHATEVER THE INPUT: true; the input reads as it did. -/
def fnExactIsDayRowSpec : ChangeSpec := { name := "fnExactIsDayRow", fn := fun _ => fun
  | [d] => { results := [.lit (.bool true)], args := [d] }
  | _ => none }
def fnExactIsDayRowRow : OpenClaim := { program := "ythjboaallleomaa", sum := "c86066b3bc47ae138d667a34b5ca44e034d98e5aabe7e52d55fd32f4fb6433ef", func := "loop.example/g00935/laws.FnExactIsDayRow", spec := "fnExactIsDayRow", apart := false }
def FnExactIsDayRowSaid : Prop := fnExactIsDayRowRow.holds Try.pinned (OpenSpec.ofChange fnExactIsDayRowSpec)

/-- ITS FALSE NEIGHBOUR: 'it returns false'. Refute it at one input. -/
def fnExactIsDayRowWrong : ChangeSpec := { name := "fnExactIsDayRow", fn := fun _ => fun
  | [d] => { results := [.lit (.bool false)], args := [d] }
  | _ => none }
def FnExactIsDayRowWrongFalsely : Prop := fnExactIsDayRowRow.holds Try.pinned (OpenSpec.ofChange fnExactIsDayRowWrong)

/-- 'laws.FnExactAreDayRows': WHATEVER THE INPUT: true; the input reads as it did. -/
def fnExactAreDayRowsSpec : ChangeSpec := { name := "fnExactAreDayRows", fn := fun _ => fun
  | [d] => { results := [.lit (.bool true)], args := [d] }
  | _ => none }
def fnExactAreDayRowsRow : OpenClaim := { program := "ythjboaallleomaa", sum := "c86066b3bc47ae138d667a34b5ca44e034d98e5aabe7e52d55fd32f4fb6433ef", func := "loop.example/g00935/laws.FnExactAreDayRows", spec := "fnExactAreDayRows", apart := false }
def FnExactAreDayRowsSaid : Prop := fnExactAreDayRowsRow.holds Try.pinned (OpenSpec.ofChange fnExactAreDayRowsSpec)

/-- ITS FALSE NEIGHBOUR: 'it returns false'. Refute it at one input. -/
def fnExactAreDayRowsWrong : ChangeSpec := { name := "fnExactAreDayRows", fn := fun _ => fun
  | [d] => { results := [.lit (.bool false)], args := [d] }
  | _ => none }
def FnExactAreDayRowsWrongFalsely : Prop := fnExactAreDayRowsRow.holds Try.pinned (OpenSpec.ofChange fnExactAreDayRowsWrong)

/-- 'laws.FnExactMainReason': WHATEVER THE INPUT: true; the input reads as it did. -/
def fnExactMainReasonSpec : ChangeSpec := { name := "fnExactMainReason", fn := fun _ => fun
  | [d] => { results := [.lit (.bool true)], args := [d] }
  | _ => none }
def fnExactMainReasonRow : OpenClaim := { program := "ythjboaallleomaa", sum := "c86066b3bc47ae138d667a34b5ca44e034d98e5aabe7e52d55fd32f4fb6433ef", func := "loop.example/g00935/laws.FnExactMainReason", spec := "fnExactMainReason", apart := false }
def FnExactMainReasonSaid : Prop := fnExactMainReasonRow.holds Try.pinned (OpenSpec.ofChange fnExactMainReasonSpec)

/-- ITS FALSE NEIGHBOUR: 'it returns false'. Refute it at one input. -/
def fnExactMainReasonWrong : ChangeSpec := { name := "fnExactMainReason", fn := fun _ => fun
  | [d] => { results := [.lit (.bool false)], args := [d] }
  | _ => none }
def FnExactMainReasonWrongFalsely : Prop := fnExactMainReasonRow.holds Try.pinned (OpenSpec.ofChange fnExactMainReasonWrong)

/-- 'laws.FnExactUpsAnHour': WHATEVER THE INPUT: true; the input reads as it did. -/
def fnExactUpsAnHourSpec : ChangeSpec := { name := "fnExactUpsAnHour", fn := fun _ => fun
  | [d] => { results := [.lit (.bool true)], args := [d] }
  | _ => none }
def fnExactUpsAnHourRow : OpenClaim := { program := "ythjboaallleomaa", sum := "c86066b3bc47ae138d667a34b5ca44e034d98e5aabe7e52d55fd32f4fb6433ef", func := "loop.example/g00935/laws.FnExactUpsAnHour", spec := "fnExactUpsAnHour", apart := false }
def FnExactUpsAnHourSaid : Prop := fnExactUpsAnHourRow.holds Try.pinned (OpenSpec.ofChange fnExactUpsAnHourSpec)

/-- ITS FALSE NEIGHBOUR: 'it returns false'. Refute it at one input. -/
def fnExactUpsAnHourWrong : ChangeSpec := { name := "fnExactUpsAnHour", fn := fun _ => fun
  | [d] => { results := [.lit (.bool false)], args := [d] }
  | _ => none }
def FnExactUpsAnHourWrongFalsely : Prop := fnExactUpsAnHourRow.holds Try.pinned (OpenSpec.ofChange fnExactUpsAnHourWrong)

/-- 'laws.FnExactLeftBehind': WHATEVER THE INPUT: true; the input reads as it did. -/
def fnExactLeftBehindSpec : ChangeSpec := { name := "fnExactLeftBehind", fn := fun _ => fun
  | [d] => { results := [.lit (.bool true)], args := [d] }
  | _ => none }
def fnExactLeftBehindRow : OpenClaim := { program := "ythjboaallleomaa", sum := "c86066b3bc47ae138d667a34b5ca44e034d98e5aabe7e52d55fd32f4fb6433ef", func := "loop.example/g00935/laws.FnExactLeftBehind", spec := "fnExactLeftBehind", apart := false }
def FnExactLeftBehindSaid : Prop := fnExactLeftBehindRow.holds Try.pinned (OpenSpec.ofChange fnExactLeftBehindSpec)

/-- ITS FALSE NEIGHBOUR: 'it returns false'. Refute it at one input. -/
def fnExactLeftBehindWrong : ChangeSpec := { name := "fnExactLeftBehind", fn := fun _ => fun
  | [d] => { results := [.lit (.bool false)], args := [d] }
  | _ => none }
def FnExactLeftBehindWrongFalsely : Prop := fnExactLeftBehindRow.holds Try.pinned (OpenSpec.ofChange fnExactLeftBehindWrong)

/-- 'laws.FnExactOpenRuns': WHATEVER THE INPUT: true; the input reads as it did. -/
def fnExactOpenRunsSpec : ChangeSpec := { name := "fnExactOpenRuns", fn := fun _ => fun
  | [d] => { results := [.lit (.bool true)], args := [d] }
  | _ => none }
def fnExactOpenRunsRow : OpenClaim := { program := "ythjboaallleomaa", sum := "c86066b3bc47ae138d667a34b5ca44e034d98e5aabe7e52d55fd32f4fb6433ef", func := "loop.example/g00935/laws.FnExactOpenRuns", spec := "fnExactOpenRuns", apart := false }
def FnExactOpenRunsSaid : Prop := fnExactOpenRunsRow.holds Try.pinned (OpenSpec.ofChange fnExactOpenRunsSpec)

/-- ITS FALSE NEIGHBOUR: 'it returns false'. Refute it at one input. -/
def fnExactOpenRunsWrong : ChangeSpec := { name := "fnExactOpenRuns", fn := fun _ => fun
  | [d] => { results := [.lit (.bool false)], args := [d] }
  | _ => none }
def FnExactOpenRunsWrongFalsely : Prop := fnExactOpenRunsRow.holds Try.pinned (OpenSpec.ofChange fnExactOpenRunsWrong)

/-- 'laws.FnExactBestDays': WHATEVER THE INPUT: true; the input reads as it did. -/
def fnExactBestDaysSpec : ChangeSpec := { name := "fnExactBestDays", fn := fun _ => fun
  | [d1, d2] => { results := [.lit (.bool true)], args := [d1, d2] }
  | _ => none }
def fnExactBestDaysRow : OpenClaim := { program := "ythjboaallleomaa", sum := "c86066b3bc47ae138d667a34b5ca44e034d98e5aabe7e52d55fd32f4fb6433ef", func := "loop.example/g00935/laws.FnExactBestDays", spec := "fnExactBestDays", unfollowed := true, recurses := true, apart := false }
def FnExactBestDaysSaid : Prop := fnExactBestDaysRow.holds Try.pinned (OpenSpec.ofChange fnExactBestDaysSpec)

/-- ITS FALSE NEIGHBOUR: 'it returns false'. Refute it at one input. -/
def fnExactBestDaysWrong : ChangeSpec := { name := "fnExactBestDays", fn := fun _ => fun
  | [d1, d2] => { results := [.lit (.bool false)], args := [d1, d2] }
  | _ => none }
def FnExactBestDaysWrongFalsely : Prop := fnExactBestDaysRow.holds Try.pinned (OpenSpec.ofChange fnExactBestDaysWrong)

/-- 'laws.FnDays': WHATEVER THE INPUT: true; the input reads as it did. -/
def fnDaysSpec : ChangeSpec := { name := "fnDays", fn := fun _ => fun
  | [d] => { results := [.lit (.bool true)], args := [d] }
  | _ => none }
def fnDaysRow : OpenClaim := { program := "ythjboaallleomaa", sum := "c86066b3bc47ae138d667a34b5ca44e034d98e5aabe7e52d55fd32f4fb6433ef", func := "loop.example/g00935/laws.FnDays", spec := "fnDays", unfollowed := true, recurses := true, apart := false }
def FnDaysSaid : Prop := fnDaysRow.holds Try.pinned (OpenSpec.ofChange fnDaysSpec)

/-- ITS FALSE NEIGHBOUR: 'it returns false'. Refute it at one input. -/
def fnDaysWrong : ChangeSpec := { name := "fnDays", fn := fun _ => fun
  | [d] => { results := [.lit (.bool false)], args := [d] }
  | _ => none }
def FnDaysWrongFalsely : Prop := fnDaysRow.holds Try.pinned (OpenSpec.ofChange fnDaysWrong)

/- THE SECOND FORM. 'bulk': how many values and letters a reading holds, each counted each time it is reached (what is shared counts as often as it is met; a slice's spare places count too). A statement '..UptoSaid' is the law's where the arguments, and the package variables that the reading takes, are together of bulk at most 1048576: NARROWER than '..Said'. Prove '..Said' where nothing that the law and all that it calls make is longer than what came in: it says more and counts as full. Else prove '..UptoSaid'. A law counts once. -/
mutual
def uptoBulk {H : Type} : DataW H → Nat
  | .lit (.string bytes) => bytes.length + 1
  | .lit _ => 1
  | .nil => 1
  | .ptr d => uptoBulk d + 1
  | .slice elems spare => uptoBulkAll elems + uptoBulkAll spare + 1
  | .agg parts => uptoBulkAll parts + 1
  | .iface _ d => uptoBulk d + 1
  | .map entries => uptoBulkEntries entries + 1
  | .held _ => 1
def uptoBulkAll {H : Type} : List (DataW H) → Nat
  | [] => 0
  | d :: r => uptoBulk d + uptoBulkAll r
def uptoBulkEntries {H : Type} : List (Lit × DataW H) → Nat
  | [] => 0
  | x :: r => uptoBulkEntry x + uptoBulkEntries r
def uptoBulkEntry {H : Type} : Lit × DataW H → Nat
  | (.string bytes, d) => bytes.length + uptoBulk d + 1
  | (_, d) => uptoBulk d + 1
 end
def uptoSmall : (H : Type) → List (DataW H) → Bool := fun _ ds => decide (uptoBulkAll ds ≤ 1048576)
def OpenSpec.upto (s : _root_.Go.ChangeSpec) : _root_.Go.OpenSpec := { _root_.Go.OpenSpec.ofChange s with cond := some uptoSmall }

/-- 'laws.FnExactIsDayRow', WHERE WHAT IT READS IS OF BULK AT MOST 1048576: true; the input reads as it did. -/
def fnExactIsDayRowUptoRow : OpenClaim := { program := "ythjboaallleomaa", sum := "c86066b3bc47ae138d667a34b5ca44e034d98e5aabe7e52d55fd32f4fb6433ef", func := "loop.example/g00935/laws.FnExactIsDayRow", spec := "fnExactIsDayRow", apart := false, narrowed := true }
def FnExactIsDayRowUptoSaid : Prop := fnExactIsDayRowUptoRow.holds Try.pinned (OpenSpec.upto fnExactIsDayRowSpec)

/-- 'laws.FnExactAreDayRows', WHERE WHAT IT READS IS OF BULK AT MOST 1048576: true; the input reads as it did. -/
def fnExactAreDayRowsUptoRow : OpenClaim := { program := "ythjboaallleomaa", sum := "c86066b3bc47ae138d667a34b5ca44e034d98e5aabe7e52d55fd32f4fb6433ef", func := "loop.example/g00935/laws.FnExactAreDayRows", spec := "fnExactAreDayRows", apart := false, narrowed := true }
def FnExactAreDayRowsUptoSaid : Prop := fnExactAreDayRowsUptoRow.holds Try.pinned (OpenSpec.upto fnExactAreDayRowsSpec)

/-- 'laws.FnExactMainReason', WHERE WHAT IT READS IS OF BULK AT MOST 1048576: true; the input reads as it did. -/
def fnExactMainReasonUptoRow : OpenClaim := { program := "ythjboaallleomaa", sum := "c86066b3bc47ae138d667a34b5ca44e034d98e5aabe7e52d55fd32f4fb6433ef", func := "loop.example/g00935/laws.FnExactMainReason", spec := "fnExactMainReason", apart := false, narrowed := true }
def FnExactMainReasonUptoSaid : Prop := fnExactMainReasonUptoRow.holds Try.pinned (OpenSpec.upto fnExactMainReasonSpec)

/-- 'laws.FnExactUpsAnHour', WHERE WHAT IT READS IS OF BULK AT MOST 1048576: true; the input reads as it did. -/
def fnExactUpsAnHourUptoRow : OpenClaim := { program := "ythjboaallleomaa", sum := "c86066b3bc47ae138d667a34b5ca44e034d98e5aabe7e52d55fd32f4fb6433ef", func := "loop.example/g00935/laws.FnExactUpsAnHour", spec := "fnExactUpsAnHour", apart := false, narrowed := true }
def FnExactUpsAnHourUptoSaid : Prop := fnExactUpsAnHourUptoRow.holds Try.pinned (OpenSpec.upto fnExactUpsAnHourSpec)

/-- 'laws.FnExactLeftBehind', WHERE WHAT IT READS IS OF BULK AT MOST 1048576: true; the input reads as it did. -/
def fnExactLeftBehindUptoRow : OpenClaim := { program := "ythjboaallleomaa", sum := "c86066b3bc47ae138d667a34b5ca44e034d98e5aabe7e52d55fd32f4fb6433ef", func := "loop.example/g00935/laws.FnExactLeftBehind", spec := "fnExactLeftBehind", apart := false, narrowed := true }
def FnExactLeftBehindUptoSaid : Prop := fnExactLeftBehindUptoRow.holds Try.pinned (OpenSpec.upto fnExactLeftBehindSpec)

/-- 'laws.FnExactOpenRuns', WHERE WHAT IT READS IS OF BULK AT MOST 1048576: true; the input reads as it did. -/
def fnExactOpenRunsUptoRow : OpenClaim := { program := "ythjboaallleomaa", sum := "c86066b3bc47ae138d667a34b5ca44e034d98e5aabe7e52d55fd32f4fb6433ef", func := "loop.example/g00935/laws.FnExactOpenRuns", spec := "fnExactOpenRuns", apart := false, narrowed := true }
def FnExactOpenRunsUptoSaid : Prop := fnExactOpenRunsUptoRow.holds Try.pinned (OpenSpec.upto fnExactOpenRunsSpec)

/-- 'laws.FnExactBestDays', WHERE WHAT IT READS IS OF BULK AT MOST 1048576: true; the input reads as it did. -/
def fnExactBestDaysUptoRow : OpenClaim := { program := "ythjboaallleomaa", sum := "c86066b3bc47ae138d667a34b5ca44e034d98e5aabe7e52d55fd32f4fb6433ef", func := "loop.example/g00935/laws.FnExactBestDays", spec := "fnExactBestDays", unfollowed := true, recurses := true, apart := false, narrowed := true }
def FnExactBestDaysUptoSaid : Prop := fnExactBestDaysUptoRow.holds Try.pinned (OpenSpec.upto fnExactBestDaysSpec)

/-- 'laws.FnDays', WHERE WHAT IT READS IS OF BULK AT MOST 1048576: true; the input reads as it did. -/
def fnDaysUptoRow : OpenClaim := { program := "ythjboaallleomaa", sum := "c86066b3bc47ae138d667a34b5ca44e034d98e5aabe7e52d55fd32f4fb6433ef", func := "loop.example/g00935/laws.FnDays", spec := "fnDays", unfollowed := true, recurses := true, apart := false, narrowed := true }
def FnDaysUptoSaid : Prop := fnDaysUptoRow.holds Try.pinned (OpenSpec.upto fnDaysSpec)

end Rows
end Go.Proofs.Ythjboaallleomaa
