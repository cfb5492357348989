/-
  No cell of these rows narrows 'for every input' (looked for: loops, veiled, ifaces, maps, wideKeys, modest, calm, conditions, laid).
  DERIVED. THE GIVEN ROWS OF THIS SEAT. 12 by the template 'for every input the law returns true; each argument reads behind the call as it read before'; 0 by the template 'total and deterministic' (their statements: YtplknllbpdookaaTotals.lean).
  GIVEN WITH THE SEED: the statements are not yours to turn. If you find one false, say at which input.
  Laid BY PROGRAM, IN A SANDBOX (cutbox-rows.mjs): the forced cells as the released guide's own fill.sh prints them over the translation e2f9c0216695e582… (all of the seat's roots in one cut). By AI agents, Wed Nov 11 2026. No macro, syntax, notation, axiom, sorry.
-/
import Derived.Test.YtplknllbpdookaaChecked
import GoSem.Claim
import GoSem.ClaimJoined
import GoSem.ClaimMapViews
import Derived.JoinedTies
import Derived.KernelRfl
namespace Go.Proofs.Ytplknllbpdookaa
/- THE CELL 'sum', in the pinned program and in every row, IS THE sha256 OF THE DUMP (.gsa) THAT YtplknllbpdookaaProg.lean LOADS. Nothing in Lean hashes anything: it is a label: what it is worth is what the hold of that sum in a sandbox is worth. -/
noncomputable def Try.pinned : Pinned := { name := "ytplknllbpdookaa", sum := "e2f9c0216695e582b0801d9c0794bbc18116656a12a925f20795394bdcb32e63", checked := Try.checked }
namespace Rows
def none {H : Type} : Left H := { results := [], args := [] }

/-- 'laws.FnExactTimeStopped': WHATEVER THE INPUT: true; the input reads as it did. -/
def fnExactTimeStoppedSpec : ChangeSpec := { name := "fnExactTimeStopped", fn := fun _ => fun
  | [d1, d2] => { results := [.lit (.bool true)], args := [d1, d2] }
  | _ => none }
def fnExactTimeStoppedRow : OpenClaim := { program := "ytplknllbpdookaa", sum := "e2f9c0216695e582b0801d9c0794bbc18116656a12a925f20795394bdcb32e63", func := "loop.example/g00935/laws.FnExactTimeStopped", spec := "fnExactTimeStopped", plainKeys := false, apart := false }
def FnExactTimeStoppedSaid : Prop := fnExactTimeStoppedRow.holds Try.pinned (OpenSpec.ofChange fnExactTimeStoppedSpec)

/-- ITS FALSE NEIGHBOUR: 'it returns false'. Refute it at one input. -/
def fnExactTimeStoppedWrong : ChangeSpec := { name := "fnExactTimeStopped", fn := fun _ => fun
  | [d1, d2] => { results := [.lit (.bool false)], args := [d1, d2] }
  | _ => none }
def FnExactTimeStoppedWrongFalsely : Prop := fnExactTimeStoppedRow.holds Try.pinned (OpenSpec.ofChange fnExactTimeStoppedWrong)

/-- 'laws.FnExactCompareRules': WHATEVER THE INPUT: true; the input reads as it did. -/
def fnExactCompareRulesSpec : ChangeSpec := { name := "fnExactCompareRules", fn := fun _ => fun
  | [d1, d2, d3] => { results := [.lit (.bool true)], args := [d1, d2, d3] }
  | _ => none }
def fnExactCompareRulesRow : OpenClaim := { program := "ytplknllbpdookaa", sum := "e2f9c0216695e582b0801d9c0794bbc18116656a12a925f20795394bdcb32e63", func := "loop.example/g00935/laws.FnExactCompareRules", spec := "fnExactCompareRules", plainKeys := false, apart := false }
def FnExactCompareRulesSaid : Prop := fnExactCompareRulesRow.holds Try.pinned (OpenSpec.ofChange fnExactCompareRulesSpec)

/-- ITS FALSE NEIGHBOUR: 'it returns false'. Refute it at one input. -/
def fnExactCompareRulesWrong : ChangeSpec := { name := "fnExactCompareRules", fn := fun _ => fun
  | [d1, d2, d3] => { results := [.lit (.bool false)], args := [d1, d2, d3] }
  | _ => none }
def FnExactCompareRulesWrongFalsely : Prop := fnExactCompareRulesRow.holds Try.pinned (OpenSpec.ofChange fnExactCompareRulesWrong)

/-- 'laws.FnExactRunWind': WHATEVER THE INPUT: true; the input reads as it did. -/
def fnExactRunWindSpec : ChangeSpec := { name := "fnExactRunWind", fn := fun _ => fun
  | [d1, d2, d3] => { results := [.lit (.bool true)], args := [d1, d2, d3] }
  | _ => none }
def fnExactRunWindRow : OpenClaim := { program := "ytplknllbpdookaa", sum := "e2f9c0216695e582b0801d9c0794bbc18116656a12a925f20795394bdcb32e63", func := "loop.example/g00935/laws.FnExactRunWind", spec := "fnExactRunWind", plainKeys := false, apart := false }
def FnExactRunWindSaid : Prop := fnExactRunWindRow.holds Try.pinned (OpenSpec.ofChange fnExactRunWindSpec)

/-- ITS FALSE NEIGHBOUR: 'it returns false'. Refute it at one input. -/
def fnExactRunWindWrong : ChangeSpec := { name := "fnExactRunWind", fn := fun _ => fun
  | [d1, d2, d3] => { results := [.lit (.bool false)], args := [d1, d2, d3] }
  | _ => none }
def FnExactRunWindWrongFalsely : Prop := fnExactRunWindRow.holds Try.pinned (OpenSpec.ofChange fnExactRunWindWrong)

/-- 'laws.FnExactStepGrip': WHATEVER THE INPUT: true; the input reads as it did. -/
def fnExactStepGripSpec : ChangeSpec := { name := "fnExactStepGrip", fn := fun _ => fun
  | [d1, d2] => { results := [.lit (.bool true)], args := [d1, d2] }
  | _ => none }
def fnExactStepGripRow : OpenClaim := { program := "ytplknllbpdookaa", sum := "e2f9c0216695e582b0801d9c0794bbc18116656a12a925f20795394bdcb32e63", func := "loop.example/g00935/laws.FnExactStepGrip", spec := "fnExactStepGrip", plainKeys := false, apart := false }
def FnExactStepGripSaid : Prop := fnExactStepGripRow.holds Try.pinned (OpenSpec.ofChange fnExactStepGripSpec)

/-- ITS FALSE NEIGHBOUR: 'it returns false'. Refute it at one input. -/
def fnExactStepGripWrong : ChangeSpec := { name := "fnExactStepGrip", fn := fun _ => fun
  | [d1, d2] => { results := [.lit (.bool false)], args := [d1, d2] }
  | _ => none }
def FnExactStepGripWrongFalsely : Prop := fnExactStepGripRow.holds Try.pinned (OpenSpec.ofChange fnExactStepGripWrong)

/-- 'laws.FnExactStepsHome': WHATEVER THE INPUT: true; the input reads as it did. -/
def fnExactStepsHomeSpec : ChangeSpec := { name := "fnExactStepsHome", fn := fun _ => fun
  | [d] => { results := [.lit (.bool true)], args := [d] }
  | _ => none }
def fnExactStepsHomeRow : OpenClaim := { program := "ytplknllbpdookaa", sum := "e2f9c0216695e582b0801d9c0794bbc18116656a12a925f20795394bdcb32e63", func := "loop.example/g00935/laws.FnExactStepsHome", spec := "fnExactStepsHome", plainKeys := false, apart := false }
def FnExactStepsHomeSaid : Prop := fnExactStepsHomeRow.holds Try.pinned (OpenSpec.ofChange fnExactStepsHomeSpec)

/-- ITS FALSE NEIGHBOUR: 'it returns false'. Refute it at one input. -/
def fnExactStepsHomeWrong : ChangeSpec := { name := "fnExactStepsHome", fn := fun _ => fun
  | [d] => { results := [.lit (.bool false)], args := [d] }
  | _ => none }
def FnExactStepsHomeWrongFalsely : Prop := fnExactStepsHomeRow.holds Try.pinned (OpenSpec.ofChange fnExactStepsHomeWrong)

/-- 'laws.FnExactStepsToRope': WHATEVER THE INPUT: true; the input reads as it did. -/
def fnExactStepsToRopeSpec : ChangeSpec := { name := "fnExactStepsToRope", fn := fun _ => fun
  | [d] => { results := [.lit (.bool true)], args := [d] }
  | _ => none }
def fnExactStepsToRopeRow : OpenClaim := { program := "ytplknllbpdookaa", sum := "e2f9c0216695e582b0801d9c0794bbc18116656a12a925f20795394bdcb32e63", func := "loop.example/g00935/laws.FnExactStepsToRope", spec := "fnExactStepsToRope", plainKeys := false, apart := false }
def FnExactStepsToRopeSaid : Prop := fnExactStepsToRopeRow.holds Try.pinned (OpenSpec.ofChange fnExactStepsToRopeSpec)

/-- ITS FALSE NEIGHBOUR: 'it returns false'. Refute it at one input. -/
def fnExactStepsToRopeWrong : ChangeSpec := { name := "fnExactStepsToRope", fn := fun _ => fun
  | [d] => { results := [.lit (.bool false)], args := [d] }
  | _ => none }
def FnExactStepsToRopeWrongFalsely : Prop := fnExactStepsToRopeRow.holds Try.pinned (OpenSpec.ofChange fnExactStepsToRopeWrong)

/-- 'laws.FnExactPossibleSteps': WHATEVER THE INPUT: true; the input reads as it did. -/
def fnExactPossibleStepsSpec : ChangeSpec := { name := "fnExactPossibleSteps", fn := fun _ => fun
  | [d] => { results := [.lit (.bool true)], args := [d] }
  | _ => none }
def fnExactPossibleStepsRow : OpenClaim := { program := "ytplknllbpdookaa", sum := "e2f9c0216695e582b0801d9c0794bbc18116656a12a925f20795394bdcb32e63", func := "loop.example/g00935/laws.FnExactPossibleSteps", spec := "fnExactPossibleSteps", plainKeys := false, apart := false }
def FnExactPossibleStepsSaid : Prop := fnExactPossibleStepsRow.holds Try.pinned (OpenSpec.ofChange fnExactPossibleStepsSpec)

/-- ITS FALSE NEIGHBOUR: 'it returns false'. Refute it at one input. -/
def fnExactPossibleStepsWrong : ChangeSpec := { name := "fnExactPossibleSteps", fn := fun _ => fun
  | [d] => { results := [.lit (.bool false)], args := [d] }
  | _ => none }
def FnExactPossibleStepsWrongFalsely : Prop := fnExactPossibleStepsRow.holds Try.pinned (OpenSpec.ofChange fnExactPossibleStepsWrong)

/-- 'laws.FnExactRunGrip': WHATEVER THE INPUT: true; the input reads as it did. -/
def fnExactRunGripSpec : ChangeSpec := { name := "fnExactRunGrip", fn := fun _ => fun
  | [d1, d2] => { results := [.lit (.bool true)], args := [d1, d2] }
  | _ => none }
def fnExactRunGripRow : OpenClaim := { program := "ytplknllbpdookaa", sum := "e2f9c0216695e582b0801d9c0794bbc18116656a12a925f20795394bdcb32e63", func := "loop.example/g00935/laws.FnExactRunGrip", spec := "fnExactRunGrip", plainKeys := false, apart := false }
def FnExactRunGripSaid : Prop := fnExactRunGripRow.holds Try.pinned (OpenSpec.ofChange fnExactRunGripSpec)

/-- ITS FALSE NEIGHBOUR: 'it returns false'. Refute it at one input. -/
def fnExactRunGripWrong : ChangeSpec := { name := "fnExactRunGrip", fn := fun _ => fun
  | [d1, d2] => { results := [.lit (.bool false)], args := [d1, d2] }
  | _ => none }
def FnExactRunGripWrongFalsely : Prop := fnExactRunGripRow.holds Try.pinned (OpenSpec.ofChange fnExactRunGripWrong)

/-- 'laws.FnWinds': WHATEVER THE INPUT: true; the input reads as it did. -/
def fnWindsSpec : ChangeSpec := { name := "fnWinds", fn := fun _ => fun
  | [d] => { results := [.lit (.bool true)], args := [d] }
  | _ => none }
def fnWindsRow : OpenClaim := { program := "ytplknllbpdookaa", sum := "e2f9c0216695e582b0801d9c0794bbc18116656a12a925f20795394bdcb32e63", func := "loop.example/g00935/laws.FnWinds", spec := "fnWinds", plainKeys := false, apart := false }
def FnWindsSaid : Prop := fnWindsRow.holds Try.pinned (OpenSpec.ofChange fnWindsSpec)

/-- ITS FALSE NEIGHBOUR: 'it returns false'. Refute it at one input. -/
def fnWindsWrong : ChangeSpec := { name := "fnWinds", fn := fun _ => fun
  | [d] => { results := [.lit (.bool false)], args := [d] }
  | _ => none }
def FnWindsWrongFalsely : Prop := fnWindsRow.holds Try.pinned (OpenSpec.ofChange fnWindsWrong)

/-- 'laws.FnCalm': WHATEVER THE INPUT: true; the input reads as it did. -/
def fnCalmSpec : ChangeSpec := { name := "fnCalm", fn := fun _ => fun
  | [d] => { results := [.lit (.bool true)], args := [d] }
  | _ => none }
def fnCalmRow : OpenClaim := { program := "ytplknllbpdookaa", sum := "e2f9c0216695e582b0801d9c0794bbc18116656a12a925f20795394bdcb32e63", func := "loop.example/g00935/laws.FnCalm", spec := "fnCalm", plainKeys := false, apart := false }
def FnCalmSaid : Prop := fnCalmRow.holds Try.pinned (OpenSpec.ofChange fnCalmSpec)

/-- ITS FALSE NEIGHBOUR: 'it returns false'. Refute it at one input. -/
def fnCalmWrong : ChangeSpec := { name := "fnCalm", fn := fun _ => fun
  | [d] => { results := [.lit (.bool false)], args := [d] }
  | _ => none }
def FnCalmWrongFalsely : Prop := fnCalmRow.holds Try.pinned (OpenSpec.ofChange fnCalmWrong)

/-- 'laws.FnGripSteps': WHATEVER THE INPUT: true; the input reads as it did. -/
def fnGripStepsSpec : ChangeSpec := { name := "fnGripSteps", fn := fun _ => fun
  | [d] => { results := [.lit (.bool true)], args := [d] }
  | _ => none }
def fnGripStepsRow : OpenClaim := { program := "ytplknllbpdookaa", sum := "e2f9c0216695e582b0801d9c0794bbc18116656a12a925f20795394bdcb32e63", func := "loop.example/g00935/laws.FnGripSteps", spec := "fnGripSteps", plainKeys := false, apart := false }
def FnGripStepsSaid : Prop := fnGripStepsRow.holds Try.pinned (OpenSpec.ofChange fnGripStepsSpec)

/-- ITS FALSE NEIGHBOUR: 'it returns false'. Refute it at one input. -/
def fnGripStepsWrong : ChangeSpec := { name := "fnGripSteps", fn := fun _ => fun
  | [d] => { results := [.lit (.bool false)], args := [d] }
  | _ => none }
def FnGripStepsWrongFalsely : Prop := fnGripStepsRow.holds Try.pinned (OpenSpec.ofChange fnGripStepsWrong)

/-- 'laws.FnVotes': WHATEVER THE INPUT: true; the input reads as it did. -/
def fnVotesSpec : ChangeSpec := { name := "fnVotes", fn := fun _ => fun
  | [d] => { results := [.lit (.bool true)], args := [d] }
  | _ => none }
def fnVotesRow : OpenClaim := { program := "ytplknllbpdookaa", sum := "e2f9c0216695e582b0801d9c0794bbc18116656a12a925f20795394bdcb32e63", func := "loop.example/g00935/laws.FnVotes", spec := "fnVotes", unfollowed := true, recurses := true, plainKeys := false, apart := false }
def FnVotesSaid : Prop := fnVotesRow.holds Try.pinned (OpenSpec.ofChange fnVotesSpec)

/-- ITS FALSE NEIGHBOUR: 'it returns false'. Refute it at one input. -/
def fnVotesWrong : ChangeSpec := { name := "fnVotes", fn := fun _ => fun
  | [d] => { results := [.lit (.bool false)], args := [d] }
  | _ => none }
def FnVotesWrongFalsely : Prop := fnVotesRow.holds Try.pinned (OpenSpec.ofChange fnVotesWrong)

/- THE SECOND FORM. 'bulk': how many values and letters a reading holds, each counted each time it is reached (what is shared counts as often as it is met; a slice's spare places count too). A statement '..UptoSaid' is the law's where the arguments, and the package variables that the reading takes, are together of bulk at most 1048576: NARROWER than '..Said'. Prove '..Said' where nothing that the law and all that it calls make is longer than what came in: it says more and counts as full. Else prove '..UptoSaid'. A law counts once. -/
mutual
def uptoBulk {H : Type} : DataW H → Nat
  | .lit (.string bytes) => bytes.length + 1
  | .lit _ => 1
  | .nil => 1
  | .ptr d => uptoBulk d + 1
  | .slice elems spare => uptoBulkAll elems + uptoBulkAll spare + 1
  | .agg parts => uptoBulkAll parts + 1
  | .iface _ d => uptoBulk d + 1
  | .map entries => uptoBulkEntries entries + 1
  | .held _ => 1
def uptoBulkAll {H : Type} : List (DataW H) → Nat
  | [] => 0
  | d :: r => uptoBulk d + uptoBulkAll r
def uptoBulkEntries {H : Type} : List (Lit × DataW H) → Nat
  | [] => 0
  | x :: r => uptoBulkEntry x + uptoBulkEntries r
def uptoBulkEntry {H : Type} : Lit × DataW H → Nat
  | (.string bytes, d) => bytes.length + uptoBulk d + 1
  | (_, d) => uptoBulk d + 1
 end
def uptoSmall : (H : Type) → List (DataW H) → Bool := fun _ ds => decide (uptoBulkAll ds ≤ 1048576)
def OpenSpec.upto (s : _root_.Go.ChangeSpec) : _root_.Go.OpenSpec := { _root_.Go.OpenSpec.ofChange s with cond := some uptoSmall }

/-- 'laws.FnExactTimeStopped', WHERE WHAT IT READS IS OF BULK AT MOST 1048576: true; the input reads as it did. -/
def fnExactTimeStoppedUptoRow : OpenClaim := { program := "ytplknllbpdookaa", sum := "e2f9c0216695e582b0801d9c0794bbc18116656a12a925f20795394bdcb32e63", func := "loop.example/g00935/laws.FnExactTimeStopped", spec := "fnExactTimeStopped", plainKeys := false, apart := false, narrowed := true }
def FnExactTimeStoppedUptoSaid : Prop := fnExactTimeStoppedUptoRow.holds Try.pinned (OpenSpec.upto fnExactTimeStoppedSpec)

/-- 'laws.FnExactCompareRules', WHERE WHAT IT READS IS OF BULK AT MOST 1048576: true; the input reads as it did. -/
def fnExactCompareRulesUptoRow : OpenClaim := { program := "ytplknllbpdookaa", sum := "e2f9c0216695e582b0801d9c0794bbc18116656a12a925f20795394bdcb32e63", func := "loop.example/g00935/laws.FnExactCompareRules", spec := "fnExactCompareRules", plainKeys := false, apart := false, narrowed := true }
def FnExactCompareRulesUptoSaid : Prop := fnExactCompareRulesUptoRow.holds Try.pinned (OpenSpec.upto fnExactCompareRulesSpec)

/-- 'laws.FnExactRunWind', WHERE WHAT IT READS IS OF BULK AT MOST 1048576: true; the input reads as it did. -/
def fnExactRunWindUptoRow : OpenClaim := { program := "ytplknllbpdookaa", sum := "e2f9c0216695e582b0801d9c0794bbc18116656a12a925f20795394bdcb32e63", func := "loop.example/g00935/laws.FnExactRunWind", spec := "fnExactRunWind", plainKeys := false, apart := false, narrowed := true }
def FnExactRunWindUptoSaid : Prop := fnExactRunWindUptoRow.holds Try.pinned (OpenSpec.upto fnExactRunWindSpec)

/-- 'laws.FnExactStepGrip', WHERE WHAT IT READS IS OF BULK AT MOST 1048576: true; the input reads as it did. -/
def fnExactStepGripUptoRow : OpenClaim := { program := "ytplknllbpdookaa", sum := "e2f9c0216695e582b0801d9c0794bbc18116656a12a925f20795394bdcb32e63", func := "loop.example/g00935/laws.FnExactStepGrip", spec := "fnExactStepGrip", plainKeys := false, apart := false, narrowed := true }
def FnExactStepGripUptoSaid : Prop := fnExactStepGripUptoRow.holds Try.pinned (OpenSpec.upto fnExactStepGripSpec)

/-- 'laws.FnExactStepsHome', WHERE WHAT IT READS IS OF BULK AT MOST 1048576: true; the input reads as it did. -/
def fnExactStepsHomeUptoRow : OpenClaim := { program := "ytplknllbpdookaa", sum := "e2f9c0216695e582b0801d9c0794bbc18116656a12a925f20795394bdcb32e63", func := "loop.example/g00935/laws.FnExactStepsHome", spec := "fnExactStepsHome", plainKeys := false, apart := false, narrowed := true }
def FnExactStepsHomeUptoSaid : Prop := fnExactStepsHomeUptoRow.holds Try.pinned (OpenSpec.upto fnExactStepsHomeSpec)

/-- 'laws.FnExactStepsToRope', WHERE WHAT IT READS IS OF BULK AT MOST 1048576: true; the input reads as it did. -/
def fnExactStepsToRopeUptoRow : OpenClaim := { program := "ytplknllbpdookaa", sum := "e2f9c0216695e582b0801d9c0794bbc18116656a12a925f20795394bdcb32e63", func := "loop.example/g00935/laws.FnExactStepsToRope", spec := "fnExactStepsToRope", plainKeys := false, apart := false, narrowed := true }
def FnExactStepsToRopeUptoSaid : Prop := fnExactStepsToRopeUptoRow.holds Try.pinned (OpenSpec.upto fnExactStepsToRopeSpec)

/-- 'laws.FnExactPossibleSteps', WHERE WHAT IT READS IS OF BULK AT MOST 1048576: true; the input reads as it did. -/
def fnExactPossibleStepsUptoRow : OpenClaim := { program := "ytplknllbpdookaa", sum := "e2f9c0216695e582b0801d9c0794bbc18116656a12a925f20795394bdcb32e63", func := "loop.example/g00935/laws.FnExactPossibleSteps", spec := "fnExactPossibleSteps", plainKeys := false, apart := false, narrowed := true }
def FnExactPossibleStepsUptoSaid : Prop := fnExactPossibleStepsUptoRow.holds Try.pinned (OpenSpec.upto fnExactPossibleStepsSpec)

/-- 'laws.FnExactRunGrip', WHERE WHAT IT READS IS OF BULK AT MOST 1048576: true; the input reads as it did. -/
def fnExactRunGripUptoRow : OpenClaim := { program := "ytplknllbpdookaa", sum := "e2f9c0216695e582b0801d9c0794bbc18116656a12a925f20795394bdcb32e63", func := "loop.example/g00935/laws.FnExactRunGrip", spec := "fnExactRunGrip", plainKeys := false, apart := false, narrowed := true }
def FnExactRunGripUptoSaid : Prop := fnExactRunGripUptoRow.holds Try.pinned (OpenSpec.upto fnExactRunGripSpec)

/-- 'laws.FnWinds', WHERE WHAT IT READS IS OF BULK AT MOST 1048576: true; the input reads as it did. -/
def fnWindsUptoRow : OpenClaim := { program := "ytplknllbpdookaa", sum := "e2f9c0216695e582b0801d9c0794bbc18116656a12a925f20795394bdcb32e63", func := "loop.example/g00935/laws.FnWinds", spec := "fnWinds", plainKeys := false, apart := false, narrowed := true }
def FnWindsUptoSaid : Prop := fnWindsUptoRow.holds Try.pinned (OpenSpec.upto fnWindsSpec)

/-- 'laws.FnCalm', WHERE WHAT IT READS IS OF BULK AT MOST 1048576: true; the input reads as it did. -/
def fnCalmUptoRow : OpenClaim := { program := "ytplknllbpdookaa", sum := "e2f9c0216695e582b0801d9c0794bbc18116656a12a925f20795394bdcb32e63", func := "loop.example/g00935/laws.FnCalm", spec := "fnCalm", plainKeys := false, apart := false, narrowed := true }
def FnCalmUptoSaid : Prop := fnCalmUptoRow.holds Try.pinned (OpenSpec.upto fnCalmSpec)

/-- 'laws.FnGripSteps', WHERE WHAT IT READS IS OF BULK AT MOST 1048576: true; the input reads as it did. -/
def fnGripStepsUptoRow : OpenClaim := { program := "ytplknllbpdookaa", sum := "e2f9c0216695e582b0801d9c0794bbc18116656a12a925f20795394bdcb32e63", func := "loop.example/g00935/laws.FnGripSteps", spec := "fnGripSteps", plainKeys := false, apart := false, narrowed := true }
def FnGripStepsUptoSaid : Prop := fnGripStepsUptoRow.holds Try.pinned (OpenSpec.upto fnGripStepsSpec)

/-- 'laws.FnVotes', WHERE WHAT IT READS IS OF BULK AT MOST 1048576: true; the input reads as it did. -/
def fnVotesUptoRow : OpenClaim := { program := "ytplknllbpdookaa", sum := "e2f9c0216695e582b0801d9c0794bbc18116656a12a925f20795394bdcb32e63", func := "loop.example/g00935/laws.FnVotes", spec := "fnVotes", unfollowed := true, recurses := true, plainKeys := false, apart := false, narrowed := true }
def FnVotesUptoSaid : Prop := fnVotesUptoRow.holds Try.pinned (OpenSpec.upto fnVotesSpec)

end Rows
end Go.Proofs.Ytplknllbpdookaa
