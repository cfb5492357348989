/-
  No cell of these rows narrows 'for every input' (looked for: loops, veiled, ifaces, maps, wideKeys, modest, calm, conditions, laid).
  DERIVED. THE GIVEN ROWS OF THIS SEAT. 4 by the template 'for every input the law returns true; each argument reads behind the call as it read before'; 0 by the template 'total and deterministic' (their statements: YtaajchikfgbecaaTotals.lean).
  GIVEN WITH THE SEED: the statements are not yours to turn. If you find one false, say at which input.
  Laid BY PROGRAM, IN A SANDBOX (cutbox-rows.mjs): the forced cells as the released guide's own fill.sh prints them over the translation 5c539035e4f8550d… (all of the seat's roots in one cut). By AI agents, Wed Nov 11 2026. No macro, syntax, notation, axiom, sorry.
-/
import Derived.Test.YtaajchikfgbecaaChecked
import GoSem.Claim
import GoSem.ClaimJoined
import GoSem.ClaimMapViews
import Derived.JoinedTies
import Derived.KernelRfl
namespace Go.Proofs.Ytaajchikfgbecaa
/- THE CELL 'sum', in the pinned program and in every row, IS THE sha256 OF THE DUMP (.gsa) THAT YtaajchikfgbecaaProg.lean LOADS. Nothing in Lean hashes anything: it is a label: what it is worth is what the hold of that sum in a sandbox is worth. -/
noncomputable def Try.pinned : Pinned := { name := "ytaajchikfgbecaa", sum := "5c539035e4f8550d972de3e436b96a8885cae86e54385e4d2abdcacdaa212662", checked := Try.checked }
namespace Rows
def none {H : Type} : Left H := { results := [], args := [] }

/-- 'laws.FnExactOpenRuns': WHATEVER THE INPUT: true; the input reads as it did. -/
def fnExactOpenRunsSpec : ChangeSpec := { name := "fnExactOpenRuns", fn := fun _ => fun
  | [d] => { results := [.lit (.bool true)], args := [d] }
  | _ => none }
def fnExactOpenRunsRow : OpenClaim := { program := "ytaajchikfgbecaa", sum := "5c539035e4f8550d972de3e436b96a8885cae86e54385e4d2abdcacdaa212662", func := "loop.example/g00935/laws.FnExactOpenRuns", spec := "fnExactOpenRuns", plainKeys := false, apart := false }
def FnExactOpenRunsSaid : Prop := fnExactOpenRunsRow.holds Try.pinned (OpenSpec.ofChange fnExactOpenRunsSpec)

/-- ITS FALSE NEIGHBOUR: 'it returns false'. Refute it at one input. -/
def fnExactOpenRunsWrong : ChangeSpec := { name := "fnExactOpenRuns", fn := fun _ => fun
  | [d] => { results := [.lit (.bool false)], args := [d] }
  | _ => none }
def FnExactOpenRunsWrongFalsely : Prop := fnExactOpenRunsRow.holds Try.pinned (OpenSpec.ofChange fnExactOpenRunsWrong)

/-- 'laws.FnCalm': WHATEVER THE INPUT: true; the input reads as it did. -/
def fnCalmSpec : ChangeSpec := { name := "fnCalm", fn := fun _ => fun
  | [d] => { results := [.lit (.bool true)], args := [d] }
  | _ => none }
def fnCalmRow : OpenClaim := { program := "ytaajchikfgbecaa", sum := "5c539035e4f8550d972de3e436b96a8885cae86e54385e4d2abdcacdaa212662", func := "loop.example/g00935/laws.FnCalm", spec := "fnCalm", plainKeys := false, apart := false }
def FnCalmSaid : Prop := fnCalmRow.holds Try.pinned (OpenSpec.ofChange fnCalmSpec)

/-- ITS FALSE NEIGHBOUR: 'it returns false'. Refute it at one input. -/
def fnCalmWrong : ChangeSpec := { name := "fnCalm", fn := fun _ => fun
  | [d] => { results := [.lit (.bool false)], args := [d] }
  | _ => none }
def FnCalmWrongFalsely : Prop := fnCalmRow.holds Try.pinned (OpenSpec.ofChange fnCalmWrong)

/-- 'laws.FnExactStepsHome': WHATEVER THE INPUT: true; the input reads as it did. -/
def fnExactStepsHomeSpec : ChangeSpec := { name := "fnExactStepsHome", fn := fun _ => fun
  | [d] => { results := [.lit (.bool true)], args := [d] }
  | _ => none }
def fnExactStepsHomeRow : OpenClaim := { program := "ytaajchikfgbecaa", sum := "5c539035e4f8550d972de3e436b96a8885cae86e54385e4d2abdcacdaa212662", func := "loop.example/g00935/laws.FnExactStepsHome", spec := "fnExactStepsHome", plainKeys := false, apart := false }
def FnExactStepsHomeSaid : Prop := fnExactStepsHomeRow.holds Try.pinned (OpenSpec.ofChange fnExactStepsHomeSpec)

/-- ITS FALSE NEIGHBOUR: 'it returns false'. Refute it at one input. -/
def fnExactStepsHomeWrong : ChangeSpec := { name := "fnExactStepsHome", fn := fun _ => fun
  | [d] => { results := [.lit (.bool false)], args := [d] }
  | _ => none }
def FnExactStepsHomeWrongFalsely : Prop := fnExactStepsHomeRow.holds Try.pinned (OpenSpec.ofChange fnExactStepsHomeWrong)

/-- 'laws.FnExactStepsToRope': WHATEVER THE INPUT: true; the input reads as it did. -/
def fnExactStepsToRopeSpec : ChangeSpec := { name := "fnExactStepsToRope", fn := fun _ => fun
  | [d] => { results := [.lit (.bool true)], args := [d] }
  | _ => none }
def fnExactStepsToRopeRow : OpenClaim := { program := "ytaajchikfgbecaa", sum := "5c539035e4f8550d972de3e436b96a8885cae86e54385e4d2abdcacdaa212662", func := "loop.example/g00935/laws.FnExactStepsToRope", spec := "fnExactStepsToRope", plainKeys := false, apart := false }
def FnExactStepsToRopeSaid : Prop := fnExactStepsToRopeRow.holds Try.pinned (OpenSpec.ofChange fnExactStepsToRopeSpec)

/-- ITS FALSE NEIGHBOUR: 'it returns false'. Refute it at one input. -/
def fnExactStepsToRopeWrong : ChangeSpec := { name := "fnExactStepsToRope", fn := fun _ => fun
  | [d] => { results := [.lit (.bool false)], args := [d] }
  | _ => none }
def FnExactStepsToRopeWrongFalsely : Prop := fnExactStepsToRopeRow.holds Try.pinned (OpenSpec.ofChange fnExactStepsToRopeWrong)

/- THE SECOND FORM. 'bulk': how many values and letters a reading holds, each counted each time it is reached (what is shared counts as often as it is met; a slice's spare places count too). A statement '..UptoSaid' is the law's where the arguments, and the package variables that the reading takes, are together of bulk at most 1048576: NARROWER than '..Said'. Prove '..Said' where nothing that the law and all that it calls make is longer than what came in: it says more and counts as full. Else prove '..UptoSaid'. A law counts once. -/
mutual
def uptoBulk {H : Type} : DataW H → Nat
  | .lit (.string bytes) => bytes.length + 1
  | .lit _ => 1
  | .nil => 1
  | .ptr d => uptoBulk d + 1
  | .slice elems spare => uptoBulkAll elems + uptoBulkAll spare + 1
  | .agg parts => uptoBulkAll parts + 1
  | .iface _ d => uptoBulk d + 1
  | .map entries => uptoBulkEntries entries + 1
  | .held _ => 1
def uptoBulkAll {H : Type} : List (DataW H) → Nat
  | [] => 0
  | d :: r => uptoBulk d + uptoBulkAll r
def uptoBulkEntries {H : Type} : List (Lit × DataW H) → Nat
  | [] => 0
  | x :: r => uptoBulkEntry x + uptoBulkEntries r
def uptoBulkEntry {H : Type} : Lit × DataW H → Nat
  | (.string bytes, d) => bytes.length + uptoBulk d + 1
  | (_, d) => uptoBulk d + 1
 end
def uptoSmall : (H : Type) → List (DataW H) → Bool := fun _ ds => decide (uptoBulkAll ds ≤ 1048576)
def OpenSpec.upto (s : _root_.Go.ChangeSpec) : _root_.Go.OpenSpec := { _root_.Go.OpenSpec.ofChange s with cond := some uptoSmall }

/-- 'laws.FnExactOpenRuns', WHERE WHAT IT READS IS OF BULK AT MOST 1048576: true; the input reads as it did. -/
def fnExactOpenRunsUptoRow : OpenClaim := { program := "ytaajchikfgbecaa", sum := "5c539035e4f8550d972de3e436b96a8885cae86e54385e4d2abdcacdaa212662", func := "loop.example/g00935/laws.FnExactOpenRuns", spec := "fnExactOpenRuns", plainKeys := false, apart := false, narrowed := true }
def FnExactOpenRunsUptoSaid : Prop := fnExactOpenRunsUptoRow.holds Try.pinned (OpenSpec.upto fnExactOpenRunsSpec)

/-- 'laws.FnCalm', WHERE WHAT IT READS IS OF BULK AT MOST 1048576: true; the input reads as it did. -/
def fnCalmUptoRow : OpenClaim := { program := "ytaajchikfgbecaa", sum := "5c539035e4f8550d972de3e436b96a8885cae86e54385e4d2abdcacdaa212662", func := "loop.example/g00935/laws.FnCalm", spec := "fnCalm", plainKeys := false, apart := false, narrowed := true }
def FnCalmUptoSaid : Prop := fnCalmUptoRow.holds Try.pinned (OpenSpec.upto fnCalmSpec)

/-- 'laws.FnExactStepsHome', WHERE WHAT IT READS IS OF BULK AT MOST 1048576: true; the input reads as it did. -/
def fnExactStepsHomeUptoRow : OpenClaim := { program := "ytaajchikfgbecaa", sum := "5c539035e4f8550d972de3e436b96a8885cae86e54385e4d2abdcacdaa212662", func := "loop.example/g00935/laws.FnExactStepsHome", spec := "fnExactStepsHome", plainKeys := false, apart := false, narrowed := true }
def FnExactStepsHomeUptoSaid : Prop := fnExactStepsHomeUptoRow.holds Try.pinned (OpenSpec.upto fnExactStepsHomeSpec)

/-- 'laws.FnExactStepsToRope', WHERE WHAT IT READS IS OF BULK AT MOST 1048576: true; the input reads as it did. -/
def fnExactStepsToRopeUptoRow : OpenClaim := { program := "ytaajchikfgbecaa", sum := "5c539035e4f8550d972de3e436b96a8885cae86e54385e4d2abdcacdaa212662", func := "loop.example/g00935/laws.FnExactStepsToRope", spec := "fnExactStepsToRope", plainKeys := false, apart := false, narrowed := true }
def FnExactStepsToRopeUptoSaid : Prop := fnExactStepsToRopeUptoRow.holds Try.pinned (OpenSpec.upto fnExactStepsToRopeSpec)

end Rows
end Go.Proofs.Ytaajchikfgbecaa
