/-
  No cell of these rows narrows 'for every input' (looked for: loops, veiled, ifaces, maps, wideKeys, modest, calm, conditions, laid).
  DERIVED. THE GIVEN ROWS OF THIS SEAT. 7 by the template 'for every input the law returns true; each argument reads behind the call as it read before'; 0 by the template 'total and deterministic' (their statements: YtpopcdnjnligiaaTotals.lean).
  GIVEN WITH THE SEED: the statements are not yours to turn. If you find one false, say at which input.
  Laid BY PROGRAM, IN A SANDBOX (cutbox-rows.mjs): the forced cells as the released guide's own fill.sh prints them over the translation 2272f58f3a34cdb6… (all of the seat's roots in one cut). By AI agents, Wed Nov 11 2026. No macro, syntax, notation, axiom, sorry.
-/
import Derived.Test.YtpopcdnjnligiaaChecked
import GoSem.Claim
import GoSem.ClaimJoined
import GoSem.ClaimMapViews
import Derived.JoinedTies
import Derived.KernelRfl
namespace Go.Proofs.Ytpopcdnjnligiaa
/- THE CELL 'sum', in the pinned program and in every row, IS THE sha256 OF THE DUMP (.gsa) THAT YtpopcdnjnligiaaProg.lean LOADS. Nothing in Lean hashes anything: it is a label: what it is worth is what the hold of that sum in a sandbox is worth. -/
noncomputable def Try.pinned : Pinned := { name := "ytpopcdnjnligiaa", sum := "2272f58f3a34cdb6139d0fb7c49336d8d6a48b729b1a15766042a847642a1998", checked := Try.checked }
namespace Rows
def none {H : Type} : Left H := { results := [], args := [] }

/-- 'laws.FnRopeways': WHATEVER THE INPUT: true; the input reads as it did. -/
def fnRopewaysSpec : ChangeSpec := { name := "fnRopeways", fn := fun _ => fun
  | [d] => { results := [.lit (.bool true)], args := [d] }
  | _ => none }
def fnRopewaysRow : OpenClaim := { program := "ytpopcdnjnligiaa", sum := "2272f58f3a34cdb6139d0fb7c49336d8d6a48b729b1a15766042a847642a1998", func := "loop.example/g00935/laws.FnRopeways", spec := "fnRopeways", unfollowed := true, recurses := true, plainKeys := false, apart := false }
def FnRopewaysSaid : Prop := fnRopewaysRow.holds Try.pinned (OpenSpec.ofChange fnRopewaysSpec)

/-- ITS FALSE NEIGHBOUR: 'it returns false'. Refute it at one input. -/
def fnRopewaysWrong : ChangeSpec := { name := "fnRopeways", fn := fun _ => fun
  | [d] => { results := [.lit (.bool false)], args := [d] }
  | _ => none }
def FnRopewaysWrongFalsely : Prop := fnRopewaysRow.holds Try.pinned (OpenSpec.ofChange fnRopewaysWrong)

/-- 'laws.FnTurns': WHATEVER THE INPUT: true; the input reads as it did. -/
def fnTurnsSpec : ChangeSpec := { name := "fnTurns", fn := fun _ => fun
  | [d] => { results := [.lit (.bool true)], args := [d] }
  | _ => none }
def fnTurnsRow : OpenClaim := { program := "ytpopcdnjnligiaa", sum := "2272f58f3a34cdb6139d0fb7c49336d8d6a48b729b1a15766042a847642a1998", func := "loop.example/g00935/laws.FnTurns", spec := "fnTurns", unfollowed := true, recurses := true, plainKeys := false, apart := false }
def FnTurnsSaid : Prop := fnTurnsRow.holds Try.pinned (OpenSpec.ofChange fnTurnsSpec)

/-- ITS FALSE NEIGHBOUR: 'it returns false'. Refute it at one input. -/
def fnTurnsWrong : ChangeSpec := { name := "fnTurns", fn := fun _ => fun
  | [d] => { results := [.lit (.bool false)], args := [d] }
  | _ => none }
def FnTurnsWrongFalsely : Prop := fnTurnsRow.holds Try.pinned (OpenSpec.ofChange fnTurnsWrong)

/-- 'laws.FnExactOpenRuns': WHATEVER THE INPUT: true; the input reads as it did. -/
def fnExactOpenRunsSpec : ChangeSpec := { name := "fnExactOpenRuns", fn := fun _ => fun
  | [d] => { results := [.lit (.bool true)], args := [d] }
  | _ => none }
def fnExactOpenRunsRow : OpenClaim := { program := "ytpopcdnjnligiaa", sum := "2272f58f3a34cdb6139d0fb7c49336d8d6a48b729b1a15766042a847642a1998", func := "loop.example/g00935/laws.FnExactOpenRuns", spec := "fnExactOpenRuns", plainKeys := false, apart := false }
def FnExactOpenRunsSaid : Prop := fnExactOpenRunsRow.holds Try.pinned (OpenSpec.ofChange fnExactOpenRunsSpec)

/-- ITS FALSE NEIGHBOUR: 'it returns false'. Refute it at one input. -/
def fnExactOpenRunsWrong : ChangeSpec := { name := "fnExactOpenRuns", fn := fun _ => fun
  | [d] => { results := [.lit (.bool false)], args := [d] }
  | _ => none }
def FnExactOpenRunsWrongFalsely : Prop := fnExactOpenRunsRow.holds Try.pinned (OpenSpec.ofChange fnExactOpenRunsWrong)

/-- 'laws.FnCalm': WHATEVER THE INPUT: true; the input reads as it did. -/
def fnCalmSpec : ChangeSpec := { name := "fnCalm", fn := fun _ => fun
  | [d] => { results := [.lit (.bool true)], args := [d] }
  | _ => none }
def fnCalmRow : OpenClaim := { program := "ytpopcdnjnligiaa", sum := "2272f58f3a34cdb6139d0fb7c49336d8d6a48b729b1a15766042a847642a1998", func := "loop.example/g00935/laws.FnCalm", spec := "fnCalm", plainKeys := false, apart := false }
def FnCalmSaid : Prop := fnCalmRow.holds Try.pinned (OpenSpec.ofChange fnCalmSpec)

/-- ITS FALSE NEIGHBOUR: 'it returns false'. Refute it at one input. -/
def fnCalmWrong : ChangeSpec := { name := "fnCalm", fn := fun _ => fun
  | [d] => { results := [.lit (.bool false)], args := [d] }
  | _ => none }
def FnCalmWrongFalsely : Prop := fnCalmRow.holds Try.pinned (OpenSpec.ofChange fnCalmWrong)

/-- 'laws.FnVotes': WHATEVER THE INPUT: true; the input reads as it did. -/
def fnVotesSpec : ChangeSpec := { name := "fnVotes", fn := fun _ => fun
  | [d] => { results := [.lit (.bool true)], args := [d] }
  | _ => none }
def fnVotesRow : OpenClaim := { program := "ytpopcdnjnligiaa", sum := "2272f58f3a34cdb6139d0fb7c49336d8d6a48b729b1a15766042a847642a1998", func := "loop.example/g00935/laws.FnVotes", spec := "fnVotes", unfollowed := true, recurses := true, plainKeys := false, apart := false }
def FnVotesSaid : Prop := fnVotesRow.holds Try.pinned (OpenSpec.ofChange fnVotesSpec)

/-- ITS FALSE NEIGHBOUR: 'it returns false'. Refute it at one input. -/
def fnVotesWrong : ChangeSpec := { name := "fnVotes", fn := fun _ => fun
  | [d] => { results := [.lit (.bool false)], args := [d] }
  | _ => none }
def FnVotesWrongFalsely : Prop := fnVotesRow.holds Try.pinned (OpenSpec.ofChange fnVotesWrong)

/-- 'laws.FnExactStepsHome': WHATEVER THE INPUT: true; the input reads as it did. -/
def fnExactStepsHomeSpec : ChangeSpec := { name := "fnExactStepsHome", fn := fun _ => fun
  | [d] => { results := [.lit (.bool true)], args := [d] }
  | _ => none }
def fnExactStepsHomeRow : OpenClaim := { program := "ytpopcdnjnligiaa", sum := "2272f58f3a34cdb6139d0fb7c49336d8d6a48b729b1a15766042a847642a1998", func := "loop.example/g00935/laws.FnExactStepsHome", spec := "fnExactStepsHome", plainKeys := false, apart := false }
def FnExactStepsHomeSaid : Prop := fnExactStepsHomeRow.holds Try.pinned (OpenSpec.ofChange fnExactStepsHomeSpec)

/-- ITS FALSE NEIGHBOUR: 'it returns false'. Refute it at one input. -/
def fnExactStepsHomeWrong : ChangeSpec := { name := "fnExactStepsHome", fn := fun _ => fun
  | [d] => { results := [.lit (.bool false)], args := [d] }
  | _ => none }
def FnExactStepsHomeWrongFalsely : Prop := fnExactStepsHomeRow.holds Try.pinned (OpenSpec.ofChange fnExactStepsHomeWrong)

/-- 'laws.FnExactStepsToRope': WHATEVER THE INPUT: true; the input reads as it did. -/
def fnExactStepsToRopeSpec : ChangeSpec := { name := "fnExactStepsToRope", fn := fun _ => fun
  | [d] => { results := [.lit (.bool true)], args := [d] }
  | _ => none }
def fnExactStepsToRopeRow : OpenClaim := { program := "ytpopcdnjnligiaa", sum := "2272f58f3a34cdb6139d0fb7c49336d8d6a48b729b1a15766042a847642a1998", func := "loop.example/g00935/laws.FnExactStepsToRope", spec := "fnExactStepsToRope", plainKeys := false, apart := false }
def FnExactStepsToRopeSaid : Prop := fnExactStepsToRopeRow.holds Try.pinned (OpenSpec.ofChange fnExactStepsToRopeSpec)

/-- ITS FALSE NEIGHBOUR: 'it returns false'. Refute it at one input. -/
def fnExactStepsToRopeWrong : ChangeSpec := { name := "fnExactStepsToRope", fn := fun _ => fun
  | [d] => { results := [.lit (.bool false)], args := [d] }
  | _ => none }
def FnExactStepsToRopeWrongFalsely : Prop := fnExactStepsToRopeRow.holds Try.pinned (OpenSpec.ofChange fnExactStepsToRopeWrong)

/- THE SECOND FORM. 'bulk': how many values and letters a reading holds, each counted each time it is reached (what is shared counts as often as it is met; a slice's spare places count too). A statement '..UptoSaid' is the law's where the arguments, and the package variables that the reading takes, are together of bulk at most 1048576: NARROWER than '..Said'. Prove '..Said' where nothing that the law and all that it calls make is longer than what came in: it says more and counts as full. Else prove '..UptoSaid'. A law counts once. -/
mutual
def uptoBulk {H : Type} : DataW H → Nat
  | .lit (.string bytes) => bytes.length + 1
  | .lit _ => 1
  | .nil => 1
  | .ptr d => uptoBulk d + 1
  | .slice elems spare => uptoBulkAll elems + uptoBulkAll spare + 1
  | .agg parts => uptoBulkAll parts + 1
  | .iface _ d => uptoBulk d + 1
  | .map entries => uptoBulkEntries entries + 1
  | .held _ => 1
def uptoBulkAll {H : Type} : List (DataW H) → Nat
  | [] => 0
  | d :: r => uptoBulk d + uptoBulkAll r
def uptoBulkEntries {H : Type} : List (Lit × DataW H) → Nat
  | [] => 0
  | x :: r => uptoBulkEntry x + uptoBulkEntries r
def uptoBulkEntry {H : Type} : Lit × DataW H → Nat
  | (.string bytes, d) => bytes.length + uptoBulk d + 1
  | (_, d) => uptoBulk d + 1
 end
def uptoSmall : (H : Type) → List (DataW H) → Bool := fun _ ds => decide (uptoBulkAll ds ≤ 1048576)
def OpenSpec.upto (s : _root_.Go.ChangeSpec) : _root_.Go.OpenSpec := { _root_.Go.OpenSpec.ofChange s with cond := some uptoSmall }

/-- 'laws.FnRopeways', WHERE WHAT IT READS IS OF BULK AT MOST 1048576: true; the input reads as it did. -/
def fnRopewaysUptoRow : OpenClaim := { program := "ytpopcdnjnligiaa", sum := "2272f58f3a34cdb6139d0fb7c49336d8d6a48b729b1a15766042a847642a1998", func := "loop.example/g00935/laws.FnRopeways", spec := "fnRopeways", unfollowed := true, recurses := true, plainKeys := false, apart := false, narrowed := true }
def FnRopewaysUptoSaid : Prop := fnRopewaysUptoRow.holds Try.pinned (OpenSpec.upto fnRopewaysSpec)

/-- 'laws.FnTurns', WHERE WHAT IT READS IS OF BULK AT MOST 1048576: true; the input reads as it did. -/
def fnTurnsUptoRow : OpenClaim := { program := "ytpopcdnjnligiaa", sum := "2272f58f3a34cdb6139d0fb7c49336d8d6a48b729b1a15766042a847642a1998", func := "loop.example/g00935/laws.FnTurns", spec := "fnTurns", unfollowed := true, recurses := true, plainKeys := false, apart := false, narrowed := true }
def FnTurnsUptoSaid : Prop := fnTurnsUptoRow.holds Try.pinned (OpenSpec.upto fnTurnsSpec)

/-- 'laws.FnExactOpenRuns', WHERE WHAT IT READS IS OF BULK AT MOST 1048576: true; the input reads as it did. -/
def fnExactOpenRunsUptoRow : OpenClaim := { program := "ytpopcdnjnligiaa", sum := "2272f58f3a34cdb6139d0fb7c49336d8d6a48b729b1a15766042a847642a1998", func := "loop.example/g00935/laws.FnExactOpenRuns", spec := "fnExactOpenRuns", plainKeys := false, apart := false, narrowed := true }
def FnExactOpenRunsUptoSaid : Prop := fnExactOpenRunsUptoRow.holds Try.pinned (OpenSpec.upto fnExactOpenRunsSpec)

/-- 'laws.FnCalm', WHERE WHAT IT READS IS OF BULK AT MOST 1048576: true; the input reads as it did. -/
def fnCalmUptoRow : OpenClaim := { program := "ytpopcdnjnligiaa", sum := "2272f58f3a34cdb6139d0fb7c49336d8d6a48b729b1a15766042a847642a1998", func := "loop.example/g00935/laws.FnCalm", spec := "fnCalm", plainKeys := false, apart := false, narrowed := true }
def FnCalmUptoSaid : Prop := fnCalmUptoRow.holds Try.pinned (OpenSpec.upto fnCalmSpec)

/-- 'laws.FnVotes', WHERE WHAT IT READS IS OF BULK AT MOST 1048576: true; the input reads as it did. -/
def fnVotesUptoRow : OpenClaim := { program := "ytpopcdnjnligiaa", sum := "2272f58f3a34cdb6139d0fb7c49336d8d6a48b729b1a15766042a847642a1998", func := "loop.example/g00935/laws.FnVotes", spec := "fnVotes", unfollowed := true, recurses := true, plainKeys := false, apart := false, narrowed := true }
def FnVotesUptoSaid : Prop := fnVotesUptoRow.holds Try.pinned (OpenSpec.upto fnVotesSpec)

/-- 'laws.FnExactStepsHome', WHERE WHAT IT READS IS OF BULK AT MOST 1048576: true; the input reads as it did. -/
def fnExactStepsHomeUptoRow : OpenClaim := { program := "ytpopcdnjnligiaa", sum := "2272f58f3a34cdb6139d0fb7c49336d8d6a48b729b1a15766042a847642a1998", func := "loop.example/g00935/laws.FnExactStepsHome", spec := "fnExactStepsHome", plainKeys := false, apart := false, narrowed := true }
def FnExactStepsHomeUptoSaid : Prop := fnExactStepsHomeUptoRow.holds Try.pinned (OpenSpec.upto fnExactStepsHomeSpec)

/-- 'laws.FnExactStepsToRope', WHERE WHAT IT READS IS OF BULK AT MOST 1048576: true; the input reads as it did. -/
def fnExactStepsToRopeUptoRow : OpenClaim := { program := "ytpopcdnjnligiaa", sum := "2272f58f3a34cdb6139d0fb7c49336d8d6a48b729b1a15766042a847642a1998", func := "loop.example/g00935/laws.FnExactStepsToRope", spec := "fnExactStepsToRope", plainKeys := false, apart := false, narrowed := true }
def FnExactStepsToRopeUptoSaid : Prop := fnExactStepsToRopeUptoRow.holds Try.pinned (OpenSpec.upto fnExactStepsToRopeSpec)

end Rows
end Go.Proofs.Ytpopcdnjnligiaa
