/-
  No cell of these rows narrows 'for every input' (looked for: loops, veiled, ifaces, maps, wideKeys, modest, calm, conditions, laid).
  DERIVED. THE GIVEN ROWS OF THIS SEAT. 11 by the template 'for every input the law returns true; each argument reads behind the call as it read before'; 0 by the template 'total and deterministic' (their statements: YtdlgljedjdnepaaTotals.lean).
  GIVEN WITH THE SEED: the statements are not yours to turn. If you find one false, say at which input.
  Laid BY PROGRAM, IN A SANDBOX (cutbox-rows.mjs): the forced cells as the released guide's own fill.sh prints them over the translation fbb111829279f583… (all of the seat's roots in one cut). By AI agents, Wed Nov 11 2026. No macro, syntax, notation, axiom, sorry.
-/
import Derived.Test.YtdlgljedjdnepaaChecked
import GoSem.Claim
import GoSem.ClaimJoined
import GoSem.ClaimMapViews
import Derived.JoinedTies
import Derived.KernelRfl
namespace Go.Proofs.Ytdlgljedjdnepaa
/- THE CELL 'sum', in the pinned program and in every row, IS THE sha256 OF THE DUMP (.gsa) THAT YtdlgljedjdnepaaProg.lean LOADS. Nothing in Lean hashes anything: it is a label: what it is worth is what the hold of that sum in a sandbox is worth. -/
noncomputable def Try.pinned : Pinned := { name := "ytdlgljedjdnepaa", sum := "fbb111829279f58362b71b9d9fea212559dc4e961ec8f98408d47d169d24ed60", checked := Try.checked }
namespace Rows
def none {H : Type} : Left H := { results := [], args := [] }

/-- 'laws.FnExactIsRopeway': WHATEVER THE INPUT: true; the input reads as it did. -/
def fnExactIsRopewaySpec : ChangeSpec := { name := "fnExactIsRopeway", fn := fun _ => fun
  | [d] => { results := [.lit (.bool true)], args := [d] }
  | _ => none }
def fnExactIsRopewayRow : OpenClaim := { program := "ytdlgljedjdnepaa", sum := "fbb111829279f58362b71b9d9fea212559dc4e961ec8f98408d47d169d24ed60", func := "loop.example/g00935/laws.FnExactIsRopeway", spec := "fnExactIsRopeway", unfollowed := true, recurses := true, apart := false }
def FnExactIsRopewaySaid : Prop := fnExactIsRopewayRow.holds Try.pinned (OpenSpec.ofChange fnExactIsRopewaySpec)

/-- ITS FALSE NEIGHBOUR: 'it returns false'. Refute it at one input. -/
def fnExactIsRopewayWrong : ChangeSpec := { name := "fnExactIsRopeway", fn := fun _ => fun
  | [d] => { results := [.lit (.bool false)], args := [d] }
  | _ => none }
def FnExactIsRopewayWrongFalsely : Prop := fnExactIsRopewayRow.holds Try.pinned (OpenSpec.ofChange fnExactIsRopewayWrong)

/-- 'laws.FnRopeways': WHATEVER THE INPUT: true; the input reads as it did. -/
def fnRopewaysSpec : ChangeSpec := { name := "fnRopeways", fn := fun _ => fun
  | [d] => { results := [.lit (.bool true)], args := [d] }
  | _ => none }
def fnRopewaysRow : OpenClaim := { program := "ytdlgljedjdnepaa", sum := "fbb111829279f58362b71b9d9fea212559dc4e961ec8f98408d47d169d24ed60", func := "loop.example/g00935/laws.FnRopeways", spec := "fnRopeways", unfollowed := true, recurses := true, apart := false }
def FnRopewaysSaid : Prop := fnRopewaysRow.holds Try.pinned (OpenSpec.ofChange fnRopewaysSpec)

/-- ITS FALSE NEIGHBOUR: 'it returns false'. Refute it at one input. -/
def fnRopewaysWrong : ChangeSpec := { name := "fnRopeways", fn := fun _ => fun
  | [d] => { results := [.lit (.bool false)], args := [d] }
  | _ => none }
def FnRopewaysWrongFalsely : Prop := fnRopewaysRow.holds Try.pinned (OpenSpec.ofChange fnRopewaysWrong)

/-- 'laws.FnExactNewRopeway': WHATEVER THE INPUT: true; the input reads as it did. -/
def fnExactNewRopewaySpec : ChangeSpec := { name := "fnExactNewRopeway", fn := fun _ => fun
  | [d1, d2] => { results := [.lit (.bool true)], args := [d1, d2] }
  | _ => none }
def fnExactNewRopewayRow : OpenClaim := { program := "ytdlgljedjdnepaa", sum := "fbb111829279f58362b71b9d9fea212559dc4e961ec8f98408d47d169d24ed60", func := "loop.example/g00935/laws.FnExactNewRopeway", spec := "fnExactNewRopeway", unfollowed := true, recurses := true, apart := false }
def FnExactNewRopewaySaid : Prop := fnExactNewRopewayRow.holds Try.pinned (OpenSpec.ofChange fnExactNewRopewaySpec)

/-- ITS FALSE NEIGHBOUR: 'it returns false'. Refute it at one input. -/
def fnExactNewRopewayWrong : ChangeSpec := { name := "fnExactNewRopeway", fn := fun _ => fun
  | [d1, d2] => { results := [.lit (.bool false)], args := [d1, d2] }
  | _ => none }
def FnExactNewRopewayWrongFalsely : Prop := fnExactNewRopewayRow.holds Try.pinned (OpenSpec.ofChange fnExactNewRopewayWrong)

/-- 'laws.FnExactCabinAt': WHATEVER THE INPUT: true; the input reads as it did. -/
def fnExactCabinAtSpec : ChangeSpec := { name := "fnExactCabinAt", fn := fun _ => fun
  | [d1, d2] => { results := [.lit (.bool true)], args := [d1, d2] }
  | _ => none }
def fnExactCabinAtRow : OpenClaim := { program := "ytdlgljedjdnepaa", sum := "fbb111829279f58362b71b9d9fea212559dc4e961ec8f98408d47d169d24ed60", func := "loop.example/g00935/laws.FnExactCabinAt", spec := "fnExactCabinAt", unfollowed := true, recurses := true, apart := false }
def FnExactCabinAtSaid : Prop := fnExactCabinAtRow.holds Try.pinned (OpenSpec.ofChange fnExactCabinAtSpec)

/-- ITS FALSE NEIGHBOUR: 'it returns false'. Refute it at one input. -/
def fnExactCabinAtWrong : ChangeSpec := { name := "fnExactCabinAt", fn := fun _ => fun
  | [d1, d2] => { results := [.lit (.bool false)], args := [d1, d2] }
  | _ => none }
def FnExactCabinAtWrongFalsely : Prop := fnExactCabinAtRow.holds Try.pinned (OpenSpec.ofChange fnExactCabinAtWrong)

/-- 'laws.FnExactIsCleared': WHATEVER THE INPUT: true; the input reads as it did. -/
def fnExactIsClearedSpec : ChangeSpec := { name := "fnExactIsCleared", fn := fun _ => fun
  | [d] => { results := [.lit (.bool true)], args := [d] }
  | _ => none }
def fnExactIsClearedRow : OpenClaim := { program := "ytdlgljedjdnepaa", sum := "fbb111829279f58362b71b9d9fea212559dc4e961ec8f98408d47d169d24ed60", func := "loop.example/g00935/laws.FnExactIsCleared", spec := "fnExactIsCleared", unfollowed := true, recurses := true, apart := false }
def FnExactIsClearedSaid : Prop := fnExactIsClearedRow.holds Try.pinned (OpenSpec.ofChange fnExactIsClearedSpec)

/-- ITS FALSE NEIGHBOUR: 'it returns false'. Refute it at one input. -/
def fnExactIsClearedWrong : ChangeSpec := { name := "fnExactIsCleared", fn := fun _ => fun
  | [d] => { results := [.lit (.bool false)], args := [d] }
  | _ => none }
def FnExactIsClearedWrongFalsely : Prop := fnExactIsClearedRow.holds Try.pinned (OpenSpec.ofChange fnExactIsClearedWrong)

/-- 'laws.FnExactPeopleOn': WHATEVER THE INPUT: true; the input reads as it did. -/
def fnExactPeopleOnSpec : ChangeSpec := { name := "fnExactPeopleOn", fn := fun _ => fun
  | [d] => { results := [.lit (.bool true)], args := [d] }
  | _ => none }
def fnExactPeopleOnRow : OpenClaim := { program := "ytdlgljedjdnepaa", sum := "fbb111829279f58362b71b9d9fea212559dc4e961ec8f98408d47d169d24ed60", func := "loop.example/g00935/laws.FnExactPeopleOn", spec := "fnExactPeopleOn", unfollowed := true, recurses := true, apart := false }
def FnExactPeopleOnSaid : Prop := fnExactPeopleOnRow.holds Try.pinned (OpenSpec.ofChange fnExactPeopleOnSpec)

/-- ITS FALSE NEIGHBOUR: 'it returns false'. Refute it at one input. -/
def fnExactPeopleOnWrong : ChangeSpec := { name := "fnExactPeopleOn", fn := fun _ => fun
  | [d] => { results := [.lit (.bool false)], args := [d] }
  | _ => none }
def FnExactPeopleOnWrongFalsely : Prop := fnExactPeopleOnRow.holds Try.pinned (OpenSpec.ofChange fnExactPeopleOnWrong)

/-- 'laws.FnExactTurnsTo': WHATEVER THE INPUT: true; the input reads as it did. -/
def fnExactTurnsToSpec : ChangeSpec := { name := "fnExactTurnsTo", fn := fun _ => fun
  | [d1, d2, d3] => { results := [.lit (.bool true)], args := [d1, d2, d3] }
  | _ => none }
def fnExactTurnsToRow : OpenClaim := { program := "ytdlgljedjdnepaa", sum := "fbb111829279f58362b71b9d9fea212559dc4e961ec8f98408d47d169d24ed60", func := "loop.example/g00935/laws.FnExactTurnsTo", spec := "fnExactTurnsTo", unfollowed := true, recurses := true, apart := false }
def FnExactTurnsToSaid : Prop := fnExactTurnsToRow.holds Try.pinned (OpenSpec.ofChange fnExactTurnsToSpec)

/-- ITS FALSE NEIGHBOUR: 'it returns false'. Refute it at one input. -/
def fnExactTurnsToWrong : ChangeSpec := { name := "fnExactTurnsTo", fn := fun _ => fun
  | [d1, d2, d3] => { results := [.lit (.bool false)], args := [d1, d2, d3] }
  | _ => none }
def FnExactTurnsToWrongFalsely : Prop := fnExactTurnsToRow.holds Try.pinned (OpenSpec.ofChange fnExactTurnsToWrong)

/-- 'laws.FnExactOpenDoors': WHATEVER THE INPUT: true; the input reads as it did. -/
def fnExactOpenDoorsSpec : ChangeSpec := { name := "fnExactOpenDoors", fn := fun _ => fun
  | [d] => { results := [.lit (.bool true)], args := [d] }
  | _ => none }
def fnExactOpenDoorsRow : OpenClaim := { program := "ytdlgljedjdnepaa", sum := "fbb111829279f58362b71b9d9fea212559dc4e961ec8f98408d47d169d24ed60", func := "loop.example/g00935/laws.FnExactOpenDoors", spec := "fnExactOpenDoors", unfollowed := true, recurses := true, apart := false }
def FnExactOpenDoorsSaid : Prop := fnExactOpenDoorsRow.holds Try.pinned (OpenSpec.ofChange fnExactOpenDoorsSpec)

/-- ITS FALSE NEIGHBOUR: 'it returns false'. Refute it at one input. -/
def fnExactOpenDoorsWrong : ChangeSpec := { name := "fnExactOpenDoors", fn := fun _ => fun
  | [d] => { results := [.lit (.bool false)], args := [d] }
  | _ => none }
def FnExactOpenDoorsWrongFalsely : Prop := fnExactOpenDoorsRow.holds Try.pinned (OpenSpec.ofChange fnExactOpenDoorsWrong)

/-- 'laws.FnExactStepRopeway': WHATEVER THE INPUT: true; the input reads as it did. -/
def fnExactStepRopewaySpec : ChangeSpec := { name := "fnExactStepRopeway", fn := fun _ => fun
  | [d1, d2] => { results := [.lit (.bool true)], args := [d1, d2] }
  | _ => none }
def fnExactStepRopewayRow : OpenClaim := { program := "ytdlgljedjdnepaa", sum := "fbb111829279f58362b71b9d9fea212559dc4e961ec8f98408d47d169d24ed60", func := "loop.example/g00935/laws.FnExactStepRopeway", spec := "fnExactStepRopeway", unfollowed := true, recurses := true, apart := false }
def FnExactStepRopewaySaid : Prop := fnExactStepRopewayRow.holds Try.pinned (OpenSpec.ofChange fnExactStepRopewaySpec)

/-- ITS FALSE NEIGHBOUR: 'it returns false'. Refute it at one input. -/
def fnExactStepRopewayWrong : ChangeSpec := { name := "fnExactStepRopeway", fn := fun _ => fun
  | [d1, d2] => { results := [.lit (.bool false)], args := [d1, d2] }
  | _ => none }
def FnExactStepRopewayWrongFalsely : Prop := fnExactStepRopewayRow.holds Try.pinned (OpenSpec.ofChange fnExactStepRopewayWrong)

/-- 'laws.FnExactRunRopeway': WHATEVER THE INPUT: true; the input reads as it did. -/
def fnExactRunRopewaySpec : ChangeSpec := { name := "fnExactRunRopeway", fn := fun _ => fun
  | [d1, d2] => { results := [.lit (.bool true)], args := [d1, d2] }
  | _ => none }
def fnExactRunRopewayRow : OpenClaim := { program := "ytdlgljedjdnepaa", sum := "fbb111829279f58362b71b9d9fea212559dc4e961ec8f98408d47d169d24ed60", func := "loop.example/g00935/laws.FnExactRunRopeway", spec := "fnExactRunRopeway", unfollowed := true, recurses := true, apart := false }
def FnExactRunRopewaySaid : Prop := fnExactRunRopewayRow.holds Try.pinned (OpenSpec.ofChange fnExactRunRopewaySpec)

/-- ITS FALSE NEIGHBOUR: 'it returns false'. Refute it at one input. -/
def fnExactRunRopewayWrong : ChangeSpec := { name := "fnExactRunRopeway", fn := fun _ => fun
  | [d1, d2] => { results := [.lit (.bool false)], args := [d1, d2] }
  | _ => none }
def FnExactRunRopewayWrongFalsely : Prop := fnExactRunRopewayRow.holds Try.pinned (OpenSpec.ofChange fnExactRunRopewayWrong)

/-- 'laws.FnTurns': WHATEVER THE INPUT: true; the input reads as it did. -/
def fnTurnsSpec : ChangeSpec := { name := "fnTurns", fn := fun _ => fun
  | [d] => { results := [.lit (.bool true)], args := [d] }
  | _ => none }
def fnTurnsRow : OpenClaim := { program := "ytdlgljedjdnepaa", sum := "fbb111829279f58362b71b9d9fea212559dc4e961ec8f98408d47d169d24ed60", func := "loop.example/g00935/laws.FnTurns", spec := "fnTurns", unfollowed := true, recurses := true, apart := false }
def FnTurnsSaid : Prop := fnTurnsRow.holds Try.pinned (OpenSpec.ofChange fnTurnsSpec)

/-- ITS FALSE NEIGHBOUR: 'it returns false'. Refute it at one input. -/
def fnTurnsWrong : ChangeSpec := { name := "fnTurns", fn := fun _ => fun
  | [d] => { results := [.lit (.bool false)], args := [d] }
  | _ => none }
def FnTurnsWrongFalsely : Prop := fnTurnsRow.holds Try.pinned (OpenSpec.ofChange fnTurnsWrong)

/- THE SECOND FORM. 'bulk': how many values and letters a reading holds, each counted each time it is reached (what is shared counts as often as it is met; a slice's spare places count too). A statement '..UptoSaid' is the law's where the arguments, and the package variables that the reading takes, are together of bulk at most 1048576: NARROWER than '..Said'. Prove '..Said' where nothing that the law and all that it calls make is longer than what came in: it says more and counts as full. Else prove '..UptoSaid'. A law counts once. -/
mutual
def uptoBulk {H : Type} : DataW H → Nat
  | .lit (.string bytes) => bytes.length + 1
  | .lit _ => 1
  | .nil => 1
  | .ptr d => uptoBulk d + 1
  | .slice elems spare => uptoBulkAll elems + uptoBulkAll spare + 1
  | .agg parts => uptoBulkAll parts + 1
  | .iface _ d => uptoBulk d + 1
  | .map entries => uptoBulkEntries entries + 1
  | .held _ => 1
def uptoBulkAll {H : Type} : List (DataW H) → Nat
  | [] => 0
  | d :: r => uptoBulk d + uptoBulkAll r
def uptoBulkEntries {H : Type} : List (Lit × DataW H) → Nat
  | [] => 0
  | x :: r => uptoBulkEntry x + uptoBulkEntries r
def uptoBulkEntry {H : Type} : Lit × DataW H → Nat
  | (.string bytes, d) => bytes.length + uptoBulk d + 1
  | (_, d) => uptoBulk d + 1
 end
def uptoSmall : (H : Type) → List (DataW H) → Bool := fun _ ds => decide (uptoBulkAll ds ≤ 1048576)
def OpenSpec.upto (s : _root_.Go.ChangeSpec) : _root_.Go.OpenSpec := { _root_.Go.OpenSpec.ofChange s with cond := some uptoSmall }

/-- 'laws.FnExactIsRopeway', WHERE WHAT IT READS IS OF BULK AT MOST 1048576: true; the input reads as it did. -/
def fnExactIsRopewayUptoRow : OpenClaim := { program := "ytdlgljedjdnepaa", sum := "fbb111829279f58362b71b9d9fea212559dc4e961ec8f98408d47d169d24ed60", func := "loop.example/g00935/laws.FnExactIsRopeway", spec := "fnExactIsRopeway", unfollowed := true, recurses := true, apart := false, narrowed := true }
def FnExactIsRopewayUptoSaid : Prop := fnExactIsRopewayUptoRow.holds Try.pinned (OpenSpec.upto fnExactIsRopewaySpec)

/-- 'laws.FnRopeways', WHERE WHAT IT READS IS OF BULK AT MOST 1048576: true; the input reads as it did. -/
def fnRopewaysUptoRow : OpenClaim := { program := "ytdlgljedjdnepaa", sum := "fbb111829279f58362b71b9d9fea212559dc4e961ec8f98408d47d169d24ed60", func := "loop.example/g00935/laws.FnRopeways", spec := "fnRopeways", unfollowed := true, recurses := true, apart := false, narrowed := true }
def FnRopewaysUptoSaid : Prop := fnRopewaysUptoRow.holds Try.pinned (OpenSpec.upto fnRopewaysSpec)

/-- 'laws.FnExactNewRopeway', WHERE WHAT IT READS IS OF BULK AT MOST 1048576: true; the input reads as it did. -/
def fnExactNewRopewayUptoRow : OpenClaim := { program := "ytdlgljedjdnepaa", sum := "fbb111829279f58362b71b9d9fea212559dc4e961ec8f98408d47d169d24ed60", func := "loop.example/g00935/laws.FnExactNewRopeway", spec := "fnExactNewRopeway", unfollowed := true, recurses := true, apart := false, narrowed := true }
def FnExactNewRopewayUptoSaid : Prop := fnExactNewRopewayUptoRow.holds Try.pinned (OpenSpec.upto fnExactNewRopewaySpec)

/-- 'laws.FnExactCabinAt', WHERE WHAT IT READS IS OF BULK AT MOST 1048576: true; the input reads as it did. -/
def fnExactCabinAtUptoRow : OpenClaim := { program := "ytdlgljedjdnepaa", sum := "fbb111829279f58362b71b9d9fea212559dc4e961ec8f98408d47d169d24ed60", func := "loop.example/g00935/laws.FnExactCabinAt", spec := "fnExactCabinAt", unfollowed := true, recurses := true, apart := false, narrowed := true }
def FnExactCabinAtUptoSaid : Prop := fnExactCabinAtUptoRow.holds Try.pinned (OpenSpec.upto fnExactCabinAtSpec)

/-- 'laws.FnExactIsCleared', WHERE WHAT IT READS IS OF BULK AT MOST 1048576: true; the input reads as it did. -/
def fnExactIsClearedUptoRow : OpenClaim := { program := "ytdlgljedjdnepaa", sum := "fbb111829279f58362b71b9d9fea212559dc4e961ec8f98408d47d169d24ed60", func := "loop.example/g00935/laws.FnExactIsCleared", spec := "fnExactIsCleared", unfollowed := true, recurses := true, apart := false, narrowed := true }
def FnExactIsClearedUptoSaid : Prop := fnExactIsClearedUptoRow.holds Try.pinned (OpenSpec.upto fnExactIsClearedSpec)

/-- 'laws.FnExactPeopleOn', WHERE WHAT IT READS IS OF BULK AT MOST 1048576: true; the input reads as it did. -/
def fnExactPeopleOnUptoRow : OpenClaim := { program := "ytdlgljedjdnepaa", sum := "fbb111829279f58362b71b9d9fea212559dc4e961ec8f98408d47d169d24ed60", func := "loop.example/g00935/laws.FnExactPeopleOn", spec := "fnExactPeopleOn", unfollowed := true, recurses := true, apart := false, narrowed := true }
def FnExactPeopleOnUptoSaid : Prop := fnExactPeopleOnUptoRow.holds Try.pinned (OpenSpec.upto fnExactPeopleOnSpec)

/-- 'laws.FnExactTurnsTo', WHERE WHAT IT READS IS OF BULK AT MOST 1048576: true; the input reads as it did. -/
def fnExactTurnsToUptoRow : OpenClaim := { program := "ytdlgljedjdnepaa", sum := "fbb111829279f58362b71b9d9fea212559dc4e961ec8f98408d47d169d24ed60", func := "loop.example/g00935/laws.FnExactTurnsTo", spec := "fnExactTurnsTo", unfollowed := true, recurses := true, apart := false, narrowed := true }
def FnExactTurnsToUptoSaid : Prop := fnExactTurnsToUptoRow.holds Try.pinned (OpenSpec.upto fnExactTurnsToSpec)

/-- 'laws.FnExactOpenDoors', WHERE WHAT IT READS IS OF BULK AT MOST 1048576: true; the input reads as it did. -/
def fnExactOpenDoorsUptoRow : OpenClaim := { program := "ytdlgljedjdnepaa", sum := "fbb111829279f58362b71b9d9fea212559dc4e961ec8f98408d47d169d24ed60", func := "loop.example/g00935/laws.FnExactOpenDoors", spec := "fnExactOpenDoors", unfollowed := true, recurses := true, apart := false, narrowed := true }
def FnExactOpenDoorsUptoSaid : Prop := fnExactOpenDoorsUptoRow.holds Try.pinned (OpenSpec.upto fnExactOpenDoorsSpec)

/-- 'laws.FnExactStepRopeway', WHERE WHAT IT READS IS OF BULK AT MOST 1048576: true; the input reads as it did. -/
def fnExactStepRopewayUptoRow : OpenClaim := { program := "ytdlgljedjdnepaa", sum := "fbb111829279f58362b71b9d9fea212559dc4e961ec8f98408d47d169d24ed60", func := "loop.example/g00935/laws.FnExactStepRopeway", spec := "fnExactStepRopeway", unfollowed := true, recurses := true, apart := false, narrowed := true }
def FnExactStepRopewayUptoSaid : Prop := fnExactStepRopewayUptoRow.holds Try.pinned (OpenSpec.upto fnExactStepRopewaySpec)

/-- 'laws.FnExactRunRopeway', WHERE WHAT IT READS IS OF BULK AT MOST 1048576: true; the input reads as it did. -/
def fnExactRunRopewayUptoRow : OpenClaim := { program := "ytdlgljedjdnepaa", sum := "fbb111829279f58362b71b9d9fea212559dc4e961ec8f98408d47d169d24ed60", func := "loop.example/g00935/laws.FnExactRunRopeway", spec := "fnExactRunRopeway", unfollowed := true, recurses := true, apart := false, narrowed := true }
def FnExactRunRopewayUptoSaid : Prop := fnExactRunRopewayUptoRow.holds Try.pinned (OpenSpec.upto fnExactRunRopewaySpec)

/-- 'laws.FnTurns', WHERE WHAT IT READS IS OF BULK AT MOST 1048576: true; the input reads as it did. -/
def fnTurnsUptoRow : OpenClaim := { program := "ytdlgljedjdnepaa", sum := "fbb111829279f58362b71b9d9fea212559dc4e961ec8f98408d47d169d24ed60", func := "loop.example/g00935/laws.FnTurns", spec := "fnTurns", unfollowed := true, recurses := true, apart := false, narrowed := true }
def FnTurnsUptoSaid : Prop := fnTurnsUptoRow.holds Try.pinned (OpenSpec.upto fnTurnsSpec)

end Rows
end Go.Proofs.Ytdlgljedjdnepaa
