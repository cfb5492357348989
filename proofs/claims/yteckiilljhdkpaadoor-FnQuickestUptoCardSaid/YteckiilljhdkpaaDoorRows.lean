/-
  NARROWER THAN 'FOR EVERY INPUT', by the rows' own cells (each row's printed sentence says how): FnExactDayLine: laid · FnExactWeekText: laid · FnExactPossibleKinds: laid · FnExactStepPlatform: laid · FnExactRunPlatform: laid · FnBoarding: laid · FnExactQuickestGo: laid · FnQuickest: laid.
  DERIVED. THE GIVEN ROWS OF THIS SEAT. 8 by the template 'for every input the law returns true; each argument reads behind the call as it read before'; 0 by the template 'total and deterministic' (their statements: YteckiilljhdkpaaDoorTotals.lean).
  GIVEN WITH THE SEED: the statements are not yours to turn. If you find one false, say at which input.
  Laid BY PROGRAM, IN A SANDBOX (cutbox-rows.mjs): the forced cells as the released guide's own fill.sh prints them over the translation 2eda5bd9b8a24a54… (all of the seat's roots in one cut). By AI agents, Wed Nov 11 2026. No macro, syntax, notation, axiom, sorry.
-/
import Derived.Test.YteckiilljhdkpaaDoorChecked
import GoSem.Claim
import GoSem.ClaimJoined
import GoSem.ClaimMapViews
import Derived.JoinedTies
import Derived.KernelRfl
namespace Go.Proofs.YteckiilljhdkpaaDoor
/- THE CELL 'sum', in the pinned program and in every row, IS THE sha256 OF THE DUMP (.gsa) THAT YteckiilljhdkpaaDoorProg.lean LOADS. Nothing in Lean hashes anything: it is a label: what it is worth is what the hold of that sum in a sandbox is worth. -/
noncomputable def Tryd.pinned : Pinned := { name := "yteckiilljhdkpaadoor", sum := "2eda5bd9b8a24a541aca8c798ef4d9e743031add87e79815491daa2ca7c71824", checked := Tryd.checked }
namespace Rows
def none {H : Type} : Left H := { results := [], args := [] }

/- WHAT THE LISTED PACKAGE-LEVEL VARIABLES READ AS WHEN THE CALL BEGINS. Each datum BY PROGRAM (the guide's laid-datum.mjs) off the statement by which the dump's own 'gosem.cut.vars' lays the variable. In a bare row this is a premise. The card (YteckiilljhdkpaaDoorCards.lean) ties it to the program's text. -/
def laid_math_bits_deBruijn32tab {H : Type} : DataW H := .agg [.lit (.int .u8 0), .lit (.int .u8 1), .lit (.int .u8 28), .lit (.int .u8 2), .lit (.int .u8 29), .lit (.int .u8 14), .lit (.int .u8 24), .lit (.int .u8 3), .lit (.int .u8 30), .lit (.int .u8 22), .lit (.int .u8 20), .lit (.int .u8 15), .lit (.int .u8 25), .lit (.int .u8 17), .lit (.int .u8 4), .lit (.int .u8 8), .lit (.int .u8 31), .lit (.int .u8 27), .lit (.int .u8 13), .lit (.int .u8 23), .lit (.int .u8 21), .lit (.int .u8 19), .lit (.int .u8 16), .lit (.int .u8 7), .lit (.int .u8 26), .lit (.int .u8 12), .lit (.int .u8 18), .lit (.int .u8 6), .lit (.int .u8 11), .lit (.int .u8 5), .lit (.int .u8 10), .lit (.int .u8 9)]
def laid_math_bits_deBruijn64tab {H : Type} : DataW H := .agg [.lit (.int .u8 0), .lit (.int .u8 1), .lit (.int .u8 56), .lit (.int .u8 2), .lit (.int .u8 57), .lit (.int .u8 49), .lit (.int .u8 28), .lit (.int .u8 3), .lit (.int .u8 61), .lit (.int .u8 58), .lit (.int .u8 42), .lit (.int .u8 50), .lit (.int .u8 38), .lit (.int .u8 29), .lit (.int .u8 17), .lit (.int .u8 4), .lit (.int .u8 62), .lit (.int .u8 47), .lit (.int .u8 59), .lit (.int .u8 36), .lit (.int .u8 45), .lit (.int .u8 43), .lit (.int .u8 51), .lit (.int .u8 22), .lit (.int .u8 53), .lit (.int .u8 39), .lit (.int .u8 33), .lit (.int .u8 30), .lit (.int .u8 24), .lit (.int .u8 18), .lit (.int .u8 12), .lit (.int .u8 5), .lit (.int .u8 63), .lit (.int .u8 55), .lit (.int .u8 48), .lit (.int .u8 27), .lit (.int .u8 60), .lit (.int .u8 41), .lit (.int .u8 37), .lit (.int .u8 16), .lit (.int .u8 46), .lit (.int .u8 35), .lit (.int .u8 44), .lit (.int .u8 21), .lit (.int .u8 52), .lit (.int .u8 32), .lit (.int .u8 23), .lit (.int .u8 11), .lit (.int .u8 54), .lit (.int .u8 26), .lit (.int .u8 40), .lit (.int .u8 15), .lit (.int .u8 34), .lit (.int .u8 20), .lit (.int .u8 31), .lit (.int .u8 10), .lit (.int .u8 25), .lit (.int .u8 14), .lit (.int .u8 19), .lit (.int .u8 9), .lit (.int .u8 13), .lit (.int .u8 8), .lit (.int .u8 7), .lit (.int .u8 6)]
def laid_internal_strconv_uint64pow10 {H : Type} : DataW H := .agg [.lit (.int .u64 1), .lit (.int .u64 10), .lit (.int .u64 100), .lit (.int .u64 1000), .lit (.int .u64 10000), .lit (.int .u64 100000), .lit (.int .u64 1000000), .lit (.int .u64 10000000), .lit (.int .u64 100000000), .lit (.int .u64 1000000000), .lit (.int .u64 10000000000), .lit (.int .u64 100000000000), .lit (.int .u64 1000000000000), .lit (.int .u64 10000000000000), .lit (.int .u64 100000000000000), .lit (.int .u64 1000000000000000), .lit (.int .u64 10000000000000000), .lit (.int .u64 100000000000000000), .lit (.int .u64 1000000000000000000), .lit (.int .u64 10000000000000000000)]
def laid_loop_example_g00935_impl_boardKinds {H : Type} : DataW H := .agg [.lit (.string [99, 111, 109, 101]), .lit (.string [111, 112, 101, 110]), .lit (.string [115, 104, 117, 116]), .lit (.string [101, 110, 116, 101, 114]), .lit (.string [108, 101, 97, 118, 101]), .lit (.string [97, 114, 114, 105, 118, 101]), .lit (.string [108, 101, 118, 101, 108]), .lit (.string [103, 111])]

/-- 'laws.FnExactDayLine': WHATEVER THE INPUT: true; the input reads as it did. -/
def fnExactDayLineSpec : ChangeSpec := { name := "fnExactDayLine", fn := fun _ => fun
  | [d] => { results := [.lit (.bool true)], args := [d] }
  | _ => none }
def fnExactDayLineRow : OpenClaim := { program := "yteckiilljhdkpaadoor", sum := "2eda5bd9b8a24a541aca8c798ef4d9e743031add87e79815491daa2ca7c71824", func := "loop.example/g00935/laws.FnExactDayLine", spec := "fnExactDayLine", recurses := true, named := ["internal/strconv.uint64pow10", "math/bits.deBruijn32tab", "math/bits.deBruijn64tab"], apart := false, laid := [("math/bits.deBruijn32tab", laid_math_bits_deBruijn32tab), ("math/bits.deBruijn64tab", laid_math_bits_deBruijn64tab), ("internal/strconv.uint64pow10", laid_internal_strconv_uint64pow10)] }
def FnExactDayLineSaid : Prop := fnExactDayLineRow.holds Tryd.pinned (OpenSpec.ofChange fnExactDayLineSpec)

/-- ITS FALSE NEIGHBOUR: 'it returns false'. Refute it at one input. -/
def fnExactDayLineWrong : ChangeSpec := { name := "fnExactDayLine", fn := fun _ => fun
  | [d] => { results := [.lit (.bool false)], args := [d] }
  | _ => none }
def FnExactDayLineWrongFalsely : Prop := fnExactDayLineRow.holds Tryd.pinned (OpenSpec.ofChange fnExactDayLineWrong)

/-- 'laws.FnExactWeekText': WHATEVER THE INPUT: true; the input reads as it did. -/
def fnExactWeekTextSpec : ChangeSpec := { name := "fnExactWeekText", fn := fun _ => fun
  | [d] => { results := [.lit (.bool true)], args := [d] }
  | _ => none }
def fnExactWeekTextRow : OpenClaim := { program := "yteckiilljhdkpaadoor", sum := "2eda5bd9b8a24a541aca8c798ef4d9e743031add87e79815491daa2ca7c71824", func := "loop.example/g00935/laws.FnExactWeekText", spec := "fnExactWeekText", recurses := true, named := ["internal/strconv.uint64pow10", "math/bits.deBruijn32tab", "math/bits.deBruijn64tab"], apart := false, laid := [("math/bits.deBruijn32tab", laid_math_bits_deBruijn32tab), ("math/bits.deBruijn64tab", laid_math_bits_deBruijn64tab), ("internal/strconv.uint64pow10", laid_internal_strconv_uint64pow10)] }
def FnExactWeekTextSaid : Prop := fnExactWeekTextRow.holds Tryd.pinned (OpenSpec.ofChange fnExactWeekTextSpec)

/-- ITS FALSE NEIGHBOUR: 'it returns false'. Refute it at one input. -/
def fnExactWeekTextWrong : ChangeSpec := { name := "fnExactWeekText", fn := fun _ => fun
  | [d] => { results := [.lit (.bool false)], args := [d] }
  | _ => none }
def FnExactWeekTextWrongFalsely : Prop := fnExactWeekTextRow.holds Tryd.pinned (OpenSpec.ofChange fnExactWeekTextWrong)

/-- 'laws.FnExactPossibleKinds': WHATEVER THE INPUT: true; the input reads as it did. -/
def fnExactPossibleKindsSpec : ChangeSpec := { name := "fnExactPossibleKinds", vars := ["loop.example/g00935/impl.boardKinds"], fn := fun _ => fun
  | [d, g1] => { results := [.lit (.bool true)], args := [d], vars := [g1] }
  | _ => none }
def fnExactPossibleKindsRow : OpenClaim := { program := "yteckiilljhdkpaadoor", sum := "2eda5bd9b8a24a541aca8c798ef4d9e743031add87e79815491daa2ca7c71824", func := "loop.example/g00935/laws.FnExactPossibleKinds", spec := "fnExactPossibleKinds", named := ["loop.example/g00935/impl.boardKinds"], apart := false, laid := [("loop.example/g00935/impl.boardKinds", laid_loop_example_g00935_impl_boardKinds)] }
def FnExactPossibleKindsSaid : Prop := fnExactPossibleKindsRow.holds Tryd.pinned (OpenSpec.ofChange fnExactPossibleKindsSpec)

/-- ITS FALSE NEIGHBOUR: 'it returns false'. Refute it at one input. -/
def fnExactPossibleKindsWrong : ChangeSpec := { name := "fnExactPossibleKinds", vars := ["loop.example/g00935/impl.boardKinds"], fn := fun _ => fun
  | [d, g1] => { results := [.lit (.bool false)], args := [d], vars := [g1] }
  | _ => none }
def FnExactPossibleKindsWrongFalsely : Prop := fnExactPossibleKindsRow.holds Tryd.pinned (OpenSpec.ofChange fnExactPossibleKindsWrong)

/-- 'laws.FnExactStepPlatform': WHATEVER THE INPUT: true; the input reads as it did. -/
def fnExactStepPlatformSpec : ChangeSpec := { name := "fnExactStepPlatform", vars := ["loop.example/g00935/impl.boardKinds"], fn := fun _ => fun
  | [d1, d2, g1] => { results := [.lit (.bool true)], args := [d1, d2], vars := [g1] }
  | _ => none }
def fnExactStepPlatformRow : OpenClaim := { program := "yteckiilljhdkpaadoor", sum := "2eda5bd9b8a24a541aca8c798ef4d9e743031add87e79815491daa2ca7c71824", func := "loop.example/g00935/laws.FnExactStepPlatform", spec := "fnExactStepPlatform", named := ["loop.example/g00935/impl.boardKinds"], apart := false, laid := [("loop.example/g00935/impl.boardKinds", laid_loop_example_g00935_impl_boardKinds)] }
def FnExactStepPlatformSaid : Prop := fnExactStepPlatformRow.holds Tryd.pinned (OpenSpec.ofChange fnExactStepPlatformSpec)

/-- ITS FALSE NEIGHBOUR: 'it returns false'. Refute it at one input. -/
def fnExactStepPlatformWrong : ChangeSpec := { name := "fnExactStepPlatform", vars := ["loop.example/g00935/impl.boardKinds"], fn := fun _ => fun
  | [d1, d2, g1] => { results := [.lit (.bool false)], args := [d1, d2], vars := [g1] }
  | _ => none }
def FnExactStepPlatformWrongFalsely : Prop := fnExactStepPlatformRow.holds Tryd.pinned (OpenSpec.ofChange fnExactStepPlatformWrong)

/-- 'laws.FnExactRunPlatform': WHATEVER THE INPUT: true; the input reads as it did. -/
def fnExactRunPlatformSpec : ChangeSpec := { name := "fnExactRunPlatform", vars := ["loop.example/g00935/impl.boardKinds"], fn := fun _ => fun
  | [d1, d2, g1] => { results := [.lit (.bool true)], args := [d1, d2], vars := [g1] }
  | _ => none }
def fnExactRunPlatformRow : OpenClaim := { program := "yteckiilljhdkpaadoor", sum := "2eda5bd9b8a24a541aca8c798ef4d9e743031add87e79815491daa2ca7c71824", func := "loop.example/g00935/laws.FnExactRunPlatform", spec := "fnExactRunPlatform", named := ["loop.example/g00935/impl.boardKinds"], apart := false, laid := [("loop.example/g00935/impl.boardKinds", laid_loop_example_g00935_impl_boardKinds)] }
def FnExactRunPlatformSaid : Prop := fnExactRunPlatformRow.holds Tryd.pinned (OpenSpec.ofChange fnExactRunPlatformSpec)

/-- ITS FALSE NEIGHBOUR: 'it returns false'. Refute it at one input. -/
def fnExactRunPlatformWrong : ChangeSpec := { name := "fnExactRunPlatform", vars := ["loop.example/g00935/impl.boardKinds"], fn := fun _ => fun
  | [d1, d2, g1] => { results := [.lit (.bool false)], args := [d1, d2], vars := [g1] }
  | _ => none }
def FnExactRunPlatformWrongFalsely : Prop := fnExactRunPlatformRow.holds Tryd.pinned (OpenSpec.ofChange fnExactRunPlatformWrong)

/-- 'laws.FnBoarding': WHATEVER THE INPUT: true; the input reads as it did. -/
def fnBoardingSpec : ChangeSpec := { name := "fnBoarding", vars := ["loop.example/g00935/impl.boardKinds"], fn := fun _ => fun
  | [d, g1] => { results := [.lit (.bool true)], args := [d], vars := [g1] }
  | _ => none }
def fnBoardingRow : OpenClaim := { program := "yteckiilljhdkpaadoor", sum := "2eda5bd9b8a24a541aca8c798ef4d9e743031add87e79815491daa2ca7c71824", func := "loop.example/g00935/laws.FnBoarding", spec := "fnBoarding", unfollowed := true, recurses := true, named := ["loop.example/g00935/impl.boardKinds"], apart := false, laid := [("loop.example/g00935/impl.boardKinds", laid_loop_example_g00935_impl_boardKinds)] }
def FnBoardingSaid : Prop := fnBoardingRow.holds Tryd.pinned (OpenSpec.ofChange fnBoardingSpec)

/-- ITS FALSE NEIGHBOUR: 'it returns false'. Refute it at one input. -/
def fnBoardingWrong : ChangeSpec := { name := "fnBoarding", vars := ["loop.example/g00935/impl.boardKinds"], fn := fun _ => fun
  | [d, g1] => { results := [.lit (.bool false)], args := [d], vars := [g1] }
  | _ => none }
def FnBoardingWrongFalsely : Prop := fnBoardingRow.holds Tryd.pinned (OpenSpec.ofChange fnBoardingWrong)

/-- 'laws.FnExactQuickestGo': WHATEVER THE INPUT: true; the input reads as it did. -/
def fnExactQuickestGoSpec : ChangeSpec := { name := "fnExactQuickestGo", vars := ["loop.example/g00935/impl.boardKinds"], fn := fun _ => fun
  | [d, g1] => { results := [.lit (.bool true)], args := [d], vars := [g1] }
  | _ => none }
def fnExactQuickestGoRow : OpenClaim := { program := "yteckiilljhdkpaadoor", sum := "2eda5bd9b8a24a541aca8c798ef4d9e743031add87e79815491daa2ca7c71824", func := "loop.example/g00935/laws.FnExactQuickestGo", spec := "fnExactQuickestGo", unfollowed := true, recurses := true, named := ["loop.example/g00935/impl.boardKinds"], apart := false, laid := [("loop.example/g00935/impl.boardKinds", laid_loop_example_g00935_impl_boardKinds)] }
def FnExactQuickestGoSaid : Prop := fnExactQuickestGoRow.holds Tryd.pinned (OpenSpec.ofChange fnExactQuickestGoSpec)

/-- ITS FALSE NEIGHBOUR: 'it returns false'. Refute it at one input. -/
def fnExactQuickestGoWrong : ChangeSpec := { name := "fnExactQuickestGo", vars := ["loop.example/g00935/impl.boardKinds"], fn := fun _ => fun
  | [d, g1] => { results := [.lit (.bool false)], args := [d], vars := [g1] }
  | _ => none }
def FnExactQuickestGoWrongFalsely : Prop := fnExactQuickestGoRow.holds Tryd.pinned (OpenSpec.ofChange fnExactQuickestGoWrong)

/-- 'laws.FnQuickest': WHATEVER THE INPUT: true; the input reads as it did. -/
def fnQuickestSpec : ChangeSpec := { name := "fnQuickest", vars := ["loop.example/g00935/impl.boardKinds"], fn := fun _ => fun
  | [d, g1] => { results := [.lit (.bool true)], args := [d], vars := [g1] }
  | _ => none }
def fnQuickestRow : OpenClaim := { program := "yteckiilljhdkpaadoor", sum := "2eda5bd9b8a24a541aca8c798ef4d9e743031add87e79815491daa2ca7c71824", func := "loop.example/g00935/laws.FnQuickest", spec := "fnQuickest", unfollowed := true, recurses := true, named := ["loop.example/g00935/impl.boardKinds", "internal/strconv.uint64pow10", "math/bits.deBruijn32tab", "math/bits.deBruijn64tab"], apart := false, laid := [("math/bits.deBruijn32tab", laid_math_bits_deBruijn32tab), ("math/bits.deBruijn64tab", laid_math_bits_deBruijn64tab), ("internal/strconv.uint64pow10", laid_internal_strconv_uint64pow10), ("loop.example/g00935/impl.boardKinds", laid_loop_example_g00935_impl_boardKinds)] }
def FnQuickestSaid : Prop := fnQuickestRow.holds Tryd.pinned (OpenSpec.ofChange fnQuickestSpec)

/-- ITS FALSE NEIGHBOUR: 'it returns false'. Refute it at one input. -/
def fnQuickestWrong : ChangeSpec := { name := "fnQuickest", vars := ["loop.example/g00935/impl.boardKinds"], fn := fun _ => fun
  | [d, g1] => { results := [.lit (.bool false)], args := [d], vars := [g1] }
  | _ => none }
def FnQuickestWrongFalsely : Prop := fnQuickestRow.holds Tryd.pinned (OpenSpec.ofChange fnQuickestWrong)

/- THE SECOND FORM. 'bulk': how many values and letters a reading holds, each counted each time it is reached (what is shared counts as often as it is met; a slice's spare places count too). A statement '..UptoSaid' is the law's where the arguments, and the package variables that the reading takes, are together of bulk at most 1048576: NARROWER than '..Said'. Prove '..Said' where nothing that the law and all that it calls make is longer than what came in: it says more and counts as full. Else prove '..UptoSaid'. A law counts once. -/
mutual
def uptoBulk {H : Type} : DataW H → Nat
  | .lit (.string bytes) => bytes.length + 1
  | .lit _ => 1
  | .nil => 1
  | .ptr d => uptoBulk d + 1
  | .slice elems spare => uptoBulkAll elems + uptoBulkAll spare + 1
  | .agg parts => uptoBulkAll parts + 1
  | .iface _ d => uptoBulk d + 1
  | .map entries => uptoBulkEntries entries + 1
  | .held _ => 1
def uptoBulkAll {H : Type} : List (DataW H) → Nat
  | [] => 0
  | d :: r => uptoBulk d + uptoBulkAll r
def uptoBulkEntries {H : Type} : List (Lit × DataW H) → Nat
  | [] => 0
  | x :: r => uptoBulkEntry x + uptoBulkEntries r
def uptoBulkEntry {H : Type} : Lit × DataW H → Nat
  | (.string bytes, d) => bytes.length + uptoBulk d + 1
  | (_, d) => uptoBulk d + 1
 end
def uptoSmall : (H : Type) → List (DataW H) → Bool := fun _ ds => decide (uptoBulkAll ds ≤ 1048576)
def OpenSpec.upto (s : _root_.Go.ChangeSpec) : _root_.Go.OpenSpec := { _root_.Go.OpenSpec.ofChange s with cond := some uptoSmall }

/-- 'laws.FnExactDayLine', WHERE WHAT IT READS IS OF BULK AT MOST 1048576: true; the input reads as it did. -/
def fnExactDayLineUptoRow : OpenClaim := { program := "yteckiilljhdkpaadoor", sum := "2eda5bd9b8a24a541aca8c798ef4d9e743031add87e79815491daa2ca7c71824", func := "loop.example/g00935/laws.FnExactDayLine", spec := "fnExactDayLine", recurses := true, named := ["internal/strconv.uint64pow10", "math/bits.deBruijn32tab", "math/bits.deBruijn64tab"], apart := false, laid := [("math/bits.deBruijn32tab", laid_math_bits_deBruijn32tab), ("math/bits.deBruijn64tab", laid_math_bits_deBruijn64tab), ("internal/strconv.uint64pow10", laid_internal_strconv_uint64pow10)], narrowed := true }
def FnExactDayLineUptoSaid : Prop := fnExactDayLineUptoRow.holds Tryd.pinned (OpenSpec.upto fnExactDayLineSpec)

/-- 'laws.FnExactWeekText', WHERE WHAT IT READS IS OF BULK AT MOST 1048576: true; the input reads as it did. -/
def fnExactWeekTextUptoRow : OpenClaim := { program := "yteckiilljhdkpaadoor", sum := "2eda5bd9b8a24a541aca8c798ef4d9e743031add87e79815491daa2ca7c71824", func := "loop.example/g00935/laws.FnExactWeekText", spec := "fnExactWeekText", recurses := true, named := ["internal/strconv.uint64pow10", "math/bits.deBruijn32tab", "math/bits.deBruijn64tab"], apart := false, laid := [("math/bits.deBruijn32tab", laid_math_bits_deBruijn32tab), ("math/bits.deBruijn64tab", laid_math_bits_deBruijn64tab), ("internal/strconv.uint64pow10", laid_internal_strconv_uint64pow10)], narrowed := true }
def FnExactWeekTextUptoSaid : Prop := fnExactWeekTextUptoRow.holds Tryd.pinned (OpenSpec.upto fnExactWeekTextSpec)

/-- 'laws.FnExactPossibleKinds', WHERE WHAT IT READS IS OF BULK AT MOST 1048576: true; the input reads as it did. -/
def fnExactPossibleKindsUptoRow : OpenClaim := { program := "yteckiilljhdkpaadoor", sum := "2eda5bd9b8a24a541aca8c798ef4d9e743031add87e79815491daa2ca7c71824", func := "loop.example/g00935/laws.FnExactPossibleKinds", spec := "fnExactPossibleKinds", named := ["loop.example/g00935/impl.boardKinds"], apart := false, laid := [("loop.example/g00935/impl.boardKinds", laid_loop_example_g00935_impl_boardKinds)], narrowed := true }
def FnExactPossibleKindsUptoSaid : Prop := fnExactPossibleKindsUptoRow.holds Tryd.pinned (OpenSpec.upto fnExactPossibleKindsSpec)

/-- 'laws.FnExactStepPlatform', WHERE WHAT IT READS IS OF BULK AT MOST 1048576: true; the input reads as it did. -/
def fnExactStepPlatformUptoRow : OpenClaim := { program := "yteckiilljhdkpaadoor", sum := "2eda5bd9b8a24a541aca8c798ef4d9e743031add87e79815491daa2ca7c71824", func := "loop.example/g00935/laws.FnExactStepPlatform", spec := "fnExactStepPlatform", named := ["loop.example/g00935/impl.boardKinds"], apart := false, laid := [("loop.example/g00935/impl.boardKinds", laid_loop_example_g00935_impl_boardKinds)], narrowed := true }
def FnExactStepPlatformUptoSaid : Prop := fnExactStepPlatformUptoRow.holds Tryd.pinned (OpenSpec.upto fnExactStepPlatformSpec)

/-- 'laws.FnExactRunPlatform', WHERE WHAT IT READS IS OF BULK AT MOST 1048576: true; the input reads as it did. -/
def fnExactRunPlatformUptoRow : OpenClaim := { program := "yteckiilljhdkpaadoor", sum := "2eda5bd9b8a24a541aca8c798ef4d9e743031add87e79815491daa2ca7c71824", func := "loop.example/g00935/laws.FnExactRunPlatform", spec := "fnExactRunPlatform", named := ["loop.example/g00935/impl.boardKinds"], apart := false, laid := [("loop.example/g00935/impl.boardKinds", laid_loop_example_g00935_impl_boardKinds)], narrowed := true }
def FnExactRunPlatformUptoSaid : Prop := fnExactRunPlatformUptoRow.holds Tryd.pinned (OpenSpec.upto fnExactRunPlatformSpec)

/-- 'laws.FnBoarding', WHERE WHAT IT READS IS OF BULK AT MOST 1048576: true; the input reads as it did. -/
def fnBoardingUptoRow : OpenClaim := { program := "yteckiilljhdkpaadoor", sum := "2eda5bd9b8a24a541aca8c798ef4d9e743031add87e79815491daa2ca7c71824", func := "loop.example/g00935/laws.FnBoarding", spec := "fnBoarding", unfollowed := true, recurses := true, named := ["loop.example/g00935/impl.boardKinds"], apart := false, laid := [("loop.example/g00935/impl.boardKinds", laid_loop_example_g00935_impl_boardKinds)], narrowed := true }
def FnBoardingUptoSaid : Prop := fnBoardingUptoRow.holds Tryd.pinned (OpenSpec.upto fnBoardingSpec)

/-- 'laws.FnExactQuickestGo', WHERE WHAT IT READS IS OF BULK AT MOST 1048576: true; the input reads as it did. -/
def fnExactQuickestGoUptoRow : OpenClaim := { program := "yteckiilljhdkpaadoor", sum := "2eda5bd9b8a24a541aca8c798ef4d9e743031add87e79815491daa2ca7c71824", func := "loop.example/g00935/laws.FnExactQuickestGo", spec := "fnExactQuickestGo", unfollowed := true, recurses := true, named := ["loop.example/g00935/impl.boardKinds"], apart := false, laid := [("loop.example/g00935/impl.boardKinds", laid_loop_example_g00935_impl_boardKinds)], narrowed := true }
def FnExactQuickestGoUptoSaid : Prop := fnExactQuickestGoUptoRow.holds Tryd.pinned (OpenSpec.upto fnExactQuickestGoSpec)

/-- 'laws.FnQuickest', WHERE WHAT IT READS IS OF BULK AT MOST 1048576: true; the input reads as it did. -/
def fnQuickestUptoRow : OpenClaim := { program := "yteckiilljhdkpaadoor", sum := "2eda5bd9b8a24a541aca8c798ef4d9e743031add87e79815491daa2ca7c71824", func := "loop.example/g00935/laws.FnQuickest", spec := "fnQuickest", unfollowed := true, recurses := true, named := ["loop.example/g00935/impl.boardKinds", "internal/strconv.uint64pow10", "math/bits.deBruijn32tab", "math/bits.deBruijn64tab"], apart := false, laid := [("math/bits.deBruijn32tab", laid_math_bits_deBruijn32tab), ("math/bits.deBruijn64tab", laid_math_bits_deBruijn64tab), ("internal/strconv.uint64pow10", laid_internal_strconv_uint64pow10), ("loop.example/g00935/impl.boardKinds", laid_loop_example_g00935_impl_boardKinds)], narrowed := true }
def FnQuickestUptoSaid : Prop := fnQuickestUptoRow.holds Tryd.pinned (OpenSpec.upto fnQuickestSpec)

end Rows
end Go.Proofs.YteckiilljhdkpaaDoor
