/-
  What is told of the types of this translation, each by a closed check; functions with a body are entered. Printed by a program.
-/
import Derived.Test.YtpopcdnjnligiaaB12
import Derived.Test.YtpopcdnjnligiaaProg
namespace Go.Proofs.Ytpopcdnjnligiaa
open Go.RowKit

abbrev BoundsErrorCode__ : Type := Int × Int × Bool × Int × Unit
def ty_BoundsErrorCode__ : Ty := .st [(.int .i64), (.int .i64), .bool, (.int .u8)]
def d_BoundsErrorCode__ : BoundsErrorCode__ := (0, 0, false, 0, ())
abbrev DayRow : Type := Int × Int × Int × Int × Int × ByteArray × Unit
def ty_DayRow : Ty := .st [(.int .i64), (.int .i64), (.int .i64), (.int .i64), (.int .i64), .str]
def d_DayRow : DayRow := (0, 0, 0, 0, 0, (ByteArray.mk #[]), ())
abbrev GripState : Type := Int × Int × Int × Int × Unit
def ty_GripState : Ty := .st [(.int .i64), (.int .i64), (.int .i64), (.int .i64)]
def d_GripState : GripState := (0, 0, 0, 0, ())
abbrev GripStep : Type := Int × Int × Unit
def ty_GripStep : Ty := .st [(.int .i64), (.int .i64)]
def d_GripStep : GripStep := (0, 0, ())
abbrev RopeStep : Type := Int × Int × Unit
def ty_RopeStep : Ty := .st [(.int .i64), (.int .i64)]
def d_RopeStep : RopeStep := (0, 0, ())
abbrev Slot : Type := Int × Bool × Int × Unit
def ty_Slot : Ty := .st [(.int .i64), .bool, (.int .i64)]
def d_Slot : Slot := (0, false, 0, ())
abbrev Ropeway : Type := Int × (List Slot) × Int × Int × Int × Unit
def ty_Ropeway : Ty := .st [(.int .i64), (.sl ty_Slot), (.int .i64), (.int .i64), (.int .i64)]
def d_Ropeway : Ropeway := (0, [], 0, 0, 0, ())
abbrev Slot__Wait_int__Top_int__Down_int__ : Type := Int × (List Slot) × Int × Int × Int × Unit
def ty_Slot__Wait_int__Top_int__Down_int__ : Ty := .st [(.int .i64), (.sl ty_Slot), (.int .i64), (.int .i64), (.int .i64)]
def d_Slot__Wait_int__Top_int__Down_int__ : Slot__Wait_int__Top_int__Down_int__ := (0, [], 0, 0, 0, ())
abbrev Weather : Type := Int × Int × Int × Int × Bool × Unit
def ty_Weather : Ty := .st [(.int .i64), (.int .i64), (.int .i64), (.int .i64), .bool]
def d_Weather : Weather := (0, 0, 0, 0, false, ())
abbrev WindRule : Type := Int × Int × Int × Int × Unit
def ty_WindRule : Ty := .st [(.int .i64), (.int .i64), (.int .i64), (.int .i64)]
def d_WindRule : WindRule := (0, 0, 0, 0, ())
abbrev WindState : Type := Int × Int × Unit
def ty_WindState : Ty := .st [(.int .i64), (.int .i64)]
def d_WindState : WindState := (0, 0, ())
abbrev boundsError : Type := Int × Int × Bool × Int × Unit
def ty_boundsError : Ty := .st [(.int .i64), (.int .i64), .bool, (.int .u8)]
def d_boundsError : boundsError := (0, 0, false, 0, ())
abbrev errorAddressString : Type := ByteArray × Int × Unit
def ty_errorAddressString : Ty := .st [.str, (.int .u64)]
def d_errorAddressString : errorAddressString := ((ByteArray.mk #[]), 0, ())
abbrev l1Cur : Type := (List Int) × Int × Int × Unit
def ty_l1Cur : Ty := .st [(.sl (.int .u8)), (.int .i64), (.int .u64)]
def d_l1Cur : l1Cur := ([], 0, 0, ())
abbrev struct___Cabin_int__Open_bool__Full_int__ : Type := Int × Bool × Int × Unit
def ty_struct___Cabin_int__Open_bool__Full_int__ : Ty := .st [(.int .i64), .bool, (.int .i64)]
def d_struct___Cabin_int__Open_bool__Full_int__ : struct___Cabin_int__Open_bool__Full_int__ := (0, false, 0, ())
abbrev struct___Day_int__Ups_int__Downs_int__Hours_int__Stops_int__Reason_string__ : Type := Int × Int × Int × Int × Int × ByteArray × Unit
def ty_struct___Day_int__Ups_int__Downs_int__Hours_int__Stops_int__Reason_string__ : Ty := .st [(.int .i64), (.int .i64), (.int .i64), (.int .i64), (.int .i64), .str]
def d_struct___Day_int__Ups_int__Downs_int__Hours_int__Stops_int__Reason_string__ : struct___Day_int__Ups_int__Downs_int__Hours_int__Stops_int__Reason_string__ := (0, 0, 0, 0, 0, (ByteArray.mk #[]), ())
abbrev struct___Kind_int__Value_int__ : Type := Int × Int × Unit
def ty_struct___Kind_int__Value_int__ : Ty := .st [(.int .i64), (.int .i64)]
def d_struct___Kind_int__Value_int__ : struct___Kind_int__Value_int__ := (0, 0, ())
abbrev struct___Level_int__Calm_int__ : Type := Int × Int × Unit
def ty_struct___Level_int__Calm_int__ : Ty := .st [(.int .i64), (.int .i64)]
def d_struct___Level_int__Calm_int__ : struct___Level_int__Calm_int__ := (0, 0, ())
abbrev struct___Minute_int__Wind_int__From_int__Degree_int__Storm_bool__ : Type := Int × Int × Int × Int × Bool × Unit
def ty_struct___Minute_int__Wind_int__From_int__Degree_int__Storm_bool__ : Ty := .st [(.int .i64), (.int .i64), (.int .i64), (.int .i64), .bool]
def d_struct___Minute_int__Wind_int__From_int__Degree_int__Storm_bool__ : struct___Minute_int__Wind_int__From_int__Degree_int__Storm_bool__ := (0, 0, 0, 0, false, ())
abbrev struct___Slow_int__Stop_int__Below_int__Hold_int__ : Type := Int × Int × Int × Int × Unit
def ty_struct___Slow_int__Stop_int__Below_int__Hold_int__ : Ty := .st [(.int .i64), (.int .i64), (.int .i64), (.int .i64)]
def d_struct___Slow_int__Stop_int__Below_int__Hold_int__ : struct___Slow_int__Stop_int__Below_int__Hold_int__ := (0, 0, 0, 0, ())
abbrev struct___State_int__Zone_int__Force_int__Fails_int__ : Type := Int × Int × Int × Int × Unit
def ty_struct___State_int__Zone_int__Force_int__Fails_int__ : Ty := .st [(.int .i64), (.int .i64), (.int .i64), (.int .i64)]
def d_struct___State_int__Zone_int__Force_int__Fails_int__ : struct___State_int__Zone_int__Force_int__Fails_int__ := (0, 0, 0, 0, ())
abbrev struct___code___uint8__at_int__seed_uint64__ : Type := (List Int) × Int × Int × Unit
def ty_struct___code___uint8__at_int__seed_uint64__ : Ty := .st [(.sl (.int .u8)), (.int .i64), (.int .u64)]
def d_struct___code___uint8__at_int__seed_uint64__ : struct___code___uint8__at_int__seed_uint64__ := ([], 0, 0, ())
abbrev struct___msg_string__addr_uintptr__ : Type := ByteArray × Int × Unit
def ty_struct___msg_string__addr_uintptr__ : Ty := .st [.str, (.int .u64)]
def d_struct___msg_string__addr_uintptr__ : struct___msg_string__addr_uintptr__ := ((ByteArray.mk #[]), 0, ())
abbrev w64 (x : Int) : Int := IntKind.i64.wrap x
abbrev w32 (x : Int) : Int := IntKind.i32.wrap x
abbrev wu64 (x : Int) : Int := IntKind.u64.wrap x
abbrev wu8 (x : Int) : Int := IntKind.u8.wrap x
abbrev wu32 (x : Int) : Int := IntKind.u32.wrap x
abbrev wu16 (x : Int) : Int := IntKind.u16.wrap x
abbrev w16 (x : Int) : Int := IntKind.i16.wrap x
abbrev w8 (x : Int) : Int := IntKind.i8.wrap x

theorem hmix : Try.prog.follows .mixedOrders = true := by kernel_rfl

def T : Nat → Option TI
  | 2 => some ⟨(some (.int .i64)), 1, 8, false, [], 0, .int .i64 0, (some .i64), false, (0, 0)⟩
  | 3 => some ⟨(some (.int .i64)), 1, 8, false, [], 0, .int .i64 0, (some .i64), false, (0, 0)⟩
  | 4 => some ⟨(some .bool), 1, 1, false, [], 0, .bool false, none, false, (0, 0)⟩
  | 5 => some ⟨(some (.int .u8)), 1, 1, false, [], 0, .int .u8 0, (some .u8), false, (0, 0)⟩
  | 6 => some ⟨(some (.int .u8)), 1, 1, false, [], 0, .int .u8 0, (some .u8), false, (0, 0)⟩
  | 7 => some ⟨(some ty_BoundsErrorCode__), 4, 24, true, [(0, 1, false), (1, 1, false), (2, 1, false), (3, 1, false)], 0, .agg #[.int .i64 0, .int .i64 0, .bool false, .int .u8 0], none, false, (0, 0)⟩
  | 8 => some ⟨(some ty_boundsError), 4, 24, true, [(0, 1, false), (1, 1, false), (2, 1, false), (3, 1, false)], 0, .agg #[.int .i64 0, .int .i64 0, .bool false, .int .u8 0], none, false, (0, 0)⟩
  | 9 => some ⟨(some .str), 1, 16, false, [], 0, .string ⟨#[]⟩, none, true, (0, 0)⟩
  | 10 => some ⟨(some .str), 1, 16, false, [], 0, .string ⟨#[]⟩, none, true, (0, 0)⟩
  | 11 => some ⟨(some .str), 1, 16, false, [], 0, .string ⟨#[]⟩, none, true, (0, 0)⟩
  | 21 => some ⟨(some (.int .i32)), 1, 4, false, [], 0, .int .i32 0, (some .i32), false, (0, 0)⟩
  | 22 => some ⟨(some (.sl (.int .u8))), 1, 24, false, [], 5, .slice none 0 0, none, false, (0, 0)⟩
  | 24 => some ⟨(some (.sl ty_Slot)), 1, 24, false, [], 41, .slice none 0 0, none, false, (0, 0)⟩
  | 25 => some ⟨(some ty_Slot__Wait_int__Top_int__Down_int__), 5, 56, true, [(0, 1, false), (1, 1, false), (2, 1, false), (3, 1, false), (4, 1, false)], 0, .agg #[.int .i64 0, .slice none 0 0, .int .i64 0, .int .i64 0, .int .i64 0], none, false, (0, 0)⟩
  | 26 => some ⟨(some ty_Ropeway), 5, 56, true, [(0, 1, false), (1, 1, false), (2, 1, false), (3, 1, false), (4, 1, false)], 0, .agg #[.int .i64 0, .slice none 0 0, .int .i64 0, .int .i64 0, .int .i64 0], none, false, (0, 0)⟩
  | 27 => some ⟨(some ty_struct___Kind_int__Value_int__), 2, 16, true, [(0, 1, false), (1, 1, false)], 0, .agg #[.int .i64 0, .int .i64 0], none, false, (0, 0)⟩
  | 28 => some ⟨(some ty_RopeStep), 2, 16, true, [(0, 1, false), (1, 1, false)], 0, .agg #[.int .i64 0, .int .i64 0], none, false, (0, 0)⟩
  | 37 => some ⟨(some (.sl (.int .i64))), 1, 24, false, [], 3, .slice none 0 0, none, false, (0, 0)⟩
  | 40 => some ⟨(some ty_struct___Cabin_int__Open_bool__Full_int__), 3, 24, true, [(0, 1, false), (1, 1, false), (2, 1, false)], 0, .agg #[.int .i64 0, .bool false, .int .i64 0], none, false, (0, 0)⟩
  | 41 => some ⟨(some ty_Slot), 3, 24, true, [(0, 1, false), (1, 1, false), (2, 1, false)], 0, .agg #[.int .i64 0, .bool false, .int .i64 0], none, false, (0, 0)⟩
  | 42 => some ⟨(some (.sl ty_RopeStep)), 1, 24, false, [], 28, .slice none 0 0, none, false, (0, 0)⟩
  | 60 => some ⟨(some (.sl ty_DayRow)), 1, 24, false, [], 134, .slice none 0 0, none, false, (0, 0)⟩
  | 62 => some ⟨(some (.sl (.sl (.int .i64)))), 1, 24, false, [], 37, .slice none 0 0, none, false, (0, 0)⟩
  | 65 => some ⟨(some (.sl ty_DayRow)), 1, 24, false, [], 136, .slice none 0 0, none, false, (0, 0)⟩
  | 72 => some ⟨(some (.sl ty_Weather)), 1, 24, false, [], 81, .slice none 0 0, none, false, (0, 0)⟩
  | 80 => some ⟨(some ty_struct___Minute_int__Wind_int__From_int__Degree_int__Storm_bool__), 5, 40, true, [(0, 1, false), (1, 1, false), (2, 1, false), (3, 1, false), (4, 1, false)], 0, .agg #[.int .i64 0, .int .i64 0, .int .i64 0, .int .i64 0, .bool false], none, false, (0, 0)⟩
  | 81 => some ⟨(some ty_Weather), 5, 40, true, [(0, 1, false), (1, 1, false), (2, 1, false), (3, 1, false), (4, 1, false)], 0, .agg #[.int .i64 0, .int .i64 0, .int .i64 0, .int .i64 0, .bool false], none, false, (0, 0)⟩
  | 92 => some ⟨(some ty_struct___Slow_int__Stop_int__Below_int__Hold_int__), 4, 32, true, [(0, 1, false), (1, 1, false), (2, 1, false), (3, 1, false)], 0, .agg #[.int .i64 0, .int .i64 0, .int .i64 0, .int .i64 0], none, false, (0, 0)⟩
  | 93 => some ⟨(some ty_WindRule), 4, 32, true, [(0, 1, false), (1, 1, false), (2, 1, false), (3, 1, false)], 0, .agg #[.int .i64 0, .int .i64 0, .int .i64 0, .int .i64 0], none, false, (0, 0)⟩
  | 96 => some ⟨(some ty_struct___Level_int__Calm_int__), 2, 16, true, [(0, 1, false), (1, 1, false)], 0, .agg #[.int .i64 0, .int .i64 0], none, false, (0, 0)⟩
  | 97 => some ⟨(some ty_WindState), 2, 16, true, [(0, 1, false), (1, 1, false)], 0, .agg #[.int .i64 0, .int .i64 0], none, false, (0, 0)⟩
  | 106 => some ⟨(some ty_struct___State_int__Zone_int__Force_int__Fails_int__), 4, 32, true, [(0, 1, false), (1, 1, false), (2, 1, false), (3, 1, false)], 0, .agg #[.int .i64 0, .int .i64 0, .int .i64 0, .int .i64 0], none, false, (0, 0)⟩
  | 107 => some ⟨(some ty_GripState), 4, 32, true, [(0, 1, false), (1, 1, false), (2, 1, false), (3, 1, false)], 0, .agg #[.int .i64 0, .int .i64 0, .int .i64 0, .int .i64 0], none, false, (0, 0)⟩
  | 109 => some ⟨(some ty_GripState), 4, 32, true, [(0, 1, false), (1, 1, false), (2, 1, false), (3, 1, false)], 0, .agg #[.int .i64 0, .int .i64 0, .int .i64 0, .int .i64 0], none, false, (0, 0)⟩
  | 113 => some ⟨(some (.int .u64)), 1, 8, false, [], 0, .int .u64 0, (some .u64), false, (0, 0)⟩
  | 114 => some ⟨(some ty_struct___code___uint8__at_int__seed_uint64__), 3, 40, true, [(0, 1, false), (1, 1, false), (2, 1, false)], 0, .agg #[.slice none 0 0, .int .i64 0, .int .u64 0], none, false, (0, 0)⟩
  | 115 => some ⟨(some ty_l1Cur), 3, 40, true, [(0, 1, false), (1, 1, false), (2, 1, false)], 0, .agg #[.slice none 0 0, .int .i64 0, .int .u64 0], none, false, (0, 0)⟩
  | 133 => some ⟨(some ty_struct___Day_int__Ups_int__Downs_int__Hours_int__Stops_int__Reason_string__), 6, 56, true, [(0, 1, false), (1, 1, false), (2, 1, false), (3, 1, false), (4, 1, false), (5, 1, false)], 0, .agg #[.int .i64 0, .int .i64 0, .int .i64 0, .int .i64 0, .int .i64 0, .string ⟨#[]⟩], none, false, (0, 0)⟩
  | 134 => some ⟨(some ty_DayRow), 6, 56, true, [(0, 1, false), (1, 1, false), (2, 1, false), (3, 1, false), (4, 1, false), (5, 1, false)], 0, .agg #[.int .i64 0, .int .i64 0, .int .i64 0, .int .i64 0, .int .i64 0, .string ⟨#[]⟩], none, false, (0, 0)⟩
  | 136 => some ⟨(some ty_DayRow), 6, 56, true, [(0, 1, false), (1, 1, false), (2, 1, false), (3, 1, false), (4, 1, false), (5, 1, false)], 0, .agg #[.int .i64 0, .int .i64 0, .int .i64 0, .int .i64 0, .int .i64 0, .string ⟨#[]⟩], none, false, (0, 0)⟩
  | 168 => some ⟨(some (.sl ty_GripState)), 1, 24, false, [], 109, .slice none 0 0, none, false, (0, 0)⟩
  | 171 => some ⟨(some ty_GripStep), 2, 16, true, [(0, 1, false), (1, 1, false)], 0, .agg #[.int .i64 0, .int .i64 0], none, false, (0, 0)⟩
  | 175 => some ⟨(some (.sl ty_GripStep)), 1, 24, false, [], 171, .slice none 0 0, none, false, (0, 0)⟩
  | 181 => some ⟨(some (.int .u64)), 1, 8, false, [], 0, .int .u64 0, (some .u64), false, (0, 0)⟩
  | 186 => some ⟨(some (.sl (.sl ty_Slot))), 1, 24, false, [], 24, .slice none 0 0, none, false, (0, 0)⟩
  | 189 => some ⟨(some (.int .i64)), 1, 8, false, [], 0, .int .i64 0, (some .i64), false, (0, 0)⟩
  | 196 => some ⟨(some (.int .u32)), 1, 4, false, [], 0, .int .u32 0, (some .u32), false, (0, 0)⟩
  | 198 => some ⟨(some (.int .u64)), 1, 8, false, [], 0, .int .u64 0, (some .u64), false, (0, 0)⟩
  | 212 => some ⟨(some (.int .u8)), 1, 1, false, [], 0, .int .u8 0, (some .u8), false, (0, 0)⟩
  | 213 => some ⟨(some (.int .u8)), 1, 1, false, [], 0, .int .u8 0, (some .u8), false, (0, 0)⟩
  | 216 => some ⟨(some (.int .i32)), 1, 4, false, [], 0, .int .i32 0, (some .i32), false, (0, 0)⟩
  | 217 => some ⟨(some (.int .i32)), 1, 4, false, [], 0, .int .i32 0, (some .i32), false, (0, 0)⟩
  | _ => none

theorem tiok_2 : TIok Try.prog 2 ⟨(some (.int .i64)), 1, 8, false, [], 0, .int .i64 0, (some .i64), false, (0, 0)⟩ := tiok_of (by kernel_rfl) (by kernel_rfl) (by kernel_rfl)
theorem tiok_3 : TIok Try.prog 3 ⟨(some (.int .i64)), 1, 8, false, [], 0, .int .i64 0, (some .i64), false, (0, 0)⟩ := tiok_of (by kernel_rfl) (by kernel_rfl) (by kernel_rfl)
theorem tiok_4 : TIok Try.prog 4 ⟨(some .bool), 1, 1, false, [], 0, .bool false, none, false, (0, 0)⟩ := tiok_of (by kernel_rfl) (by kernel_rfl) (by kernel_rfl)
theorem tiok_5 : TIok Try.prog 5 ⟨(some (.int .u8)), 1, 1, false, [], 0, .int .u8 0, (some .u8), false, (0, 0)⟩ := tiok_of (by kernel_rfl) (by kernel_rfl) (by kernel_rfl)
theorem tiok_6 : TIok Try.prog 6 ⟨(some (.int .u8)), 1, 1, false, [], 0, .int .u8 0, (some .u8), false, (0, 0)⟩ := tiok_of (by kernel_rfl) (by kernel_rfl) (by kernel_rfl)
theorem tiok_7 : TIok Try.prog 7 ⟨(some ty_BoundsErrorCode__), 4, 24, true, [(0, 1, false), (1, 1, false), (2, 1, false), (3, 1, false)], 0, .agg #[.int .i64 0, .int .i64 0, .bool false, .int .u8 0], none, false, (0, 0)⟩ := tiok_of (by kernel_rfl) (by kernel_rfl) (by kernel_rfl)
theorem tiok_8 : TIok Try.prog 8 ⟨(some ty_boundsError), 4, 24, true, [(0, 1, false), (1, 1, false), (2, 1, false), (3, 1, false)], 0, .agg #[.int .i64 0, .int .i64 0, .bool false, .int .u8 0], none, false, (0, 0)⟩ := tiok_of (by kernel_rfl) (by kernel_rfl) (by kernel_rfl)
theorem tiok_9 : TIok Try.prog 9 ⟨(some .str), 1, 16, false, [], 0, .string ⟨#[]⟩, none, true, (0, 0)⟩ := tiok_of (by kernel_rfl) (by kernel_rfl) (by kernel_rfl)
theorem tiok_10 : TIok Try.prog 10 ⟨(some .str), 1, 16, false, [], 0, .string ⟨#[]⟩, none, true, (0, 0)⟩ := tiok_of (by kernel_rfl) (by kernel_rfl) (by kernel_rfl)
theorem tiok_11 : TIok Try.prog 11 ⟨(some .str), 1, 16, false, [], 0, .string ⟨#[]⟩, none, true, (0, 0)⟩ := tiok_of (by kernel_rfl) (by kernel_rfl) (by kernel_rfl)
theorem tiok_21 : TIok Try.prog 21 ⟨(some (.int .i32)), 1, 4, false, [], 0, .int .i32 0, (some .i32), false, (0, 0)⟩ := tiok_of (by kernel_rfl) (by kernel_rfl) (by kernel_rfl)
theorem tiok_22 : TIok Try.prog 22 ⟨(some (.sl (.int .u8))), 1, 24, false, [], 5, .slice none 0 0, none, false, (0, 0)⟩ := tiok_of (by kernel_rfl) (by kernel_rfl) (by kernel_rfl)
theorem tiok_24 : TIok Try.prog 24 ⟨(some (.sl ty_Slot)), 1, 24, false, [], 41, .slice none 0 0, none, false, (0, 0)⟩ := tiok_of (by kernel_rfl) (by kernel_rfl) (by kernel_rfl)
theorem tiok_25 : TIok Try.prog 25 ⟨(some ty_Slot__Wait_int__Top_int__Down_int__), 5, 56, true, [(0, 1, false), (1, 1, false), (2, 1, false), (3, 1, false), (4, 1, false)], 0, .agg #[.int .i64 0, .slice none 0 0, .int .i64 0, .int .i64 0, .int .i64 0], none, false, (0, 0)⟩ := tiok_of (by kernel_rfl) (by kernel_rfl) (by kernel_rfl)
theorem tiok_26 : TIok Try.prog 26 ⟨(some ty_Ropeway), 5, 56, true, [(0, 1, false), (1, 1, false), (2, 1, false), (3, 1, false), (4, 1, false)], 0, .agg #[.int .i64 0, .slice none 0 0, .int .i64 0, .int .i64 0, .int .i64 0], none, false, (0, 0)⟩ := tiok_of (by kernel_rfl) (by kernel_rfl) (by kernel_rfl)
theorem tiok_27 : TIok Try.prog 27 ⟨(some ty_struct___Kind_int__Value_int__), 2, 16, true, [(0, 1, false), (1, 1, false)], 0, .agg #[.int .i64 0, .int .i64 0], none, false, (0, 0)⟩ := tiok_of (by kernel_rfl) (by kernel_rfl) (by kernel_rfl)
theorem tiok_28 : TIok Try.prog 28 ⟨(some ty_RopeStep), 2, 16, true, [(0, 1, false), (1, 1, false)], 0, .agg #[.int .i64 0, .int .i64 0], none, false, (0, 0)⟩ := tiok_of (by kernel_rfl) (by kernel_rfl) (by kernel_rfl)
theorem tiok_37 : TIok Try.prog 37 ⟨(some (.sl (.int .i64))), 1, 24, false, [], 3, .slice none 0 0, none, false, (0, 0)⟩ := tiok_of (by kernel_rfl) (by kernel_rfl) (by kernel_rfl)
theorem tiok_40 : TIok Try.prog 40 ⟨(some ty_struct___Cabin_int__Open_bool__Full_int__), 3, 24, true, [(0, 1, false), (1, 1, false), (2, 1, false)], 0, .agg #[.int .i64 0, .bool false, .int .i64 0], none, false, (0, 0)⟩ := tiok_of (by kernel_rfl) (by kernel_rfl) (by kernel_rfl)
theorem tiok_41 : TIok Try.prog 41 ⟨(some ty_Slot), 3, 24, true, [(0, 1, false), (1, 1, false), (2, 1, false)], 0, .agg #[.int .i64 0, .bool false, .int .i64 0], none, false, (0, 0)⟩ := tiok_of (by kernel_rfl) (by kernel_rfl) (by kernel_rfl)
theorem tiok_42 : TIok Try.prog 42 ⟨(some (.sl ty_RopeStep)), 1, 24, false, [], 28, .slice none 0 0, none, false, (0, 0)⟩ := tiok_of (by kernel_rfl) (by kernel_rfl) (by kernel_rfl)
theorem tiok_60 : TIok Try.prog 60 ⟨(some (.sl ty_DayRow)), 1, 24, false, [], 134, .slice none 0 0, none, false, (0, 0)⟩ := tiok_of (by kernel_rfl) (by kernel_rfl) (by kernel_rfl)
theorem tiok_62 : TIok Try.prog 62 ⟨(some (.sl (.sl (.int .i64)))), 1, 24, false, [], 37, .slice none 0 0, none, false, (0, 0)⟩ := tiok_of (by kernel_rfl) (by kernel_rfl) (by kernel_rfl)
theorem tiok_65 : TIok Try.prog 65 ⟨(some (.sl ty_DayRow)), 1, 24, false, [], 136, .slice none 0 0, none, false, (0, 0)⟩ := tiok_of (by kernel_rfl) (by kernel_rfl) (by kernel_rfl)
theorem tiok_72 : TIok Try.prog 72 ⟨(some (.sl ty_Weather)), 1, 24, false, [], 81, .slice none 0 0, none, false, (0, 0)⟩ := tiok_of (by kernel_rfl) (by kernel_rfl) (by kernel_rfl)
theorem tiok_80 : TIok Try.prog 80 ⟨(some ty_struct___Minute_int__Wind_int__From_int__Degree_int__Storm_bool__), 5, 40, true, [(0, 1, false), (1, 1, false), (2, 1, false), (3, 1, false), (4, 1, false)], 0, .agg #[.int .i64 0, .int .i64 0, .int .i64 0, .int .i64 0, .bool false], none, false, (0, 0)⟩ := tiok_of (by kernel_rfl) (by kernel_rfl) (by kernel_rfl)
theorem tiok_81 : TIok Try.prog 81 ⟨(some ty_Weather), 5, 40, true, [(0, 1, false), (1, 1, false), (2, 1, false), (3, 1, false), (4, 1, false)], 0, .agg #[.int .i64 0, .int .i64 0, .int .i64 0, .int .i64 0, .bool false], none, false, (0, 0)⟩ := tiok_of (by kernel_rfl) (by kernel_rfl) (by kernel_rfl)
theorem tiok_92 : TIok Try.prog 92 ⟨(some ty_struct___Slow_int__Stop_int__Below_int__Hold_int__), 4, 32, true, [(0, 1, false), (1, 1, false), (2, 1, false), (3, 1, false)], 0, .agg #[.int .i64 0, .int .i64 0, .int .i64 0, .int .i64 0], none, false, (0, 0)⟩ := tiok_of (by kernel_rfl) (by kernel_rfl) (by kernel_rfl)
theorem tiok_93 : TIok Try.prog 93 ⟨(some ty_WindRule), 4, 32, true, [(0, 1, false), (1, 1, false), (2, 1, false), (3, 1, false)], 0, .agg #[.int .i64 0, .int .i64 0, .int .i64 0, .int .i64 0], none, false, (0, 0)⟩ := tiok_of (by kernel_rfl) (by kernel_rfl) (by kernel_rfl)
theorem tiok_96 : TIok Try.prog 96 ⟨(some ty_struct___Level_int__Calm_int__), 2, 16, true, [(0, 1, false), (1, 1, false)], 0, .agg #[.int .i64 0, .int .i64 0], none, false, (0, 0)⟩ := tiok_of (by kernel_rfl) (by kernel_rfl) (by kernel_rfl)
theorem tiok_97 : TIok Try.prog 97 ⟨(some ty_WindState), 2, 16, true, [(0, 1, false), (1, 1, false)], 0, .agg #[.int .i64 0, .int .i64 0], none, false, (0, 0)⟩ := tiok_of (by kernel_rfl) (by kernel_rfl) (by kernel_rfl)
theorem tiok_106 : TIok Try.prog 106 ⟨(some ty_struct___State_int__Zone_int__Force_int__Fails_int__), 4, 32, true, [(0, 1, false), (1, 1, false), (2, 1, false), (3, 1, false)], 0, .agg #[.int .i64 0, .int .i64 0, .int .i64 0, .int .i64 0], none, false, (0, 0)⟩ := tiok_of (by kernel_rfl) (by kernel_rfl) (by kernel_rfl)
theorem tiok_107 : TIok Try.prog 107 ⟨(some ty_GripState), 4, 32, true, [(0, 1, false), (1, 1, false), (2, 1, false), (3, 1, false)], 0, .agg #[.int .i64 0, .int .i64 0, .int .i64 0, .int .i64 0], none, false, (0, 0)⟩ := tiok_of (by kernel_rfl) (by kernel_rfl) (by kernel_rfl)
theorem tiok_109 : TIok Try.prog 109 ⟨(some ty_GripState), 4, 32, true, [(0, 1, false), (1, 1, false), (2, 1, false), (3, 1, false)], 0, .agg #[.int .i64 0, .int .i64 0, .int .i64 0, .int .i64 0], none, false, (0, 0)⟩ := tiok_of (by kernel_rfl) (by kernel_rfl) (by kernel_rfl)
theorem tiok_113 : TIok Try.prog 113 ⟨(some (.int .u64)), 1, 8, false, [], 0, .int .u64 0, (some .u64), false, (0, 0)⟩ := tiok_of (by kernel_rfl) (by kernel_rfl) (by kernel_rfl)
theorem tiok_114 : TIok Try.prog 114 ⟨(some ty_struct___code___uint8__at_int__seed_uint64__), 3, 40, true, [(0, 1, false), (1, 1, false), (2, 1, false)], 0, .agg #[.slice none 0 0, .int .i64 0, .int .u64 0], none, false, (0, 0)⟩ := tiok_of (by kernel_rfl) (by kernel_rfl) (by kernel_rfl)
theorem tiok_115 : TIok Try.prog 115 ⟨(some ty_l1Cur), 3, 40, true, [(0, 1, false), (1, 1, false), (2, 1, false)], 0, .agg #[.slice none 0 0, .int .i64 0, .int .u64 0], none, false, (0, 0)⟩ := tiok_of (by kernel_rfl) (by kernel_rfl) (by kernel_rfl)
theorem tiok_133 : TIok Try.prog 133 ⟨(some ty_struct___Day_int__Ups_int__Downs_int__Hours_int__Stops_int__Reason_string__), 6, 56, true, [(0, 1, false), (1, 1, false), (2, 1, false), (3, 1, false), (4, 1, false), (5, 1, false)], 0, .agg #[.int .i64 0, .int .i64 0, .int .i64 0, .int .i64 0, .int .i64 0, .string ⟨#[]⟩], none, false, (0, 0)⟩ := tiok_of (by kernel_rfl) (by kernel_rfl) (by kernel_rfl)
theorem tiok_134 : TIok Try.prog 134 ⟨(some ty_DayRow), 6, 56, true, [(0, 1, false), (1, 1, false), (2, 1, false), (3, 1, false), (4, 1, false), (5, 1, false)], 0, .agg #[.int .i64 0, .int .i64 0, .int .i64 0, .int .i64 0, .int .i64 0, .string ⟨#[]⟩], none, false, (0, 0)⟩ := tiok_of (by kernel_rfl) (by kernel_rfl) (by kernel_rfl)
theorem tiok_136 : TIok Try.prog 136 ⟨(some ty_DayRow), 6, 56, true, [(0, 1, false), (1, 1, false), (2, 1, false), (3, 1, false), (4, 1, false), (5, 1, false)], 0, .agg #[.int .i64 0, .int .i64 0, .int .i64 0, .int .i64 0, .int .i64 0, .string ⟨#[]⟩], none, false, (0, 0)⟩ := tiok_of (by kernel_rfl) (by kernel_rfl) (by kernel_rfl)
theorem tiok_168 : TIok Try.prog 168 ⟨(some (.sl ty_GripState)), 1, 24, false, [], 109, .slice none 0 0, none, false, (0, 0)⟩ := tiok_of (by kernel_rfl) (by kernel_rfl) (by kernel_rfl)
theorem tiok_171 : TIok Try.prog 171 ⟨(some ty_GripStep), 2, 16, true, [(0, 1, false), (1, 1, false)], 0, .agg #[.int .i64 0, .int .i64 0], none, false, (0, 0)⟩ := tiok_of (by kernel_rfl) (by kernel_rfl) (by kernel_rfl)
theorem tiok_175 : TIok Try.prog 175 ⟨(some (.sl ty_GripStep)), 1, 24, false, [], 171, .slice none 0 0, none, false, (0, 0)⟩ := tiok_of (by kernel_rfl) (by kernel_rfl) (by kernel_rfl)
theorem tiok_181 : TIok Try.prog 181 ⟨(some (.int .u64)), 1, 8, false, [], 0, .int .u64 0, (some .u64), false, (0, 0)⟩ := tiok_of (by kernel_rfl) (by kernel_rfl) (by kernel_rfl)
theorem tiok_186 : TIok Try.prog 186 ⟨(some (.sl (.sl ty_Slot))), 1, 24, false, [], 24, .slice none 0 0, none, false, (0, 0)⟩ := tiok_of (by kernel_rfl) (by kernel_rfl) (by kernel_rfl)
theorem tiok_189 : TIok Try.prog 189 ⟨(some (.int .i64)), 1, 8, false, [], 0, .int .i64 0, (some .i64), false, (0, 0)⟩ := tiok_of (by kernel_rfl) (by kernel_rfl) (by kernel_rfl)
theorem tiok_196 : TIok Try.prog 196 ⟨(some (.int .u32)), 1, 4, false, [], 0, .int .u32 0, (some .u32), false, (0, 0)⟩ := tiok_of (by kernel_rfl) (by kernel_rfl) (by kernel_rfl)
theorem tiok_198 : TIok Try.prog 198 ⟨(some (.int .u64)), 1, 8, false, [], 0, .int .u64 0, (some .u64), false, (0, 0)⟩ := tiok_of (by kernel_rfl) (by kernel_rfl) (by kernel_rfl)
theorem tiok_212 : TIok Try.prog 212 ⟨(some (.int .u8)), 1, 1, false, [], 0, .int .u8 0, (some .u8), false, (0, 0)⟩ := tiok_of (by kernel_rfl) (by kernel_rfl) (by kernel_rfl)
theorem tiok_213 : TIok Try.prog 213 ⟨(some (.int .u8)), 1, 1, false, [], 0, .int .u8 0, (some .u8), false, (0, 0)⟩ := tiok_of (by kernel_rfl) (by kernel_rfl) (by kernel_rfl)
theorem tiok_216 : TIok Try.prog 216 ⟨(some (.int .i32)), 1, 4, false, [], 0, .int .i32 0, (some .i32), false, (0, 0)⟩ := tiok_of (by kernel_rfl) (by kernel_rfl) (by kernel_rfl)
theorem tiok_217 : TIok Try.prog 217 ⟨(some (.int .i32)), 1, 4, false, [], 0, .int .i32 0, (some .i32), false, (0, 0)⟩ := tiok_of (by kernel_rfl) (by kernel_rfl) (by kernel_rfl)

theorem tok : TOk Try.prog T := fun t i h => by
  unfold T at h
  split at h
  · cases h; exact tiok_2
  · cases h; exact tiok_3
  · cases h; exact tiok_4
  · cases h; exact tiok_5
  · cases h; exact tiok_6
  · cases h; exact tiok_7
  · cases h; exact tiok_8
  · cases h; exact tiok_9
  · cases h; exact tiok_10
  · cases h; exact tiok_11
  · cases h; exact tiok_21
  · cases h; exact tiok_22
  · cases h; exact tiok_24
  · cases h; exact tiok_25
  · cases h; exact tiok_26
  · cases h; exact tiok_27
  · cases h; exact tiok_28
  · cases h; exact tiok_37
  · cases h; exact tiok_40
  · cases h; exact tiok_41
  · cases h; exact tiok_42
  · cases h; exact tiok_60
  · cases h; exact tiok_62
  · cases h; exact tiok_65
  · cases h; exact tiok_72
  · cases h; exact tiok_80
  · cases h; exact tiok_81
  · cases h; exact tiok_92
  · cases h; exact tiok_93
  · cases h; exact tiok_96
  · cases h; exact tiok_97
  · cases h; exact tiok_106
  · cases h; exact tiok_107
  · cases h; exact tiok_109
  · cases h; exact tiok_113
  · cases h; exact tiok_114
  · cases h; exact tiok_115
  · cases h; exact tiok_133
  · cases h; exact tiok_134
  · cases h; exact tiok_136
  · cases h; exact tiok_168
  · cases h; exact tiok_171
  · cases h; exact tiok_175
  · cases h; exact tiok_181
  · cases h; exact tiok_186
  · cases h; exact tiok_189
  · cases h; exact tiok_196
  · cases h; exact tiok_198
  · cases h; exact tiok_212
  · cases h; exact tiok_213
  · cases h; exact tiok_216
  · cases h; exact tiok_217
  · cases h

theorem ent_3 : Enters Try.prog 3 := Try.call3
theorem ent_4 : Enters Try.prog 4 := Try.call4
theorem ent_5 : Enters Try.prog 5 := Try.call5
theorem ent_6 : Enters Try.prog 6 := Try.call6
theorem ent_7 : Enters Try.prog 7 := Try.call7
theorem ent_8 : Enters Try.prog 8 := Try.call8
theorem ent_9 : Enters Try.prog 9 := Try.call9
theorem ent_10 : Enters Try.prog 10 := Try.call10
theorem ent_11 : Enters Try.prog 11 := Try.call11
theorem ent_12 : Enters Try.prog 12 := Try.call12
theorem ent_13 : Enters Try.prog 13 := Try.call13
theorem ent_14 : Enters Try.prog 14 := Try.call14
theorem ent_15 : Enters Try.prog 15 := Try.call15
theorem ent_16 : Enters Try.prog 16 := Try.call16
theorem ent_17 : Enters Try.prog 17 := Try.call17
theorem ent_18 : Enters Try.prog 18 := Try.call18
theorem ent_19 : Enters Try.prog 19 := Try.call19
theorem ent_20 : Enters Try.prog 20 := Try.call20
theorem ent_21 : Enters Try.prog 21 := Try.call21
theorem ent_22 : Enters Try.prog 22 := Try.call22
theorem ent_23 : Enters Try.prog 23 := Try.call23
theorem ent_24 : Enters Try.prog 24 := Try.call24
theorem ent_25 : Enters Try.prog 25 := Try.call25
theorem ent_26 : Enters Try.prog 26 := Try.call26
theorem ent_27 : Enters Try.prog 27 := Try.call27
theorem ent_28 : Enters Try.prog 28 := Try.call28
theorem ent_29 : Enters Try.prog 29 := Try.call29
theorem ent_30 : Enters Try.prog 30 := Try.call30
theorem ent_31 : Enters Try.prog 31 := Try.call31
theorem ent_32 : Enters Try.prog 32 := Try.call32
theorem ent_33 : Enters Try.prog 33 := Try.call33
theorem ent_34 : Enters Try.prog 34 := Try.call34
theorem ent_35 : Enters Try.prog 35 := Try.call35
theorem ent_36 : Enters Try.prog 36 := Try.call36
theorem ent_37 : Enters Try.prog 37 := Try.call37
theorem ent_38 : Enters Try.prog 38 := Try.call38
theorem ent_39 : Enters Try.prog 39 := Try.call39
theorem ent_40 : Enters Try.prog 40 := Try.call40
theorem ent_41 : Enters Try.prog 41 := Try.call41
theorem ent_42 : Enters Try.prog 42 := Try.call42
theorem ent_43 : Enters Try.prog 43 := Try.call43
theorem ent_44 : Enters Try.prog 44 := Try.call44
theorem ent_45 : Enters Try.prog 45 := Try.call45
theorem ent_46 : Enters Try.prog 46 := Try.call46
theorem ent_47 : Enters Try.prog 47 := Try.call47
theorem ent_48 : Enters Try.prog 48 := Try.call48
theorem ent_49 : Enters Try.prog 49 := Try.call49
theorem ent_50 : Enters Try.prog 50 := Try.call50
theorem ent_51 : Enters Try.prog 51 := Try.call51
theorem ent_52 : Enters Try.prog 52 := Try.call52
theorem ent_53 : Enters Try.prog 53 := Try.call53
theorem ent_54 : Enters Try.prog 54 := Try.call54
theorem ent_55 : Enters Try.prog 55 := Try.call55
theorem ent_56 : Enters Try.prog 56 := Try.call56
theorem ent_57 : Enters Try.prog 57 := Try.call57
theorem ent_58 : Enters Try.prog 58 := Try.call58
theorem ent_59 : Enters Try.prog 59 := Try.call59
theorem ent_60 : Enters Try.prog 60 := Try.call60
theorem ent_61 : Enters Try.prog 61 := Try.call61
theorem ent_62 : Enters Try.prog 62 := Try.call62
theorem ent_63 : Enters Try.prog 63 := Try.call63
theorem ent_64 : Enters Try.prog 64 := Try.call64
theorem ent_65 : Enters Try.prog 65 := Try.call65
theorem ent_66 : Enters Try.prog 66 := Try.call66
theorem ent_67 : Enters Try.prog 67 := Try.call67
theorem ent_68 : Enters Try.prog 68 := Try.call68
theorem ent_69 : Enters Try.prog 69 := Try.call69
theorem ent_70 : Enters Try.prog 70 := Try.call70
theorem ent_71 : Enters Try.prog 71 := Try.call71
theorem ent_72 : Enters Try.prog 72 := Try.call72
theorem ent_73 : Enters Try.prog 73 := Try.call73
theorem ent_74 : Enters Try.prog 74 := Try.call74
theorem ent_75 : Enters Try.prog 75 := Try.call75
theorem ent_76 : Enters Try.prog 76 := Try.call76
theorem ent_77 : Enters Try.prog 77 := Try.call77
theorem ent_78 : Enters Try.prog 78 := Try.call78
theorem ent_79 : Enters Try.prog 79 := Try.call79
theorem ent_80 : Enters Try.prog 80 := Try.call80
theorem ent_81 : Enters Try.prog 81 := Try.call81
theorem ent_82 : Enters Try.prog 82 := Try.call82
theorem ent_83 : Enters Try.prog 83 := Try.call83
theorem ent_84 : Enters Try.prog 84 := Try.call84
theorem ent_85 : Enters Try.prog 85 := Try.call85
theorem ent_86 : Enters Try.prog 86 := Try.call86
theorem ent_87 : Enters Try.prog 87 := Try.call87
theorem ent_88 : Enters Try.prog 88 := Try.call88
theorem ent_89 : Enters Try.prog 89 := Try.call89
theorem ent_90 : Enters Try.prog 90 := Try.call90
theorem ent_91 : Enters Try.prog 91 := Try.call91
theorem ent_92 : Enters Try.prog 92 := Try.call92
theorem ent_93 : Enters Try.prog 93 := Try.call93
theorem ent_94 : Enters Try.prog 94 := Try.call94
theorem ent_95 : Enters Try.prog 95 := Try.call95
theorem ent_96 : Enters Try.prog 96 := Try.call96
theorem ent_97 : Enters Try.prog 97 := Try.call97
theorem ent_98 : Enters Try.prog 98 := Try.call98
theorem ent_99 : Enters Try.prog 99 := Try.call99
theorem ent_100 : Enters Try.prog 100 := Try.call100
theorem ent_101 : Enters Try.prog 101 := Try.call101
theorem ent_102 : Enters Try.prog 102 := Try.call102
theorem ent_103 : Enters Try.prog 103 := Try.call103
theorem ent_104 : Enters Try.prog 104 := Try.call104
theorem ent_105 : Enters Try.prog 105 := Try.call105
theorem ent_106 : Enters Try.prog 106 := Try.call106
theorem ent_107 : Enters Try.prog 107 := Try.call107
theorem ent_108 : Enters Try.prog 108 := Try.call108
theorem ent_109 : Enters Try.prog 109 := Try.call109
theorem ent_110 : Enters Try.prog 110 := Try.call110
theorem ent_111 : Enters Try.prog 111 := Try.call111
theorem ent_112 : Enters Try.prog 112 := Try.call112
theorem ent_113 : Enters Try.prog 113 := Try.call113
theorem ent_114 : Enters Try.prog 114 := Try.call114
theorem ent_115 : Enters Try.prog 115 := Try.call115
theorem ent_116 : Enters Try.prog 116 := Try.call116
theorem ent_117 : Enters Try.prog 117 := Try.call117
theorem ent_118 : Enters Try.prog 118 := Try.call118
theorem ent_119 : Enters Try.prog 119 := Try.call119
theorem ent_120 : Enters Try.prog 120 := Try.call120
theorem ent_121 : Enters Try.prog 121 := Try.call121
theorem ent_122 : Enters Try.prog 122 := Try.call122
theorem ent_123 : Enters Try.prog 123 := Try.call123
theorem ent_124 : Enters Try.prog 124 := Try.call124
theorem ent_125 : Enters Try.prog 125 := Try.call125
theorem ent_126 : Enters Try.prog 126 := Try.call126
theorem ent_127 : Enters Try.prog 127 := Try.call127
theorem ent_128 : Enters Try.prog 128 := Try.call128
theorem ent_129 : Enters Try.prog 129 := Try.call129
theorem ent_130 : Enters Try.prog 130 := Try.call130
theorem ent_131 : Enters Try.prog 131 := Try.call131
theorem ent_132 : Enters Try.prog 132 := Try.call132
theorem ent_133 : Enters Try.prog 133 := Try.call133
theorem ent_134 : Enters Try.prog 134 := Try.call134
theorem ent_135 : Enters Try.prog 135 := Try.call135
theorem ent_136 : Enters Try.prog 136 := Try.call136
theorem ent_137 : Enters Try.prog 137 := Try.call137
theorem ent_138 : Enters Try.prog 138 := Try.call138
theorem ent_139 : Enters Try.prog 139 := Try.call139
theorem ent_140 : Enters Try.prog 140 := Try.call140
theorem ent_141 : Enters Try.prog 141 := Try.call141
theorem ent_142 : Enters Try.prog 142 := Try.call142
theorem ent_143 : Enters Try.prog 143 := Try.call143
theorem ent_144 : Enters Try.prog 144 := Try.call144
theorem ent_145 : Enters Try.prog 145 := Try.call145
theorem ent_146 : Enters Try.prog 146 := Try.call146
theorem ent_147 : Enters Try.prog 147 := Try.call147
theorem ent_148 : Enters Try.prog 148 := Try.call148
theorem ent_149 : Enters Try.prog 149 := Try.call149
theorem ent_150 : Enters Try.prog 150 := Try.call150
theorem ent_151 : Enters Try.prog 151 := Try.call151
theorem ent_152 : Enters Try.prog 152 := Try.call152
theorem ent_153 : Enters Try.prog 153 := Try.call153
theorem ent_154 : Enters Try.prog 154 := Try.call154
theorem ent_155 : Enters Try.prog 155 := Try.call155
theorem ent_156 : Enters Try.prog 156 := Try.call156
theorem ent_157 : Enters Try.prog 157 := Try.call157
theorem ent_158 : Enters Try.prog 158 := Try.call158
theorem ent_159 : Enters Try.prog 159 := Try.call159
theorem ent_160 : Enters Try.prog 160 := Try.call160
theorem ent_161 : Enters Try.prog 161 := Try.call161
theorem ent_162 : Enters Try.prog 162 := Try.call162
theorem ent_163 : Enters Try.prog 163 := Try.call163
theorem ent_164 : Enters Try.prog 164 := Try.call164
theorem ent_165 : Enters Try.prog 165 := Try.call165
theorem ent_166 : Enters Try.prog 166 := Try.call166
theorem ent_167 : Enters Try.prog 167 := Try.call167
theorem ent_168 : Enters Try.prog 168 := Try.call168
theorem ent_169 : Enters Try.prog 169 := Try.call169
theorem ent_170 : Enters Try.prog 170 := Try.call170
theorem ent_171 : Enters Try.prog 171 := Try.call171
theorem ent_172 : Enters Try.prog 172 := Try.call172
theorem ent_173 : Enters Try.prog 173 := Try.call173
theorem ent_174 : Enters Try.prog 174 := Try.call174
theorem ent_175 : Enters Try.prog 175 := Try.call175
theorem ent_176 : Enters Try.prog 176 := Try.call176
theorem ent_177 : Enters Try.prog 177 := Try.call177
theorem ent_178 : Enters Try.prog 178 := Try.call178
theorem ent_179 : Enters Try.prog 179 := Try.call179
theorem ent_180 : Enters Try.prog 180 := Try.call180
theorem ent_181 : Enters Try.prog 181 := Try.call181
theorem ent_182 : Enters Try.prog 182 := Try.call182
theorem ent_183 : Enters Try.prog 183 := Try.call183
theorem ent_184 : Enters Try.prog 184 := Try.call184
theorem ent_185 : Enters Try.prog 185 := Try.call185
theorem ent_186 : Enters Try.prog 186 := Try.call186
theorem ent_187 : Enters Try.prog 187 := Try.call187
theorem ent_188 : Enters Try.prog 188 := Try.call188
theorem ent_189 : Enters Try.prog 189 := Try.call189
theorem ent_190 : Enters Try.prog 190 := Try.call190
theorem ent_191 : Enters Try.prog 191 := Try.call191
theorem ent_192 : Enters Try.prog 192 := Try.call192
theorem ent_193 : Enters Try.prog 193 := Try.call193
theorem ent_194 : Enters Try.prog 194 := Try.call194
theorem ent_195 : Enters Try.prog 195 := Try.call195
theorem ent_196 : Enters Try.prog 196 := Try.call196
theorem ent_197 : Enters Try.prog 197 := Try.call197
theorem ent_198 : Enters Try.prog 198 := Try.call198
theorem ent_199 : Enters Try.prog 199 := Try.call199
theorem ent_200 : Enters Try.prog 200 := Try.call200
theorem ent_201 : Enters Try.prog 201 := Try.call201
theorem ent_202 : Enters Try.prog 202 := Try.call202

def G0 : Env := env0 T
theorem G0_ok : EnvOk Try.prog G0 := env0_ok tok hmix
end Go.Proofs.Ytpopcdnjnligiaa
