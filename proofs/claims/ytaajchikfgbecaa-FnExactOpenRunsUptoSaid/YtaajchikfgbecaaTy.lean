/-
  What is told of the types of this translation, each by a closed check; functions with a body are entered. Printed by a program.
-/
import Derived.Test.YtaajchikfgbecaaB12
import Derived.Test.YtaajchikfgbecaaProg
namespace Go.Proofs.Ytaajchikfgbecaa
open Go.RowKit

abbrev BoundsErrorCode__ : Type := Int × Int × Bool × Int × Unit
def ty_BoundsErrorCode__ : Ty := .st [(.int .i64), (.int .i64), .bool, (.int .u8)]
def d_BoundsErrorCode__ : BoundsErrorCode__ := (0, 0, false, 0, ())
abbrev DayRow : Type := Int × Int × Int × Int × Int × ByteArray × Unit
def ty_DayRow : Ty := .st [(.int .i64), (.int .i64), (.int .i64), (.int .i64), (.int .i64), .str]
def d_DayRow : DayRow := (0, 0, 0, 0, 0, (ByteArray.mk #[]), ())
abbrev GripState : Type := Int × Int × Int × Int × Unit
def ty_GripState : Ty := .st [(.int .i64), (.int .i64), (.int .i64), (.int .i64)]
def d_GripState : GripState := (0, 0, 0, 0, ())
abbrev GripStep : Type := Int × Int × Unit
def ty_GripStep : Ty := .st [(.int .i64), (.int .i64)]
def d_GripStep : GripStep := (0, 0, ())
abbrev Weather : Type := Int × Int × Int × Int × Bool × Unit
def ty_Weather : Ty := .st [(.int .i64), (.int .i64), (.int .i64), (.int .i64), .bool]
def d_Weather : Weather := (0, 0, 0, 0, false, ())
abbrev boundsError : Type := Int × Int × Bool × Int × Unit
def ty_boundsError : Ty := .st [(.int .i64), (.int .i64), .bool, (.int .u8)]
def d_boundsError : boundsError := (0, 0, false, 0, ())
abbrev errorAddressString : Type := ByteArray × Int × Unit
def ty_errorAddressString : Ty := .st [.str, (.int .u64)]
def d_errorAddressString : errorAddressString := ((ByteArray.mk #[]), 0, ())
abbrev l1Cur : Type := (List Int) × Int × Int × Unit
def ty_l1Cur : Ty := .st [(.sl (.int .u8)), (.int .i64), (.int .u64)]
def d_l1Cur : l1Cur := ([], 0, 0, ())
abbrev struct___Day_int__Ups_int__Downs_int__Hours_int__Stops_int__Reason_string__ : Type := Int × Int × Int × Int × Int × ByteArray × Unit
def ty_struct___Day_int__Ups_int__Downs_int__Hours_int__Stops_int__Reason_string__ : Ty := .st [(.int .i64), (.int .i64), (.int .i64), (.int .i64), (.int .i64), .str]
def d_struct___Day_int__Ups_int__Downs_int__Hours_int__Stops_int__Reason_string__ : struct___Day_int__Ups_int__Downs_int__Hours_int__Stops_int__Reason_string__ := (0, 0, 0, 0, 0, (ByteArray.mk #[]), ())
abbrev struct___Kind_int__Value_int__ : Type := Int × Int × Unit
def ty_struct___Kind_int__Value_int__ : Ty := .st [(.int .i64), (.int .i64)]
def d_struct___Kind_int__Value_int__ : struct___Kind_int__Value_int__ := (0, 0, ())
abbrev struct___Minute_int__Wind_int__From_int__Degree_int__Storm_bool__ : Type := Int × Int × Int × Int × Bool × Unit
def ty_struct___Minute_int__Wind_int__From_int__Degree_int__Storm_bool__ : Ty := .st [(.int .i64), (.int .i64), (.int .i64), (.int .i64), .bool]
def d_struct___Minute_int__Wind_int__From_int__Degree_int__Storm_bool__ : struct___Minute_int__Wind_int__From_int__Degree_int__Storm_bool__ := (0, 0, 0, 0, false, ())
abbrev struct___State_int__Zone_int__Force_int__Fails_int__ : Type := Int × Int × Int × Int × Unit
def ty_struct___State_int__Zone_int__Force_int__Fails_int__ : Ty := .st [(.int .i64), (.int .i64), (.int .i64), (.int .i64)]
def d_struct___State_int__Zone_int__Force_int__Fails_int__ : struct___State_int__Zone_int__Force_int__Fails_int__ := (0, 0, 0, 0, ())
abbrev struct___code___uint8__at_int__seed_uint64__ : Type := (List Int) × Int × Int × Unit
def ty_struct___code___uint8__at_int__seed_uint64__ : Ty := .st [(.sl (.int .u8)), (.int .i64), (.int .u64)]
def d_struct___code___uint8__at_int__seed_uint64__ : struct___code___uint8__at_int__seed_uint64__ := ([], 0, 0, ())
abbrev struct___msg_string__addr_uintptr__ : Type := ByteArray × Int × Unit
def ty_struct___msg_string__addr_uintptr__ : Ty := .st [.str, (.int .u64)]
def d_struct___msg_string__addr_uintptr__ : struct___msg_string__addr_uintptr__ := ((ByteArray.mk #[]), 0, ())
abbrev w64 (x : Int) : Int := IntKind.i64.wrap x
abbrev w32 (x : Int) : Int := IntKind.i32.wrap x
abbrev wu64 (x : Int) : Int := IntKind.u64.wrap x
abbrev wu8 (x : Int) : Int := IntKind.u8.wrap x
abbrev wu32 (x : Int) : Int := IntKind.u32.wrap x
abbrev wu16 (x : Int) : Int := IntKind.u16.wrap x
abbrev w16 (x : Int) : Int := IntKind.i16.wrap x
abbrev w8 (x : Int) : Int := IntKind.i8.wrap x

theorem hmix : Try.prog.follows .mixedOrders = true := by kernel_rfl

def T : Nat → Option TI
  | 2 => some ⟨(some (.int .i64)), 1, 8, false, [], 0, .int .i64 0, (some .i64), false, (0, 0), none⟩
  | 3 => some ⟨(some (.int .i64)), 1, 8, false, [], 0, .int .i64 0, (some .i64), false, (0, 0), none⟩
  | 4 => some ⟨(some .bool), 1, 1, false, [], 0, .bool false, none, false, (0, 0), none⟩
  | 5 => some ⟨(some (.int .u8)), 1, 1, false, [], 0, .int .u8 0, (some .u8), false, (0, 0), none⟩
  | 6 => some ⟨(some (.int .u8)), 1, 1, false, [], 0, .int .u8 0, (some .u8), false, (0, 0), none⟩
  | 7 => some ⟨(some ty_BoundsErrorCode__), 4, 24, true, [(0, 1, false), (1, 1, false), (2, 1, false), (3, 1, false)], 0, .agg #[.int .i64 0, .int .i64 0, .bool false, .int .u8 0], none, false, (0, 0), none⟩
  | 8 => some ⟨(some ty_boundsError), 4, 24, true, [(0, 1, false), (1, 1, false), (2, 1, false), (3, 1, false)], 0, .agg #[.int .i64 0, .int .i64 0, .bool false, .int .u8 0], none, false, (0, 0), none⟩
  | 9 => some ⟨(some .str), 1, 16, false, [], 0, .string ⟨#[]⟩, none, true, (0, 0), none⟩
  | 10 => some ⟨(some .str), 1, 16, false, [], 0, .string ⟨#[]⟩, none, true, (0, 0), none⟩
  | 11 => some ⟨(some .str), 1, 16, false, [], 0, .string ⟨#[]⟩, none, true, (0, 0), none⟩
  | 21 => some ⟨(some (.int .i32)), 1, 4, false, [], 0, .int .i32 0, (some .i32), false, (0, 0), none⟩
  | 22 => some ⟨(some (.sl ty_DayRow)), 1, 24, false, [], 63, .slice none 0 0, none, false, (0, 0), none⟩
  | 24 => some ⟨(some (.sl (.sl (.int .i64)))), 1, 24, false, [], 42, .slice none 0 0, none, false, (0, 0), none⟩
  | 27 => some ⟨(some (.sl ty_DayRow)), 1, 24, false, [], 65, .slice none 0 0, none, false, (0, 0), none⟩
  | 34 => some ⟨(some (.sl (.int .u8))), 1, 24, false, [], 5, .slice none 0 0, none, false, (0, 0), none⟩
  | 36 => some ⟨(some (.sl ty_Weather)), 1, 24, false, [], 48, .slice none 0 0, none, false, (0, 0), none⟩
  | 42 => some ⟨(some (.sl (.int .i64))), 1, 24, false, [], 3, .slice none 0 0, none, false, (0, 0), none⟩
  | 47 => some ⟨(some ty_struct___Minute_int__Wind_int__From_int__Degree_int__Storm_bool__), 5, 40, true, [(0, 1, false), (1, 1, false), (2, 1, false), (3, 1, false), (4, 1, false)], 0, .agg #[.int .i64 0, .int .i64 0, .int .i64 0, .int .i64 0, .bool false], none, false, (0, 0), none⟩
  | 48 => some ⟨(some ty_Weather), 5, 40, true, [(0, 1, false), (1, 1, false), (2, 1, false), (3, 1, false), (4, 1, false)], 0, .agg #[.int .i64 0, .int .i64 0, .int .i64 0, .int .i64 0, .bool false], none, false, (0, 0), none⟩
  | 55 => some ⟨(some ty_struct___State_int__Zone_int__Force_int__Fails_int__), 4, 32, true, [(0, 1, false), (1, 1, false), (2, 1, false), (3, 1, false)], 0, .agg #[.int .i64 0, .int .i64 0, .int .i64 0, .int .i64 0], none, false, (0, 0), none⟩
  | 56 => some ⟨(some ty_GripState), 4, 32, true, [(0, 1, false), (1, 1, false), (2, 1, false), (3, 1, false)], 0, .agg #[.int .i64 0, .int .i64 0, .int .i64 0, .int .i64 0], none, false, (0, 0), none⟩
  | 58 => some ⟨(some ty_GripState), 4, 32, true, [(0, 1, false), (1, 1, false), (2, 1, false), (3, 1, false)], 0, .agg #[.int .i64 0, .int .i64 0, .int .i64 0, .int .i64 0], none, false, (0, 0), none⟩
  | 62 => some ⟨(some ty_struct___Day_int__Ups_int__Downs_int__Hours_int__Stops_int__Reason_string__), 6, 56, true, [(0, 1, false), (1, 1, false), (2, 1, false), (3, 1, false), (4, 1, false), (5, 1, false)], 0, .agg #[.int .i64 0, .int .i64 0, .int .i64 0, .int .i64 0, .int .i64 0, .string ⟨#[]⟩], none, false, (0, 0), none⟩
  | 63 => some ⟨(some ty_DayRow), 6, 56, true, [(0, 1, false), (1, 1, false), (2, 1, false), (3, 1, false), (4, 1, false), (5, 1, false)], 0, .agg #[.int .i64 0, .int .i64 0, .int .i64 0, .int .i64 0, .int .i64 0, .string ⟨#[]⟩], none, false, (0, 0), none⟩
  | 65 => some ⟨(some ty_DayRow), 6, 56, true, [(0, 1, false), (1, 1, false), (2, 1, false), (3, 1, false), (4, 1, false), (5, 1, false)], 0, .agg #[.int .i64 0, .int .i64 0, .int .i64 0, .int .i64 0, .int .i64 0, .string ⟨#[]⟩], none, false, (0, 0), none⟩
  | 71 => some ⟨(some (.int .u64)), 1, 8, false, [], 0, .int .u64 0, (some .u64), false, (0, 0), none⟩
  | 72 => some ⟨(some ty_struct___code___uint8__at_int__seed_uint64__), 3, 40, true, [(0, 1, false), (1, 1, false), (2, 1, false)], 0, .agg #[.slice none 0 0, .int .i64 0, .int .u64 0], none, false, (0, 0), none⟩
  | 73 => some ⟨(some ty_l1Cur), 3, 40, true, [(0, 1, false), (1, 1, false), (2, 1, false)], 0, .agg #[.slice none 0 0, .int .i64 0, .int .u64 0], none, false, (0, 0), none⟩
  | 87 => some ⟨(some (.sl ty_GripState)), 1, 24, false, [], 58, .slice none 0 0, none, false, (0, 0), none⟩
  | 90 => some ⟨(some ty_struct___Kind_int__Value_int__), 2, 16, true, [(0, 1, false), (1, 1, false)], 0, .agg #[.int .i64 0, .int .i64 0], none, false, (0, 0), none⟩
  | 91 => some ⟨(some ty_GripStep), 2, 16, true, [(0, 1, false), (1, 1, false)], 0, .agg #[.int .i64 0, .int .i64 0], none, false, (0, 0), none⟩
  | 94 => some ⟨none, 1, 8, false, [], 0, .map none, none, false, (0, 0), (some (58, 4))⟩
  | 95 => some ⟨(some (.sl ty_GripStep)), 1, 24, false, [], 91, .slice none 0 0, none, false, (0, 0), none⟩
  | 99 => some ⟨(some (.int .u64)), 1, 8, false, [], 0, .int .u64 0, (some .u64), false, (0, 0), none⟩
  | 107 => some ⟨(some (.int .u32)), 1, 4, false, [], 0, .int .u32 0, (some .u32), false, (0, 0), none⟩
  | 108 => some ⟨(some (.int .u8)), 1, 1, false, [], 0, .int .u8 0, (some .u8), false, (0, 0), none⟩
  | 109 => some ⟨(some (.int .u8)), 1, 1, false, [], 0, .int .u8 0, (some .u8), false, (0, 0), none⟩
  | 112 => some ⟨(some (.int .i32)), 1, 4, false, [], 0, .int .i32 0, (some .i32), false, (0, 0), none⟩
  | 113 => some ⟨(some (.int .i32)), 1, 4, false, [], 0, .int .i32 0, (some .i32), false, (0, 0), none⟩
  | _ => none

theorem tiok_2 : TIok Try.prog 2 ⟨(some (.int .i64)), 1, 8, false, [], 0, .int .i64 0, (some .i64), false, (0, 0), none⟩ := tiok_of (by kernel_rfl) (by kernel_rfl) (by kernel_rfl)
theorem tiok_3 : TIok Try.prog 3 ⟨(some (.int .i64)), 1, 8, false, [], 0, .int .i64 0, (some .i64), false, (0, 0), none⟩ := tiok_of (by kernel_rfl) (by kernel_rfl) (by kernel_rfl)
theorem tiok_4 : TIok Try.prog 4 ⟨(some .bool), 1, 1, false, [], 0, .bool false, none, false, (0, 0), none⟩ := tiok_of (by kernel_rfl) (by kernel_rfl) (by kernel_rfl)
theorem tiok_5 : TIok Try.prog 5 ⟨(some (.int .u8)), 1, 1, false, [], 0, .int .u8 0, (some .u8), false, (0, 0), none⟩ := tiok_of (by kernel_rfl) (by kernel_rfl) (by kernel_rfl)
theorem tiok_6 : TIok Try.prog 6 ⟨(some (.int .u8)), 1, 1, false, [], 0, .int .u8 0, (some .u8), false, (0, 0), none⟩ := tiok_of (by kernel_rfl) (by kernel_rfl) (by kernel_rfl)
theorem tiok_7 : TIok Try.prog 7 ⟨(some ty_BoundsErrorCode__), 4, 24, true, [(0, 1, false), (1, 1, false), (2, 1, false), (3, 1, false)], 0, .agg #[.int .i64 0, .int .i64 0, .bool false, .int .u8 0], none, false, (0, 0), none⟩ := tiok_of (by kernel_rfl) (by kernel_rfl) (by kernel_rfl)
theorem tiok_8 : TIok Try.prog 8 ⟨(some ty_boundsError), 4, 24, true, [(0, 1, false), (1, 1, false), (2, 1, false), (3, 1, false)], 0, .agg #[.int .i64 0, .int .i64 0, .bool false, .int .u8 0], none, false, (0, 0), none⟩ := tiok_of (by kernel_rfl) (by kernel_rfl) (by kernel_rfl)
theorem tiok_9 : TIok Try.prog 9 ⟨(some .str), 1, 16, false, [], 0, .string ⟨#[]⟩, none, true, (0, 0), none⟩ := tiok_of (by kernel_rfl) (by kernel_rfl) (by kernel_rfl)
theorem tiok_10 : TIok Try.prog 10 ⟨(some .str), 1, 16, false, [], 0, .string ⟨#[]⟩, none, true, (0, 0), none⟩ := tiok_of (by kernel_rfl) (by kernel_rfl) (by kernel_rfl)
theorem tiok_11 : TIok Try.prog 11 ⟨(some .str), 1, 16, false, [], 0, .string ⟨#[]⟩, none, true, (0, 0), none⟩ := tiok_of (by kernel_rfl) (by kernel_rfl) (by kernel_rfl)
theorem tiok_21 : TIok Try.prog 21 ⟨(some (.int .i32)), 1, 4, false, [], 0, .int .i32 0, (some .i32), false, (0, 0), none⟩ := tiok_of (by kernel_rfl) (by kernel_rfl) (by kernel_rfl)
theorem tiok_22 : TIok Try.prog 22 ⟨(some (.sl ty_DayRow)), 1, 24, false, [], 63, .slice none 0 0, none, false, (0, 0), none⟩ := tiok_of (by kernel_rfl) (by kernel_rfl) (by kernel_rfl)
theorem tiok_24 : TIok Try.prog 24 ⟨(some (.sl (.sl (.int .i64)))), 1, 24, false, [], 42, .slice none 0 0, none, false, (0, 0), none⟩ := tiok_of (by kernel_rfl) (by kernel_rfl) (by kernel_rfl)
theorem tiok_27 : TIok Try.prog 27 ⟨(some (.sl ty_DayRow)), 1, 24, false, [], 65, .slice none 0 0, none, false, (0, 0), none⟩ := tiok_of (by kernel_rfl) (by kernel_rfl) (by kernel_rfl)
theorem tiok_34 : TIok Try.prog 34 ⟨(some (.sl (.int .u8))), 1, 24, false, [], 5, .slice none 0 0, none, false, (0, 0), none⟩ := tiok_of (by kernel_rfl) (by kernel_rfl) (by kernel_rfl)
theorem tiok_36 : TIok Try.prog 36 ⟨(some (.sl ty_Weather)), 1, 24, false, [], 48, .slice none 0 0, none, false, (0, 0), none⟩ := tiok_of (by kernel_rfl) (by kernel_rfl) (by kernel_rfl)
theorem tiok_42 : TIok Try.prog 42 ⟨(some (.sl (.int .i64))), 1, 24, false, [], 3, .slice none 0 0, none, false, (0, 0), none⟩ := tiok_of (by kernel_rfl) (by kernel_rfl) (by kernel_rfl)
theorem tiok_47 : TIok Try.prog 47 ⟨(some ty_struct___Minute_int__Wind_int__From_int__Degree_int__Storm_bool__), 5, 40, true, [(0, 1, false), (1, 1, false), (2, 1, false), (3, 1, false), (4, 1, false)], 0, .agg #[.int .i64 0, .int .i64 0, .int .i64 0, .int .i64 0, .bool false], none, false, (0, 0), none⟩ := tiok_of (by kernel_rfl) (by kernel_rfl) (by kernel_rfl)
theorem tiok_48 : TIok Try.prog 48 ⟨(some ty_Weather), 5, 40, true, [(0, 1, false), (1, 1, false), (2, 1, false), (3, 1, false), (4, 1, false)], 0, .agg #[.int .i64 0, .int .i64 0, .int .i64 0, .int .i64 0, .bool false], none, false, (0, 0), none⟩ := tiok_of (by kernel_rfl) (by kernel_rfl) (by kernel_rfl)
theorem tiok_55 : TIok Try.prog 55 ⟨(some ty_struct___State_int__Zone_int__Force_int__Fails_int__), 4, 32, true, [(0, 1, false), (1, 1, false), (2, 1, false), (3, 1, false)], 0, .agg #[.int .i64 0, .int .i64 0, .int .i64 0, .int .i64 0], none, false, (0, 0), none⟩ := tiok_of (by kernel_rfl) (by kernel_rfl) (by kernel_rfl)
theorem tiok_56 : TIok Try.prog 56 ⟨(some ty_GripState), 4, 32, true, [(0, 1, false), (1, 1, false), (2, 1, false), (3, 1, false)], 0, .agg #[.int .i64 0, .int .i64 0, .int .i64 0, .int .i64 0], none, false, (0, 0), none⟩ := tiok_of (by kernel_rfl) (by kernel_rfl) (by kernel_rfl)
theorem tiok_58 : TIok Try.prog 58 ⟨(some ty_GripState), 4, 32, true, [(0, 1, false), (1, 1, false), (2, 1, false), (3, 1, false)], 0, .agg #[.int .i64 0, .int .i64 0, .int .i64 0, .int .i64 0], none, false, (0, 0), none⟩ := tiok_of (by kernel_rfl) (by kernel_rfl) (by kernel_rfl)
theorem tiok_62 : TIok Try.prog 62 ⟨(some ty_struct___Day_int__Ups_int__Downs_int__Hours_int__Stops_int__Reason_string__), 6, 56, true, [(0, 1, false), (1, 1, false), (2, 1, false), (3, 1, false), (4, 1, false), (5, 1, false)], 0, .agg #[.int .i64 0, .int .i64 0, .int .i64 0, .int .i64 0, .int .i64 0, .string ⟨#[]⟩], none, false, (0, 0), none⟩ := tiok_of (by kernel_rfl) (by kernel_rfl) (by kernel_rfl)
theorem tiok_63 : TIok Try.prog 63 ⟨(some ty_DayRow), 6, 56, true, [(0, 1, false), (1, 1, false), (2, 1, false), (3, 1, false), (4, 1, false), (5, 1, false)], 0, .agg #[.int .i64 0, .int .i64 0, .int .i64 0, .int .i64 0, .int .i64 0, .string ⟨#[]⟩], none, false, (0, 0), none⟩ := tiok_of (by kernel_rfl) (by kernel_rfl) (by kernel_rfl)
theorem tiok_65 : TIok Try.prog 65 ⟨(some ty_DayRow), 6, 56, true, [(0, 1, false), (1, 1, false), (2, 1, false), (3, 1, false), (4, 1, false), (5, 1, false)], 0, .agg #[.int .i64 0, .int .i64 0, .int .i64 0, .int .i64 0, .int .i64 0, .string ⟨#[]⟩], none, false, (0, 0), none⟩ := tiok_of (by kernel_rfl) (by kernel_rfl) (by kernel_rfl)
theorem tiok_71 : TIok Try.prog 71 ⟨(some (.int .u64)), 1, 8, false, [], 0, .int .u64 0, (some .u64), false, (0, 0), none⟩ := tiok_of (by kernel_rfl) (by kernel_rfl) (by kernel_rfl)
theorem tiok_72 : TIok Try.prog 72 ⟨(some ty_struct___code___uint8__at_int__seed_uint64__), 3, 40, true, [(0, 1, false), (1, 1, false), (2, 1, false)], 0, .agg #[.slice none 0 0, .int .i64 0, .int .u64 0], none, false, (0, 0), none⟩ := tiok_of (by kernel_rfl) (by kernel_rfl) (by kernel_rfl)
theorem tiok_73 : TIok Try.prog 73 ⟨(some ty_l1Cur), 3, 40, true, [(0, 1, false), (1, 1, false), (2, 1, false)], 0, .agg #[.slice none 0 0, .int .i64 0, .int .u64 0], none, false, (0, 0), none⟩ := tiok_of (by kernel_rfl) (by kernel_rfl) (by kernel_rfl)
theorem tiok_87 : TIok Try.prog 87 ⟨(some (.sl ty_GripState)), 1, 24, false, [], 58, .slice none 0 0, none, false, (0, 0), none⟩ := tiok_of (by kernel_rfl) (by kernel_rfl) (by kernel_rfl)
theorem tiok_90 : TIok Try.prog 90 ⟨(some ty_struct___Kind_int__Value_int__), 2, 16, true, [(0, 1, false), (1, 1, false)], 0, .agg #[.int .i64 0, .int .i64 0], none, false, (0, 0), none⟩ := tiok_of (by kernel_rfl) (by kernel_rfl) (by kernel_rfl)
theorem tiok_91 : TIok Try.prog 91 ⟨(some ty_GripStep), 2, 16, true, [(0, 1, false), (1, 1, false)], 0, .agg #[.int .i64 0, .int .i64 0], none, false, (0, 0), none⟩ := tiok_of (by kernel_rfl) (by kernel_rfl) (by kernel_rfl)
theorem tiok_94 : TIok Try.prog 94 ⟨none, 1, 8, false, [], 0, .map none, none, false, (0, 0), (some (58, 4))⟩ := tiok_of (by kernel_rfl) (by kernel_rfl) (by kernel_rfl)
theorem tiok_95 : TIok Try.prog 95 ⟨(some (.sl ty_GripStep)), 1, 24, false, [], 91, .slice none 0 0, none, false, (0, 0), none⟩ := tiok_of (by kernel_rfl) (by kernel_rfl) (by kernel_rfl)
theorem tiok_99 : TIok Try.prog 99 ⟨(some (.int .u64)), 1, 8, false, [], 0, .int .u64 0, (some .u64), false, (0, 0), none⟩ := tiok_of (by kernel_rfl) (by kernel_rfl) (by kernel_rfl)
theorem tiok_107 : TIok Try.prog 107 ⟨(some (.int .u32)), 1, 4, false, [], 0, .int .u32 0, (some .u32), false, (0, 0), none⟩ := tiok_of (by kernel_rfl) (by kernel_rfl) (by kernel_rfl)
theorem tiok_108 : TIok Try.prog 108 ⟨(some (.int .u8)), 1, 1, false, [], 0, .int .u8 0, (some .u8), false, (0, 0), none⟩ := tiok_of (by kernel_rfl) (by kernel_rfl) (by kernel_rfl)
theorem tiok_109 : TIok Try.prog 109 ⟨(some (.int .u8)), 1, 1, false, [], 0, .int .u8 0, (some .u8), false, (0, 0), none⟩ := tiok_of (by kernel_rfl) (by kernel_rfl) (by kernel_rfl)
theorem tiok_112 : TIok Try.prog 112 ⟨(some (.int .i32)), 1, 4, false, [], 0, .int .i32 0, (some .i32), false, (0, 0), none⟩ := tiok_of (by kernel_rfl) (by kernel_rfl) (by kernel_rfl)
theorem tiok_113 : TIok Try.prog 113 ⟨(some (.int .i32)), 1, 4, false, [], 0, .int .i32 0, (some .i32), false, (0, 0), none⟩ := tiok_of (by kernel_rfl) (by kernel_rfl) (by kernel_rfl)

theorem tok : TOk Try.prog T := fun t i h => by
  unfold T at h
  split at h
  · cases h; exact tiok_2
  · cases h; exact tiok_3
  · cases h; exact tiok_4
  · cases h; exact tiok_5
  · cases h; exact tiok_6
  · cases h; exact tiok_7
  · cases h; exact tiok_8
  · cases h; exact tiok_9
  · cases h; exact tiok_10
  · cases h; exact tiok_11
  · cases h; exact tiok_21
  · cases h; exact tiok_22
  · cases h; exact tiok_24
  · cases h; exact tiok_27
  · cases h; exact tiok_34
  · cases h; exact tiok_36
  · cases h; exact tiok_42
  · cases h; exact tiok_47
  · cases h; exact tiok_48
  · cases h; exact tiok_55
  · cases h; exact tiok_56
  · cases h; exact tiok_58
  · cases h; exact tiok_62
  · cases h; exact tiok_63
  · cases h; exact tiok_65
  · cases h; exact tiok_71
  · cases h; exact tiok_72
  · cases h; exact tiok_73
  · cases h; exact tiok_87
  · cases h; exact tiok_90
  · cases h; exact tiok_91
  · cases h; exact tiok_94
  · cases h; exact tiok_95
  · cases h; exact tiok_99
  · cases h; exact tiok_107
  · cases h; exact tiok_108
  · cases h; exact tiok_109
  · cases h; exact tiok_112
  · cases h; exact tiok_113
  · cases h

theorem ent_3 : Enters Try.prog 3 := Try.call3
theorem ent_4 : Enters Try.prog 4 := Try.call4
theorem ent_5 : Enters Try.prog 5 := Try.call5
theorem ent_6 : Enters Try.prog 6 := Try.call6
theorem ent_7 : Enters Try.prog 7 := Try.call7
theorem ent_8 : Enters Try.prog 8 := Try.call8
theorem ent_9 : Enters Try.prog 9 := Try.call9
theorem ent_10 : Enters Try.prog 10 := Try.call10
theorem ent_11 : Enters Try.prog 11 := Try.call11
theorem ent_12 : Enters Try.prog 12 := Try.call12
theorem ent_13 : Enters Try.prog 13 := Try.call13
theorem ent_14 : Enters Try.prog 14 := Try.call14
theorem ent_15 : Enters Try.prog 15 := Try.call15
theorem ent_16 : Enters Try.prog 16 := Try.call16
theorem ent_17 : Enters Try.prog 17 := Try.call17
theorem ent_18 : Enters Try.prog 18 := Try.call18
theorem ent_19 : Enters Try.prog 19 := Try.call19
theorem ent_20 : Enters Try.prog 20 := Try.call20
theorem ent_21 : Enters Try.prog 21 := Try.call21
theorem ent_22 : Enters Try.prog 22 := Try.call22
theorem ent_23 : Enters Try.prog 23 := Try.call23
theorem ent_24 : Enters Try.prog 24 := Try.call24
theorem ent_25 : Enters Try.prog 25 := Try.call25
theorem ent_26 : Enters Try.prog 26 := Try.call26
theorem ent_27 : Enters Try.prog 27 := Try.call27
theorem ent_28 : Enters Try.prog 28 := Try.call28
theorem ent_29 : Enters Try.prog 29 := Try.call29
theorem ent_30 : Enters Try.prog 30 := Try.call30
theorem ent_31 : Enters Try.prog 31 := Try.call31
theorem ent_32 : Enters Try.prog 32 := Try.call32
theorem ent_33 : Enters Try.prog 33 := Try.call33
theorem ent_34 : Enters Try.prog 34 := Try.call34
theorem ent_35 : Enters Try.prog 35 := Try.call35
theorem ent_36 : Enters Try.prog 36 := Try.call36
theorem ent_37 : Enters Try.prog 37 := Try.call37
theorem ent_38 : Enters Try.prog 38 := Try.call38
theorem ent_39 : Enters Try.prog 39 := Try.call39
theorem ent_40 : Enters Try.prog 40 := Try.call40
theorem ent_41 : Enters Try.prog 41 := Try.call41
theorem ent_42 : Enters Try.prog 42 := Try.call42
theorem ent_43 : Enters Try.prog 43 := Try.call43
theorem ent_44 : Enters Try.prog 44 := Try.call44
theorem ent_45 : Enters Try.prog 45 := Try.call45
theorem ent_46 : Enters Try.prog 46 := Try.call46
theorem ent_47 : Enters Try.prog 47 := Try.call47
theorem ent_48 : Enters Try.prog 48 := Try.call48
theorem ent_49 : Enters Try.prog 49 := Try.call49
theorem ent_50 : Enters Try.prog 50 := Try.call50
theorem ent_51 : Enters Try.prog 51 := Try.call51
theorem ent_52 : Enters Try.prog 52 := Try.call52
theorem ent_53 : Enters Try.prog 53 := Try.call53
theorem ent_54 : Enters Try.prog 54 := Try.call54
theorem ent_55 : Enters Try.prog 55 := Try.call55
theorem ent_56 : Enters Try.prog 56 := Try.call56
theorem ent_57 : Enters Try.prog 57 := Try.call57
theorem ent_58 : Enters Try.prog 58 := Try.call58
theorem ent_59 : Enters Try.prog 59 := Try.call59
theorem ent_60 : Enters Try.prog 60 := Try.call60
theorem ent_61 : Enters Try.prog 61 := Try.call61
theorem ent_62 : Enters Try.prog 62 := Try.call62
theorem ent_63 : Enters Try.prog 63 := Try.call63
theorem ent_64 : Enters Try.prog 64 := Try.call64
theorem ent_65 : Enters Try.prog 65 := Try.call65
theorem ent_66 : Enters Try.prog 66 := Try.call66
theorem ent_67 : Enters Try.prog 67 := Try.call67
theorem ent_68 : Enters Try.prog 68 := Try.call68
theorem ent_69 : Enters Try.prog 69 := Try.call69
theorem ent_70 : Enters Try.prog 70 := Try.call70
theorem ent_71 : Enters Try.prog 71 := Try.call71
theorem ent_72 : Enters Try.prog 72 := Try.call72
theorem ent_73 : Enters Try.prog 73 := Try.call73
theorem ent_74 : Enters Try.prog 74 := Try.call74
theorem ent_75 : Enters Try.prog 75 := Try.call75
theorem ent_76 : Enters Try.prog 76 := Try.call76
theorem ent_77 : Enters Try.prog 77 := Try.call77

def G0 : Env := env0 T
theorem G0_ok : EnvOk Try.prog G0 := env0_ok tok hmix
end Go.Proofs.Ytaajchikfgbecaa
