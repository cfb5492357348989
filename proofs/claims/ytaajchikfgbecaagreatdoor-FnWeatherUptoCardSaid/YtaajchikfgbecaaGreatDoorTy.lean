/-
  What is told of the types of this translation, each by a closed check; functions with a body are entered. Printed by a program.
-/
import Derived.Test.YtaajchikfgbecaaGreatDoorB12
import Derived.Test.YtaajchikfgbecaaGreatDoorProg
namespace Go.Proofs.YtaajchikfgbecaaGreatDoor
open Go.RowKit

abbrev BoundsErrorCode__ : Type := Int × Int × Bool × Int × Unit
def ty_BoundsErrorCode__ : Ty := .st [(.int .i64), (.int .i64), .bool, (.int .u8)]
def d_BoundsErrorCode__ : BoundsErrorCode__ := (0, 0, false, 0, ())
abbrev Weather : Type := Int × Int × Int × Int × Bool × Unit
def ty_Weather : Ty := .st [(.int .i64), (.int .i64), (.int .i64), (.int .i64), .bool]
def d_Weather : Weather := (0, 0, 0, 0, false, ())
abbrev acceptRange : Type := Int × Int × Unit
def ty_acceptRange : Ty := .st [(.int .u8), (.int .u8)]
def d_acceptRange : acceptRange := (0, 0, ())
abbrev boundsError : Type := Int × Int × Bool × Int × Unit
def ty_boundsError : Ty := .st [(.int .i64), (.int .i64), .bool, (.int .u8)]
def d_boundsError : boundsError := (0, 0, false, 0, ())
abbrev errorAddressString : Type := ByteArray × Int × Unit
def ty_errorAddressString : Ty := .st [.str, (.int .u64)]
def d_errorAddressString : errorAddressString := ((ByteArray.mk #[]), 0, ())
abbrev errorString : Type := ByteArray × Unit
def ty_errorString : Ty := .st [.str]
def d_errorString : errorString := ((ByteArray.mk #[]), ())
abbrev l1Cur : Type := (List Int) × Int × Int × Unit
def ty_l1Cur : Ty := .st [(.sl (.int .u8)), (.int .i64), (.int .u64)]
def d_l1Cur : l1Cur := ([], 0, 0, ())
abbrev struct___Minute_int__Wind_int__From_int__Degree_int__Storm_bool__ : Type := Int × Int × Int × Int × Bool × Unit
def ty_struct___Minute_int__Wind_int__From_int__Degree_int__Storm_bool__ : Ty := .st [(.int .i64), (.int .i64), (.int .i64), (.int .i64), .bool]
def d_struct___Minute_int__Wind_int__From_int__Degree_int__Storm_bool__ : struct___Minute_int__Wind_int__From_int__Degree_int__Storm_bool__ := (0, 0, 0, 0, false, ())
abbrev struct___code___uint8__at_int__seed_uint64__ : Type := (List Int) × Int × Int × Unit
def ty_struct___code___uint8__at_int__seed_uint64__ : Ty := .st [(.sl (.int .u8)), (.int .i64), (.int .u64)]
def d_struct___code___uint8__at_int__seed_uint64__ : struct___code___uint8__at_int__seed_uint64__ := ([], 0, 0, ())
abbrev struct___lo_uint8__hi_uint8__ : Type := Int × Int × Unit
def ty_struct___lo_uint8__hi_uint8__ : Ty := .st [(.int .u8), (.int .u8)]
def d_struct___lo_uint8__hi_uint8__ : struct___lo_uint8__hi_uint8__ := (0, 0, ())
abbrev struct___msg_string__addr_uintptr__ : Type := ByteArray × Int × Unit
def ty_struct___msg_string__addr_uintptr__ : Ty := .st [.str, (.int .u64)]
def d_struct___msg_string__addr_uintptr__ : struct___msg_string__addr_uintptr__ := ((ByteArray.mk #[]), 0, ())
abbrev struct___s_string__ : Type := ByteArray × Unit
def ty_struct___s_string__ : Ty := .st [.str]
def d_struct___s_string__ : struct___s_string__ := ((ByteArray.mk #[]), ())
abbrev w64 (x : Int) : Int := IntKind.i64.wrap x
abbrev w32 (x : Int) : Int := IntKind.i32.wrap x
abbrev wu64 (x : Int) : Int := IntKind.u64.wrap x
abbrev wu8 (x : Int) : Int := IntKind.u8.wrap x
abbrev wu32 (x : Int) : Int := IntKind.u32.wrap x
abbrev wu16 (x : Int) : Int := IntKind.u16.wrap x
abbrev w16 (x : Int) : Int := IntKind.i16.wrap x
abbrev w8 (x : Int) : Int := IntKind.i8.wrap x

theorem hmix : Tryz.prog.follows .mixedOrders = true := by kernel_rfl

def T : Nat → Option TI
  | 2 => some ⟨(some (.int .i64)), 1, 8, false, [], 0, .int .i64 0, (some .i64), false, (0, 0), none⟩
  | 3 => some ⟨(some (.int .i64)), 1, 8, false, [], 0, .int .i64 0, (some .i64), false, (0, 0), none⟩
  | 4 => some ⟨(some .bool), 1, 1, false, [], 0, .bool false, none, false, (0, 0), none⟩
  | 5 => some ⟨(some (.int .u8)), 1, 1, false, [], 0, .int .u8 0, (some .u8), false, (0, 0), none⟩
  | 6 => some ⟨(some (.int .u8)), 1, 1, false, [], 0, .int .u8 0, (some .u8), false, (0, 0), none⟩
  | 7 => some ⟨(some ty_BoundsErrorCode__), 4, 24, true, [(0, 1, false), (1, 1, false), (2, 1, false), (3, 1, false)], 0, .agg #[.int .i64 0, .int .i64 0, .bool false, .int .u8 0], none, false, (0, 0), none⟩
  | 8 => some ⟨(some ty_boundsError), 4, 24, true, [(0, 1, false), (1, 1, false), (2, 1, false), (3, 1, false)], 0, .agg #[.int .i64 0, .int .i64 0, .bool false, .int .u8 0], none, false, (0, 0), none⟩
  | 9 => some ⟨(some .str), 1, 16, false, [], 0, .string ⟨#[]⟩, none, true, (0, 0), none⟩
  | 10 => some ⟨(some .str), 1, 16, false, [], 0, .string ⟨#[]⟩, none, true, (0, 0), none⟩
  | 11 => some ⟨(some .str), 1, 16, false, [], 0, .string ⟨#[]⟩, none, true, (0, 0), none⟩
  | 21 => some ⟨(some (.int .i32)), 1, 4, false, [], 0, .int .i32 0, (some .i32), false, (0, 0), none⟩
  | 22 => some ⟨(some (.sl (.int .u8))), 1, 24, false, [], 5, .slice none 0 0, none, false, (0, 0), none⟩
  | 24 => some ⟨(some ty_struct___Minute_int__Wind_int__From_int__Degree_int__Storm_bool__), 5, 40, true, [(0, 1, false), (1, 1, false), (2, 1, false), (3, 1, false), (4, 1, false)], 0, .agg #[.int .i64 0, .int .i64 0, .int .i64 0, .int .i64 0, .bool false], none, false, (0, 0), none⟩
  | 25 => some ⟨(some ty_Weather), 5, 40, true, [(0, 1, false), (1, 1, false), (2, 1, false), (3, 1, false), (4, 1, false)], 0, .agg #[.int .i64 0, .int .i64 0, .int .i64 0, .int .i64 0, .bool false], none, false, (0, 0), none⟩
  | 37 => some ⟨(some (.sl ty_Weather)), 1, 24, false, [], 25, .slice none 0 0, none, false, (0, 0), none⟩
  | 44 => some ⟨(some (.sl .str)), 1, 24, false, [], 9, .slice none 0 0, none, false, (0, 0), none⟩
  | 52 => some ⟨(some (.int .u64)), 1, 8, false, [], 0, .int .u64 0, (some .u64), false, (0, 0), none⟩
  | 53 => some ⟨(some ty_struct___code___uint8__at_int__seed_uint64__), 3, 40, true, [(0, 1, false), (1, 1, false), (2, 1, false)], 0, .agg #[.slice none 0 0, .int .i64 0, .int .u64 0], none, false, (0, 0), none⟩
  | 54 => some ⟨(some ty_l1Cur), 3, 40, true, [(0, 1, false), (1, 1, false), (2, 1, false)], 0, .agg #[.slice none 0 0, .int .i64 0, .int .u64 0], none, false, (0, 0), none⟩
  | 57 => some ⟨(some (.sl (.int .i64))), 1, 24, false, [], 3, .slice none 0 0, none, false, (0, 0), none⟩
  | 62 => some ⟨none, 4, 32, true, [], 0, .agg #[.int .i64 0, .int .i64 0, .int .i64 0, .int .i64 0], none, false, (4, 3), none⟩
  | 90 => some ⟨(some (.int .u64)), 1, 8, false, [], 0, .int .u64 0, (some .u64), false, (0, 0), none⟩
  | 96 => some ⟨(some (.int .i64)), 1, 8, false, [], 0, .int .i64 0, (some .i64), false, (0, 0), none⟩
  | 102 => some ⟨none, 24, 24, true, [], 0, .agg #[.int .u8 0, .int .u8 0, .int .u8 0, .int .u8 0, .int .u8 0, .int .u8 0, .int .u8 0, .int .u8 0, .int .u8 0, .int .u8 0, .int .u8 0, .int .u8 0, .int .u8 0, .int .u8 0, .int .u8 0, .int .u8 0, .int .u8 0, .int .u8 0, .int .u8 0, .int .u8 0, .int .u8 0, .int .u8 0, .int .u8 0, .int .u8 0], none, false, (24, 5), none⟩
  | 107 => some ⟨(some (.int .u32)), 1, 4, false, [], 0, .int .u32 0, (some .u32), false, (0, 0), none⟩
  | 115 => some ⟨(some ty_struct___lo_uint8__hi_uint8__), 2, 2, true, [(0, 1, false), (1, 1, false)], 0, .agg #[.int .u8 0, .int .u8 0], none, false, (0, 0), none⟩
  | 116 => some ⟨(some ty_acceptRange), 2, 2, true, [(0, 1, false), (1, 1, false)], 0, .agg #[.int .u8 0, .int .u8 0], none, false, (0, 0), none⟩
  | 117 => some ⟨none, 32, 32, true, [], 0, .agg #[.int .u8 0, .int .u8 0, .int .u8 0, .int .u8 0, .int .u8 0, .int .u8 0, .int .u8 0, .int .u8 0, .int .u8 0, .int .u8 0, .int .u8 0, .int .u8 0, .int .u8 0, .int .u8 0, .int .u8 0, .int .u8 0, .int .u8 0, .int .u8 0, .int .u8 0, .int .u8 0, .int .u8 0, .int .u8 0, .int .u8 0, .int .u8 0, .int .u8 0, .int .u8 0, .int .u8 0, .int .u8 0, .int .u8 0, .int .u8 0, .int .u8 0, .int .u8 0], none, false, (16, 116), none⟩
  | 125 => some ⟨none, 20, 160, true, [], 0, .agg #[.int .u64 0, .int .u64 0, .int .u64 0, .int .u64 0, .int .u64 0, .int .u64 0, .int .u64 0, .int .u64 0, .int .u64 0, .int .u64 0, .int .u64 0, .int .u64 0, .int .u64 0, .int .u64 0, .int .u64 0, .int .u64 0, .int .u64 0, .int .u64 0, .int .u64 0, .int .u64 0], none, false, (20, 52), none⟩
  | 126 => some ⟨none, 65, 65, true, [], 0, .agg #[.int .u8 0, .int .u8 0, .int .u8 0, .int .u8 0, .int .u8 0, .int .u8 0, .int .u8 0, .int .u8 0, .int .u8 0, .int .u8 0, .int .u8 0, .int .u8 0, .int .u8 0, .int .u8 0, .int .u8 0, .int .u8 0, .int .u8 0, .int .u8 0, .int .u8 0, .int .u8 0, .int .u8 0, .int .u8 0, .int .u8 0, .int .u8 0, .int .u8 0, .int .u8 0, .int .u8 0, .int .u8 0, .int .u8 0, .int .u8 0, .int .u8 0, .int .u8 0, .int .u8 0, .int .u8 0, .int .u8 0, .int .u8 0, .int .u8 0, .int .u8 0, .int .u8 0, .int .u8 0, .int .u8 0, .int .u8 0, .int .u8 0, .int .u8 0, .int .u8 0, .int .u8 0, .int .u8 0, .int .u8 0, .int .u8 0, .int .u8 0, .int .u8 0, .int .u8 0, .int .u8 0, .int .u8 0, .int .u8 0, .int .u8 0, .int .u8 0, .int .u8 0, .int .u8 0, .int .u8 0, .int .u8 0, .int .u8 0, .int .u8 0, .int .u8 0, .int .u8 0], none, false, (65, 5), none⟩
  | 132 => some ⟨(some ty_struct___s_string__), 1, 16, true, [(0, 1, false)], 0, .agg #[.string ⟨#[]⟩], none, false, (0, 0), none⟩
  | 133 => some ⟨(some ty_errorString), 1, 16, true, [(0, 1, false)], 0, .agg #[.string ⟨#[]⟩], none, false, (0, 0), none⟩
  | 135 => some ⟨none, 32, 32, true, [], 0, .agg #[.int .u8 0, .int .u8 0, .int .u8 0, .int .u8 0, .int .u8 0, .int .u8 0, .int .u8 0, .int .u8 0, .int .u8 0, .int .u8 0, .int .u8 0, .int .u8 0, .int .u8 0, .int .u8 0, .int .u8 0, .int .u8 0, .int .u8 0, .int .u8 0, .int .u8 0, .int .u8 0, .int .u8 0, .int .u8 0, .int .u8 0, .int .u8 0, .int .u8 0, .int .u8 0, .int .u8 0, .int .u8 0, .int .u8 0, .int .u8 0, .int .u8 0, .int .u8 0], none, false, (32, 5), none⟩
  | 136 => some ⟨none, 64, 64, true, [], 0, .agg #[.int .u8 0, .int .u8 0, .int .u8 0, .int .u8 0, .int .u8 0, .int .u8 0, .int .u8 0, .int .u8 0, .int .u8 0, .int .u8 0, .int .u8 0, .int .u8 0, .int .u8 0, .int .u8 0, .int .u8 0, .int .u8 0, .int .u8 0, .int .u8 0, .int .u8 0, .int .u8 0, .int .u8 0, .int .u8 0, .int .u8 0, .int .u8 0, .int .u8 0, .int .u8 0, .int .u8 0, .int .u8 0, .int .u8 0, .int .u8 0, .int .u8 0, .int .u8 0, .int .u8 0, .int .u8 0, .int .u8 0, .int .u8 0, .int .u8 0, .int .u8 0, .int .u8 0, .int .u8 0, .int .u8 0, .int .u8 0, .int .u8 0, .int .u8 0, .int .u8 0, .int .u8 0, .int .u8 0, .int .u8 0, .int .u8 0, .int .u8 0, .int .u8 0, .int .u8 0, .int .u8 0, .int .u8 0, .int .u8 0, .int .u8 0, .int .u8 0, .int .u8 0, .int .u8 0, .int .u8 0, .int .u8 0, .int .u8 0, .int .u8 0, .int .u8 0], none, false, (64, 5), none⟩
  | 142 => some ⟨(some (.int .u8)), 1, 1, false, [], 0, .int .u8 0, (some .u8), false, (0, 0), none⟩
  | 143 => some ⟨(some (.int .u8)), 1, 1, false, [], 0, .int .u8 0, (some .u8), false, (0, 0), none⟩
  | 145 => some ⟨(some (.int .i32)), 1, 4, false, [], 0, .int .i32 0, (some .i32), false, (0, 0), none⟩
  | 146 => some ⟨(some (.int .i32)), 1, 4, false, [], 0, .int .i32 0, (some .i32), false, (0, 0), none⟩
  | _ => none

theorem tiok_2 : TIok Tryz.prog 2 ⟨(some (.int .i64)), 1, 8, false, [], 0, .int .i64 0, (some .i64), false, (0, 0), none⟩ := tiok_of (by kernel_rfl) (by kernel_rfl) (by kernel_rfl)
theorem tiok_3 : TIok Tryz.prog 3 ⟨(some (.int .i64)), 1, 8, false, [], 0, .int .i64 0, (some .i64), false, (0, 0), none⟩ := tiok_of (by kernel_rfl) (by kernel_rfl) (by kernel_rfl)
theorem tiok_4 : TIok Tryz.prog 4 ⟨(some .bool), 1, 1, false, [], 0, .bool false, none, false, (0, 0), none⟩ := tiok_of (by kernel_rfl) (by kernel_rfl) (by kernel_rfl)
theorem tiok_5 : TIok Tryz.prog 5 ⟨(some (.int .u8)), 1, 1, false, [], 0, .int .u8 0, (some .u8), false, (0, 0), none⟩ := tiok_of (by kernel_rfl) (by kernel_rfl) (by kernel_rfl)
theorem tiok_6 : TIok Tryz.prog 6 ⟨(some (.int .u8)), 1, 1, false, [], 0, .int .u8 0, (some .u8), false, (0, 0), none⟩ := tiok_of (by kernel_rfl) (by kernel_rfl) (by kernel_rfl)
theorem tiok_7 : TIok Tryz.prog 7 ⟨(some ty_BoundsErrorCode__), 4, 24, true, [(0, 1, false), (1, 1, false), (2, 1, false), (3, 1, false)], 0, .agg #[.int .i64 0, .int .i64 0, .bool false, .int .u8 0], none, false, (0, 0), none⟩ := tiok_of (by kernel_rfl) (by kernel_rfl) (by kernel_rfl)
theorem tiok_8 : TIok Tryz.prog 8 ⟨(some ty_boundsError), 4, 24, true, [(0, 1, false), (1, 1, false), (2, 1, false), (3, 1, false)], 0, .agg #[.int .i64 0, .int .i64 0, .bool false, .int .u8 0], none, false, (0, 0), none⟩ := tiok_of (by kernel_rfl) (by kernel_rfl) (by kernel_rfl)
theorem tiok_9 : TIok Tryz.prog 9 ⟨(some .str), 1, 16, false, [], 0, .string ⟨#[]⟩, none, true, (0, 0), none⟩ := tiok_of (by kernel_rfl) (by kernel_rfl) (by kernel_rfl)
theorem tiok_10 : TIok Tryz.prog 10 ⟨(some .str), 1, 16, false, [], 0, .string ⟨#[]⟩, none, true, (0, 0), none⟩ := tiok_of (by kernel_rfl) (by kernel_rfl) (by kernel_rfl)
theorem tiok_11 : TIok Tryz.prog 11 ⟨(some .str), 1, 16, false, [], 0, .string ⟨#[]⟩, none, true, (0, 0), none⟩ := tiok_of (by kernel_rfl) (by kernel_rfl) (by kernel_rfl)
theorem tiok_21 : TIok Tryz.prog 21 ⟨(some (.int .i32)), 1, 4, false, [], 0, .int .i32 0, (some .i32), false, (0, 0), none⟩ := tiok_of (by kernel_rfl) (by kernel_rfl) (by kernel_rfl)
theorem tiok_22 : TIok Tryz.prog 22 ⟨(some (.sl (.int .u8))), 1, 24, false, [], 5, .slice none 0 0, none, false, (0, 0), none⟩ := tiok_of (by kernel_rfl) (by kernel_rfl) (by kernel_rfl)
theorem tiok_24 : TIok Tryz.prog 24 ⟨(some ty_struct___Minute_int__Wind_int__From_int__Degree_int__Storm_bool__), 5, 40, true, [(0, 1, false), (1, 1, false), (2, 1, false), (3, 1, false), (4, 1, false)], 0, .agg #[.int .i64 0, .int .i64 0, .int .i64 0, .int .i64 0, .bool false], none, false, (0, 0), none⟩ := tiok_of (by kernel_rfl) (by kernel_rfl) (by kernel_rfl)
theorem tiok_25 : TIok Tryz.prog 25 ⟨(some ty_Weather), 5, 40, true, [(0, 1, false), (1, 1, false), (2, 1, false), (3, 1, false), (4, 1, false)], 0, .agg #[.int .i64 0, .int .i64 0, .int .i64 0, .int .i64 0, .bool false], none, false, (0, 0), none⟩ := tiok_of (by kernel_rfl) (by kernel_rfl) (by kernel_rfl)
theorem tiok_37 : TIok Tryz.prog 37 ⟨(some (.sl ty_Weather)), 1, 24, false, [], 25, .slice none 0 0, none, false, (0, 0), none⟩ := tiok_of (by kernel_rfl) (by kernel_rfl) (by kernel_rfl)
theorem tiok_44 : TIok Tryz.prog 44 ⟨(some (.sl .str)), 1, 24, false, [], 9, .slice none 0 0, none, false, (0, 0), none⟩ := tiok_of (by kernel_rfl) (by kernel_rfl) (by kernel_rfl)
theorem tiok_52 : TIok Tryz.prog 52 ⟨(some (.int .u64)), 1, 8, false, [], 0, .int .u64 0, (some .u64), false, (0, 0), none⟩ := tiok_of (by kernel_rfl) (by kernel_rfl) (by kernel_rfl)
theorem tiok_53 : TIok Tryz.prog 53 ⟨(some ty_struct___code___uint8__at_int__seed_uint64__), 3, 40, true, [(0, 1, false), (1, 1, false), (2, 1, false)], 0, .agg #[.slice none 0 0, .int .i64 0, .int .u64 0], none, false, (0, 0), none⟩ := tiok_of (by kernel_rfl) (by kernel_rfl) (by kernel_rfl)
theorem tiok_54 : TIok Tryz.prog 54 ⟨(some ty_l1Cur), 3, 40, true, [(0, 1, false), (1, 1, false), (2, 1, false)], 0, .agg #[.slice none 0 0, .int .i64 0, .int .u64 0], none, false, (0, 0), none⟩ := tiok_of (by kernel_rfl) (by kernel_rfl) (by kernel_rfl)
theorem tiok_57 : TIok Tryz.prog 57 ⟨(some (.sl (.int .i64))), 1, 24, false, [], 3, .slice none 0 0, none, false, (0, 0), none⟩ := tiok_of (by kernel_rfl) (by kernel_rfl) (by kernel_rfl)
theorem tiok_62 : TIok Tryz.prog 62 ⟨none, 4, 32, true, [], 0, .agg #[.int .i64 0, .int .i64 0, .int .i64 0, .int .i64 0], none, false, (4, 3), none⟩ := tiok_of (by kernel_rfl) (by kernel_rfl) (by kernel_rfl)
theorem tiok_90 : TIok Tryz.prog 90 ⟨(some (.int .u64)), 1, 8, false, [], 0, .int .u64 0, (some .u64), false, (0, 0), none⟩ := tiok_of (by kernel_rfl) (by kernel_rfl) (by kernel_rfl)
theorem tiok_96 : TIok Tryz.prog 96 ⟨(some (.int .i64)), 1, 8, false, [], 0, .int .i64 0, (some .i64), false, (0, 0), none⟩ := tiok_of (by kernel_rfl) (by kernel_rfl) (by kernel_rfl)
theorem tiok_102 : TIok Tryz.prog 102 ⟨none, 24, 24, true, [], 0, .agg #[.int .u8 0, .int .u8 0, .int .u8 0, .int .u8 0, .int .u8 0, .int .u8 0, .int .u8 0, .int .u8 0, .int .u8 0, .int .u8 0, .int .u8 0, .int .u8 0, .int .u8 0, .int .u8 0, .int .u8 0, .int .u8 0, .int .u8 0, .int .u8 0, .int .u8 0, .int .u8 0, .int .u8 0, .int .u8 0, .int .u8 0, .int .u8 0], none, false, (24, 5), none⟩ := tiok_of (by kernel_rfl) (by kernel_rfl) (by kernel_rfl)
theorem tiok_107 : TIok Tryz.prog 107 ⟨(some (.int .u32)), 1, 4, false, [], 0, .int .u32 0, (some .u32), false, (0, 0), none⟩ := tiok_of (by kernel_rfl) (by kernel_rfl) (by kernel_rfl)
theorem tiok_115 : TIok Tryz.prog 115 ⟨(some ty_struct___lo_uint8__hi_uint8__), 2, 2, true, [(0, 1, false), (1, 1, false)], 0, .agg #[.int .u8 0, .int .u8 0], none, false, (0, 0), none⟩ := tiok_of (by kernel_rfl) (by kernel_rfl) (by kernel_rfl)
theorem tiok_116 : TIok Tryz.prog 116 ⟨(some ty_acceptRange), 2, 2, true, [(0, 1, false), (1, 1, false)], 0, .agg #[.int .u8 0, .int .u8 0], none, false, (0, 0), none⟩ := tiok_of (by kernel_rfl) (by kernel_rfl) (by kernel_rfl)
theorem tiok_117 : TIok Tryz.prog 117 ⟨none, 32, 32, true, [], 0, .agg #[.int .u8 0, .int .u8 0, .int .u8 0, .int .u8 0, .int .u8 0, .int .u8 0, .int .u8 0, .int .u8 0, .int .u8 0, .int .u8 0, .int .u8 0, .int .u8 0, .int .u8 0, .int .u8 0, .int .u8 0, .int .u8 0, .int .u8 0, .int .u8 0, .int .u8 0, .int .u8 0, .int .u8 0, .int .u8 0, .int .u8 0, .int .u8 0, .int .u8 0, .int .u8 0, .int .u8 0, .int .u8 0, .int .u8 0, .int .u8 0, .int .u8 0, .int .u8 0], none, false, (16, 116), none⟩ := tiok_of (by kernel_rfl) (by kernel_rfl) (by kernel_rfl)
theorem tiok_125 : TIok Tryz.prog 125 ⟨none, 20, 160, true, [], 0, .agg #[.int .u64 0, .int .u64 0, .int .u64 0, .int .u64 0, .int .u64 0, .int .u64 0, .int .u64 0, .int .u64 0, .int .u64 0, .int .u64 0, .int .u64 0, .int .u64 0, .int .u64 0, .int .u64 0, .int .u64 0, .int .u64 0, .int .u64 0, .int .u64 0, .int .u64 0, .int .u64 0], none, false, (20, 52), none⟩ := tiok_of (by kernel_rfl) (by kernel_rfl) (by kernel_rfl)
theorem tiok_126 : TIok Tryz.prog 126 ⟨none, 65, 65, true, [], 0, .agg #[.int .u8 0, .int .u8 0, .int .u8 0, .int .u8 0, .int .u8 0, .int .u8 0, .int .u8 0, .int .u8 0, .int .u8 0, .int .u8 0, .int .u8 0, .int .u8 0, .int .u8 0, .int .u8 0, .int .u8 0, .int .u8 0, .int .u8 0, .int .u8 0, .int .u8 0, .int .u8 0, .int .u8 0, .int .u8 0, .int .u8 0, .int .u8 0, .int .u8 0, .int .u8 0, .int .u8 0, .int .u8 0, .int .u8 0, .int .u8 0, .int .u8 0, .int .u8 0, .int .u8 0, .int .u8 0, .int .u8 0, .int .u8 0, .int .u8 0, .int .u8 0, .int .u8 0, .int .u8 0, .int .u8 0, .int .u8 0, .int .u8 0, .int .u8 0, .int .u8 0, .int .u8 0, .int .u8 0, .int .u8 0, .int .u8 0, .int .u8 0, .int .u8 0, .int .u8 0, .int .u8 0, .int .u8 0, .int .u8 0, .int .u8 0, .int .u8 0, .int .u8 0, .int .u8 0, .int .u8 0, .int .u8 0, .int .u8 0, .int .u8 0, .int .u8 0, .int .u8 0], none, false, (65, 5), none⟩ := tiok_of (by kernel_rfl) (by kernel_rfl) (by kernel_rfl)
theorem tiok_132 : TIok Tryz.prog 132 ⟨(some ty_struct___s_string__), 1, 16, true, [(0, 1, false)], 0, .agg #[.string ⟨#[]⟩], none, false, (0, 0), none⟩ := tiok_of (by kernel_rfl) (by kernel_rfl) (by kernel_rfl)
theorem tiok_133 : TIok Tryz.prog 133 ⟨(some ty_errorString), 1, 16, true, [(0, 1, false)], 0, .agg #[.string ⟨#[]⟩], none, false, (0, 0), none⟩ := tiok_of (by kernel_rfl) (by kernel_rfl) (by kernel_rfl)
theorem tiok_135 : TIok Tryz.prog 135 ⟨none, 32, 32, true, [], 0, .agg #[.int .u8 0, .int .u8 0, .int .u8 0, .int .u8 0, .int .u8 0, .int .u8 0, .int .u8 0, .int .u8 0, .int .u8 0, .int .u8 0, .int .u8 0, .int .u8 0, .int .u8 0, .int .u8 0, .int .u8 0, .int .u8 0, .int .u8 0, .int .u8 0, .int .u8 0, .int .u8 0, .int .u8 0, .int .u8 0, .int .u8 0, .int .u8 0, .int .u8 0, .int .u8 0, .int .u8 0, .int .u8 0, .int .u8 0, .int .u8 0, .int .u8 0, .int .u8 0], none, false, (32, 5), none⟩ := tiok_of (by kernel_rfl) (by kernel_rfl) (by kernel_rfl)
theorem tiok_136 : TIok Tryz.prog 136 ⟨none, 64, 64, true, [], 0, .agg #[.int .u8 0, .int .u8 0, .int .u8 0, .int .u8 0, .int .u8 0, .int .u8 0, .int .u8 0, .int .u8 0, .int .u8 0, .int .u8 0, .int .u8 0, .int .u8 0, .int .u8 0, .int .u8 0, .int .u8 0, .int .u8 0, .int .u8 0, .int .u8 0, .int .u8 0, .int .u8 0, .int .u8 0, .int .u8 0, .int .u8 0, .int .u8 0, .int .u8 0, .int .u8 0, .int .u8 0, .int .u8 0, .int .u8 0, .int .u8 0, .int .u8 0, .int .u8 0, .int .u8 0, .int .u8 0, .int .u8 0, .int .u8 0, .int .u8 0, .int .u8 0, .int .u8 0, .int .u8 0, .int .u8 0, .int .u8 0, .int .u8 0, .int .u8 0, .int .u8 0, .int .u8 0, .int .u8 0, .int .u8 0, .int .u8 0, .int .u8 0, .int .u8 0, .int .u8 0, .int .u8 0, .int .u8 0, .int .u8 0, .int .u8 0, .int .u8 0, .int .u8 0, .int .u8 0, .int .u8 0, .int .u8 0, .int .u8 0, .int .u8 0, .int .u8 0], none, false, (64, 5), none⟩ := tiok_of (by kernel_rfl) (by kernel_rfl) (by kernel_rfl)
theorem tiok_142 : TIok Tryz.prog 142 ⟨(some (.int .u8)), 1, 1, false, [], 0, .int .u8 0, (some .u8), false, (0, 0), none⟩ := tiok_of (by kernel_rfl) (by kernel_rfl) (by kernel_rfl)
theorem tiok_143 : TIok Tryz.prog 143 ⟨(some (.int .u8)), 1, 1, false, [], 0, .int .u8 0, (some .u8), false, (0, 0), none⟩ := tiok_of (by kernel_rfl) (by kernel_rfl) (by kernel_rfl)
theorem tiok_145 : TIok Tryz.prog 145 ⟨(some (.int .i32)), 1, 4, false, [], 0, .int .i32 0, (some .i32), false, (0, 0), none⟩ := tiok_of (by kernel_rfl) (by kernel_rfl) (by kernel_rfl)
theorem tiok_146 : TIok Tryz.prog 146 ⟨(some (.int .i32)), 1, 4, false, [], 0, .int .i32 0, (some .i32), false, (0, 0), none⟩ := tiok_of (by kernel_rfl) (by kernel_rfl) (by kernel_rfl)

theorem tok : TOk Tryz.prog T := fun t i h => by
  unfold T at h
  split at h
  · cases h; exact tiok_2
  · cases h; exact tiok_3
  · cases h; exact tiok_4
  · cases h; exact tiok_5
  · cases h; exact tiok_6
  · cases h; exact tiok_7
  · cases h; exact tiok_8
  · cases h; exact tiok_9
  · cases h; exact tiok_10
  · cases h; exact tiok_11
  · cases h; exact tiok_21
  · cases h; exact tiok_22
  · cases h; exact tiok_24
  · cases h; exact tiok_25
  · cases h; exact tiok_37
  · cases h; exact tiok_44
  · cases h; exact tiok_52
  · cases h; exact tiok_53
  · cases h; exact tiok_54
  · cases h; exact tiok_57
  · cases h; exact tiok_62
  · cases h; exact tiok_90
  · cases h; exact tiok_96
  · cases h; exact tiok_102
  · cases h; exact tiok_107
  · cases h; exact tiok_115
  · cases h; exact tiok_116
  · cases h; exact tiok_117
  · cases h; exact tiok_125
  · cases h; exact tiok_126
  · cases h; exact tiok_132
  · cases h; exact tiok_133
  · cases h; exact tiok_135
  · cases h; exact tiok_136
  · cases h; exact tiok_142
  · cases h; exact tiok_143
  · cases h; exact tiok_145
  · cases h; exact tiok_146
  · cases h

theorem ent_3 : Enters Tryz.prog 3 := Tryz.call3
theorem ent_4 : Enters Tryz.prog 4 := Tryz.call4
theorem ent_5 : Enters Tryz.prog 5 := Tryz.call5
theorem ent_6 : Enters Tryz.prog 6 := Tryz.call6
theorem ent_7 : Enters Tryz.prog 7 := Tryz.call7
theorem ent_8 : Enters Tryz.prog 8 := Tryz.call8
theorem ent_9 : Enters Tryz.prog 9 := Tryz.call9
theorem ent_10 : Enters Tryz.prog 10 := Tryz.call10
theorem ent_11 : Enters Tryz.prog 11 := Tryz.call11
theorem ent_12 : Enters Tryz.prog 12 := Tryz.call12
theorem ent_13 : Enters Tryz.prog 13 := Tryz.call13
theorem ent_14 : Enters Tryz.prog 14 := Tryz.call14
theorem ent_15 : Enters Tryz.prog 15 := Tryz.call15
theorem ent_16 : Enters Tryz.prog 16 := Tryz.call16
theorem ent_17 : Enters Tryz.prog 17 := Tryz.call17
theorem ent_18 : Enters Tryz.prog 18 := Tryz.call18
theorem ent_19 : Enters Tryz.prog 19 := Tryz.call19
theorem ent_20 : Enters Tryz.prog 20 := Tryz.call20
theorem ent_21 : Enters Tryz.prog 21 := Tryz.call21
theorem ent_22 : Enters Tryz.prog 22 := Tryz.call22
theorem ent_23 : Enters Tryz.prog 23 := Tryz.call23
theorem ent_24 : Enters Tryz.prog 24 := Tryz.call24
theorem ent_25 : Enters Tryz.prog 25 := Tryz.call25
theorem ent_26 : Enters Tryz.prog 26 := Tryz.call26
theorem ent_27 : Enters Tryz.prog 27 := Tryz.call27
theorem ent_28 : Enters Tryz.prog 28 := Tryz.call28
theorem ent_29 : Enters Tryz.prog 29 := Tryz.call29
theorem ent_30 : Enters Tryz.prog 30 := Tryz.call30
theorem ent_31 : Enters Tryz.prog 31 := Tryz.call31
theorem ent_32 : Enters Tryz.prog 32 := Tryz.call32
theorem ent_33 : Enters Tryz.prog 33 := Tryz.call33
theorem ent_34 : Enters Tryz.prog 34 := Tryz.call34
theorem ent_35 : Enters Tryz.prog 35 := Tryz.call35
theorem ent_36 : Enters Tryz.prog 36 := Tryz.call36
theorem ent_37 : Enters Tryz.prog 37 := Tryz.call37
theorem ent_38 : Enters Tryz.prog 38 := Tryz.call38
theorem ent_39 : Enters Tryz.prog 39 := Tryz.call39
theorem ent_40 : Enters Tryz.prog 40 := Tryz.call40
theorem ent_41 : Enters Tryz.prog 41 := Tryz.call41
theorem ent_42 : Enters Tryz.prog 42 := Tryz.call42
theorem ent_43 : Enters Tryz.prog 43 := Tryz.call43
theorem ent_44 : Enters Tryz.prog 44 := Tryz.call44
theorem ent_45 : Enters Tryz.prog 45 := Tryz.call45
theorem ent_46 : Enters Tryz.prog 46 := Tryz.call46
theorem ent_47 : Enters Tryz.prog 47 := Tryz.call47
theorem ent_48 : Enters Tryz.prog 48 := Tryz.call48
theorem ent_49 : Enters Tryz.prog 49 := Tryz.call49
theorem ent_50 : Enters Tryz.prog 50 := Tryz.call50
theorem ent_51 : Enters Tryz.prog 51 := Tryz.call51
theorem ent_52 : Enters Tryz.prog 52 := Tryz.call52
theorem ent_53 : Enters Tryz.prog 53 := Tryz.call53
theorem ent_54 : Enters Tryz.prog 54 := Tryz.call54
theorem ent_55 : Enters Tryz.prog 55 := Tryz.call55
theorem ent_56 : Enters Tryz.prog 56 := Tryz.call56
theorem ent_57 : Enters Tryz.prog 57 := Tryz.call57
theorem ent_58 : Enters Tryz.prog 58 := Tryz.call58
theorem ent_59 : Enters Tryz.prog 59 := Tryz.call59
theorem ent_60 : Enters Tryz.prog 60 := Tryz.call60
theorem ent_61 : Enters Tryz.prog 61 := Tryz.call61
theorem ent_62 : Enters Tryz.prog 62 := Tryz.call62
theorem ent_63 : Enters Tryz.prog 63 := Tryz.call63
theorem ent_64 : Enters Tryz.prog 64 := Tryz.call64
theorem ent_65 : Enters Tryz.prog 65 := Tryz.call65
theorem ent_66 : Enters Tryz.prog 66 := Tryz.call66
theorem ent_67 : Enters Tryz.prog 67 := Tryz.call67
theorem ent_68 : Enters Tryz.prog 68 := Tryz.call68
theorem ent_69 : Enters Tryz.prog 69 := Tryz.call69
theorem ent_70 : Enters Tryz.prog 70 := Tryz.call70
theorem ent_71 : Enters Tryz.prog 71 := Tryz.call71
theorem ent_72 : Enters Tryz.prog 72 := Tryz.call72
theorem ent_73 : Enters Tryz.prog 73 := Tryz.call73
theorem ent_74 : Enters Tryz.prog 74 := Tryz.call74
theorem ent_75 : Enters Tryz.prog 75 := Tryz.call75
theorem ent_76 : Enters Tryz.prog 76 := Tryz.call76
theorem ent_77 : Enters Tryz.prog 77 := Tryz.call77
theorem ent_78 : Enters Tryz.prog 78 := Tryz.call78
theorem ent_79 : Enters Tryz.prog 79 := Tryz.call79
theorem ent_81 : Enters Tryz.prog 81 := Tryz.call81
theorem ent_83 : Enters Tryz.prog 83 := Tryz.call83
theorem ent_84 : Enters Tryz.prog 84 := Tryz.call84
theorem ent_85 : Enters Tryz.prog 85 := Tryz.call85
theorem ent_86 : Enters Tryz.prog 86 := Tryz.call86
theorem ent_87 : Enters Tryz.prog 87 := Tryz.call87
theorem ent_88 : Enters Tryz.prog 88 := Tryz.call88
theorem ent_89 : Enters Tryz.prog 89 := Tryz.call89
theorem ent_90 : Enters Tryz.prog 90 := Tryz.call90
theorem ent_91 : Enters Tryz.prog 91 := Tryz.call91
theorem ent_92 : Enters Tryz.prog 92 := Tryz.call92
theorem ent_93 : Enters Tryz.prog 93 := Tryz.call93
theorem ent_94 : Enters Tryz.prog 94 := Tryz.call94
theorem ent_95 : Enters Tryz.prog 95 := Tryz.call95
theorem ent_96 : Enters Tryz.prog 96 := Tryz.call96
theorem ent_97 : Enters Tryz.prog 97 := Tryz.call97
theorem ent_98 : Enters Tryz.prog 98 := Tryz.call98
theorem ent_100 : Enters Tryz.prog 100 := Tryz.call100
theorem ent_101 : Enters Tryz.prog 101 := Tryz.call101
theorem ent_104 : Enters Tryz.prog 104 := Tryz.call104
theorem ent_105 : Enters Tryz.prog 105 := Tryz.call105
theorem ent_106 : Enters Tryz.prog 106 := Tryz.call106
theorem ent_107 : Enters Tryz.prog 107 := Tryz.call107
theorem ent_108 : Enters Tryz.prog 108 := Tryz.call108
theorem ent_109 : Enters Tryz.prog 109 := Tryz.call109
theorem ent_110 : Enters Tryz.prog 110 := Tryz.call110
theorem ent_111 : Enters Tryz.prog 111 := Tryz.call111
theorem ent_112 : Enters Tryz.prog 112 := Tryz.call112
theorem ent_113 : Enters Tryz.prog 113 := Tryz.call113
theorem ent_114 : Enters Tryz.prog 114 := Tryz.call114
theorem ent_115 : Enters Tryz.prog 115 := Tryz.call115
theorem ent_116 : Enters Tryz.prog 116 := Tryz.call116
theorem ent_117 : Enters Tryz.prog 117 := Tryz.call117

def G0 : Env := env0 T
theorem G0_ok : EnvOk Tryz.prog G0 := env0_ok tok hmix
end Go.Proofs.YtaajchikfgbecaaGreatDoor
