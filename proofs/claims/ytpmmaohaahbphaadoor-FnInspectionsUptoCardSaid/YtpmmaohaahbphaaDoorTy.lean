/-
  What is told of the types of this translation, each by a closed check; functions with a body are entered. Printed by a program.
-/
import Derived.Test.YtpmmaohaahbphaaDoorB12
import Derived.Test.YtpmmaohaahbphaaDoorProg
namespace Go.Proofs.YtpmmaohaahbphaaDoor
open Go.RowKit

abbrev BoundsErrorCode__ : Type := Int × Int × Bool × Int × Unit
def ty_BoundsErrorCode__ : Ty := .st [(.int .i64), (.int .i64), .bool, (.int .u8)]
def d_BoundsErrorCode__ : BoundsErrorCode__ := (0, 0, false, 0, ())
abbrev Condition : Type := Int × ByteArray × Int × Int × Int × Unit
def ty_Condition : Ty := .st [(.int .i64), .str, (.int .i64), (.int .i64), (.int .i64)]
def d_Condition : Condition := (0, (ByteArray.mk #[]), 0, 0, 0, ())
abbrev boundsError : Type := Int × Int × Bool × Int × Unit
def ty_boundsError : Ty := .st [(.int .i64), (.int .i64), .bool, (.int .u8)]
def d_boundsError : boundsError := (0, 0, false, 0, ())
abbrev errorAddressString : Type := ByteArray × Int × Unit
def ty_errorAddressString : Ty := .st [.str, (.int .u64)]
def d_errorAddressString : errorAddressString := ((ByteArray.mk #[]), 0, ())
abbrev l1Cur : Type := (List Int) × Int × Int × Unit
def ty_l1Cur : Ty := .st [(.sl (.int .u8)), (.int .i64), (.int .u64)]
def d_l1Cur : l1Cur := ([], 0, 0, ())
abbrev struct___Number_int__What_string__Every_int__Last_int__Grade_int__ : Type := Int × ByteArray × Int × Int × Int × Unit
def ty_struct___Number_int__What_string__Every_int__Last_int__Grade_int__ : Ty := .st [(.int .i64), .str, (.int .i64), (.int .i64), (.int .i64)]
def d_struct___Number_int__What_string__Every_int__Last_int__Grade_int__ : struct___Number_int__What_string__Every_int__Last_int__Grade_int__ := (0, (ByteArray.mk #[]), 0, 0, 0, ())
abbrev struct___code___uint8__at_int__seed_uint64__ : Type := (List Int) × Int × Int × Unit
def ty_struct___code___uint8__at_int__seed_uint64__ : Ty := .st [(.sl (.int .u8)), (.int .i64), (.int .u64)]
def d_struct___code___uint8__at_int__seed_uint64__ : struct___code___uint8__at_int__seed_uint64__ := ([], 0, 0, ())
abbrev struct___msg_string__addr_uintptr__ : Type := ByteArray × Int × Unit
def ty_struct___msg_string__addr_uintptr__ : Ty := .st [.str, (.int .u64)]
def d_struct___msg_string__addr_uintptr__ : struct___msg_string__addr_uintptr__ := ((ByteArray.mk #[]), 0, ())
abbrev w64 (x : Int) : Int := IntKind.i64.wrap x
abbrev w32 (x : Int) : Int := IntKind.i32.wrap x
abbrev wu64 (x : Int) : Int := IntKind.u64.wrap x
abbrev wu8 (x : Int) : Int := IntKind.u8.wrap x
abbrev wu32 (x : Int) : Int := IntKind.u32.wrap x
abbrev wu16 (x : Int) : Int := IntKind.u16.wrap x
abbrev w16 (x : Int) : Int := IntKind.i16.wrap x
abbrev w8 (x : Int) : Int := IntKind.i8.wrap x

theorem hmix : Tryd.prog.follows .mixedOrders = true := by kernel_rfl

def T : Nat → Option TI
  | 2 => some ⟨(some (.int .i64)), 1, 8, false, [], 0, .int .i64 0, (some .i64), false, (0, 0), none⟩
  | 3 => some ⟨(some (.int .i64)), 1, 8, false, [], 0, .int .i64 0, (some .i64), false, (0, 0), none⟩
  | 4 => some ⟨(some .bool), 1, 1, false, [], 0, .bool false, none, false, (0, 0), none⟩
  | 5 => some ⟨(some (.int .u8)), 1, 1, false, [], 0, .int .u8 0, (some .u8), false, (0, 0), none⟩
  | 6 => some ⟨(some (.int .u8)), 1, 1, false, [], 0, .int .u8 0, (some .u8), false, (0, 0), none⟩
  | 7 => some ⟨(some ty_BoundsErrorCode__), 4, 24, true, [(0, 1, false), (1, 1, false), (2, 1, false), (3, 1, false)], 0, .agg #[.int .i64 0, .int .i64 0, .bool false, .int .u8 0], none, false, (0, 0), none⟩
  | 8 => some ⟨(some ty_boundsError), 4, 24, true, [(0, 1, false), (1, 1, false), (2, 1, false), (3, 1, false)], 0, .agg #[.int .i64 0, .int .i64 0, .bool false, .int .u8 0], none, false, (0, 0), none⟩
  | 9 => some ⟨(some .str), 1, 16, false, [], 0, .string ⟨#[]⟩, none, true, (0, 0), none⟩
  | 10 => some ⟨(some .str), 1, 16, false, [], 0, .string ⟨#[]⟩, none, true, (0, 0), none⟩
  | 11 => some ⟨(some .str), 1, 16, false, [], 0, .string ⟨#[]⟩, none, true, (0, 0), none⟩
  | 21 => some ⟨(some (.int .i32)), 1, 4, false, [], 0, .int .i32 0, (some .i32), false, (0, 0), none⟩
  | 22 => some ⟨(some (.sl (.int .u8))), 1, 24, false, [], 5, .slice none 0 0, none, false, (0, 0), none⟩
  | 24 => some ⟨(some (.sl ty_Condition)), 1, 24, false, [], 33, .slice none 0 0, none, false, (0, 0), none⟩
  | 27 => some ⟨(some (.sl (.sl (.int .i64)))), 1, 24, false, [], 31, .slice none 0 0, none, false, (0, 0), none⟩
  | 31 => some ⟨(some (.sl (.int .i64))), 1, 24, false, [], 3, .slice none 0 0, none, false, (0, 0), none⟩
  | 32 => some ⟨(some ty_struct___Number_int__What_string__Every_int__Last_int__Grade_int__), 5, 48, true, [(0, 1, false), (1, 1, false), (2, 1, false), (3, 1, false), (4, 1, false)], 0, .agg #[.int .i64 0, .string ⟨#[]⟩, .int .i64 0, .int .i64 0, .int .i64 0], none, false, (0, 0), none⟩
  | 33 => some ⟨(some ty_Condition), 5, 48, true, [(0, 1, false), (1, 1, false), (2, 1, false), (3, 1, false), (4, 1, false)], 0, .agg #[.int .i64 0, .string ⟨#[]⟩, .int .i64 0, .int .i64 0, .int .i64 0], none, false, (0, 0), none⟩
  | 47 => some ⟨(some (.int .u64)), 1, 8, false, [], 0, .int .u64 0, (some .u64), false, (0, 0), none⟩
  | 48 => some ⟨(some ty_struct___code___uint8__at_int__seed_uint64__), 3, 40, true, [(0, 1, false), (1, 1, false), (2, 1, false)], 0, .agg #[.slice none 0 0, .int .i64 0, .int .u64 0], none, false, (0, 0), none⟩
  | 49 => some ⟨(some ty_l1Cur), 3, 40, true, [(0, 1, false), (1, 1, false), (2, 1, false)], 0, .agg #[.slice none 0 0, .int .i64 0, .int .u64 0], none, false, (0, 0), none⟩
  | 72 => some ⟨(some (.int .u64)), 1, 8, false, [], 0, .int .u64 0, (some .u64), false, (0, 0), none⟩
  | 74 => some ⟨(some (.sl .str)), 1, 24, false, [], 9, .slice none 0 0, none, false, (0, 0), none⟩
  | 77 => some ⟨(some (.int .i64)), 1, 8, false, [], 0, .int .i64 0, (some .i64), false, (0, 0), none⟩
  | 84 => some ⟨(some (.int .u32)), 1, 4, false, [], 0, .int .u32 0, (some .u32), false, (0, 0), none⟩
  | 87 => some ⟨(some (.int .u64)), 1, 8, false, [], 0, .int .u64 0, (some .u64), false, (0, 0), none⟩
  | 94 => some ⟨none, 24, 24, true, [], 0, .agg #[.int .u8 0, .int .u8 0, .int .u8 0, .int .u8 0, .int .u8 0, .int .u8 0, .int .u8 0, .int .u8 0, .int .u8 0, .int .u8 0, .int .u8 0, .int .u8 0, .int .u8 0, .int .u8 0, .int .u8 0, .int .u8 0, .int .u8 0, .int .u8 0, .int .u8 0, .int .u8 0, .int .u8 0, .int .u8 0, .int .u8 0, .int .u8 0], none, false, (24, 5), none⟩
  | 102 => some ⟨none, 20, 160, true, [], 0, .agg #[.int .u64 0, .int .u64 0, .int .u64 0, .int .u64 0, .int .u64 0, .int .u64 0, .int .u64 0, .int .u64 0, .int .u64 0, .int .u64 0, .int .u64 0, .int .u64 0, .int .u64 0, .int .u64 0, .int .u64 0, .int .u64 0, .int .u64 0, .int .u64 0, .int .u64 0, .int .u64 0], none, false, (20, 47), none⟩
  | 103 => some ⟨none, 65, 65, true, [], 0, .agg #[.int .u8 0, .int .u8 0, .int .u8 0, .int .u8 0, .int .u8 0, .int .u8 0, .int .u8 0, .int .u8 0, .int .u8 0, .int .u8 0, .int .u8 0, .int .u8 0, .int .u8 0, .int .u8 0, .int .u8 0, .int .u8 0, .int .u8 0, .int .u8 0, .int .u8 0, .int .u8 0, .int .u8 0, .int .u8 0, .int .u8 0, .int .u8 0, .int .u8 0, .int .u8 0, .int .u8 0, .int .u8 0, .int .u8 0, .int .u8 0, .int .u8 0, .int .u8 0, .int .u8 0, .int .u8 0, .int .u8 0, .int .u8 0, .int .u8 0, .int .u8 0, .int .u8 0, .int .u8 0, .int .u8 0, .int .u8 0, .int .u8 0, .int .u8 0, .int .u8 0, .int .u8 0, .int .u8 0, .int .u8 0, .int .u8 0, .int .u8 0, .int .u8 0, .int .u8 0, .int .u8 0, .int .u8 0, .int .u8 0, .int .u8 0, .int .u8 0, .int .u8 0, .int .u8 0, .int .u8 0, .int .u8 0, .int .u8 0, .int .u8 0, .int .u8 0, .int .u8 0], none, false, (65, 5), none⟩
  | 104 => some ⟨none, 32, 32, true, [], 0, .agg #[.int .u8 0, .int .u8 0, .int .u8 0, .int .u8 0, .int .u8 0, .int .u8 0, .int .u8 0, .int .u8 0, .int .u8 0, .int .u8 0, .int .u8 0, .int .u8 0, .int .u8 0, .int .u8 0, .int .u8 0, .int .u8 0, .int .u8 0, .int .u8 0, .int .u8 0, .int .u8 0, .int .u8 0, .int .u8 0, .int .u8 0, .int .u8 0, .int .u8 0, .int .u8 0, .int .u8 0, .int .u8 0, .int .u8 0, .int .u8 0, .int .u8 0, .int .u8 0], none, false, (32, 5), none⟩
  | 105 => some ⟨none, 64, 64, true, [], 0, .agg #[.int .u8 0, .int .u8 0, .int .u8 0, .int .u8 0, .int .u8 0, .int .u8 0, .int .u8 0, .int .u8 0, .int .u8 0, .int .u8 0, .int .u8 0, .int .u8 0, .int .u8 0, .int .u8 0, .int .u8 0, .int .u8 0, .int .u8 0, .int .u8 0, .int .u8 0, .int .u8 0, .int .u8 0, .int .u8 0, .int .u8 0, .int .u8 0, .int .u8 0, .int .u8 0, .int .u8 0, .int .u8 0, .int .u8 0, .int .u8 0, .int .u8 0, .int .u8 0, .int .u8 0, .int .u8 0, .int .u8 0, .int .u8 0, .int .u8 0, .int .u8 0, .int .u8 0, .int .u8 0, .int .u8 0, .int .u8 0, .int .u8 0, .int .u8 0, .int .u8 0, .int .u8 0, .int .u8 0, .int .u8 0, .int .u8 0, .int .u8 0, .int .u8 0, .int .u8 0, .int .u8 0, .int .u8 0, .int .u8 0, .int .u8 0, .int .u8 0, .int .u8 0, .int .u8 0, .int .u8 0, .int .u8 0, .int .u8 0, .int .u8 0, .int .u8 0], none, false, (64, 5), none⟩
  | 112 => some ⟨(some (.int .u8)), 1, 1, false, [], 0, .int .u8 0, (some .u8), false, (0, 0), none⟩
  | 113 => some ⟨(some (.int .u8)), 1, 1, false, [], 0, .int .u8 0, (some .u8), false, (0, 0), none⟩
  | 116 => some ⟨(some (.int .i32)), 1, 4, false, [], 0, .int .i32 0, (some .i32), false, (0, 0), none⟩
  | 117 => some ⟨(some (.int .i32)), 1, 4, false, [], 0, .int .i32 0, (some .i32), false, (0, 0), none⟩
  | _ => none

theorem tiok_2 : TIok Tryd.prog 2 ⟨(some (.int .i64)), 1, 8, false, [], 0, .int .i64 0, (some .i64), false, (0, 0), none⟩ := tiok_of (by kernel_rfl) (by kernel_rfl) (by kernel_rfl)
theorem tiok_3 : TIok Tryd.prog 3 ⟨(some (.int .i64)), 1, 8, false, [], 0, .int .i64 0, (some .i64), false, (0, 0), none⟩ := tiok_of (by kernel_rfl) (by kernel_rfl) (by kernel_rfl)
theorem tiok_4 : TIok Tryd.prog 4 ⟨(some .bool), 1, 1, false, [], 0, .bool false, none, false, (0, 0), none⟩ := tiok_of (by kernel_rfl) (by kernel_rfl) (by kernel_rfl)
theorem tiok_5 : TIok Tryd.prog 5 ⟨(some (.int .u8)), 1, 1, false, [], 0, .int .u8 0, (some .u8), false, (0, 0), none⟩ := tiok_of (by kernel_rfl) (by kernel_rfl) (by kernel_rfl)
theorem tiok_6 : TIok Tryd.prog 6 ⟨(some (.int .u8)), 1, 1, false, [], 0, .int .u8 0, (some .u8), false, (0, 0), none⟩ := tiok_of (by kernel_rfl) (by kernel_rfl) (by kernel_rfl)
theorem tiok_7 : TIok Tryd.prog 7 ⟨(some ty_BoundsErrorCode__), 4, 24, true, [(0, 1, false), (1, 1, false), (2, 1, false), (3, 1, false)], 0, .agg #[.int .i64 0, .int .i64 0, .bool false, .int .u8 0], none, false, (0, 0), none⟩ := tiok_of (by kernel_rfl) (by kernel_rfl) (by kernel_rfl)
theorem tiok_8 : TIok Tryd.prog 8 ⟨(some ty_boundsError), 4, 24, true, [(0, 1, false), (1, 1, false), (2, 1, false), (3, 1, false)], 0, .agg #[.int .i64 0, .int .i64 0, .bool false, .int .u8 0], none, false, (0, 0), none⟩ := tiok_of (by kernel_rfl) (by kernel_rfl) (by kernel_rfl)
theorem tiok_9 : TIok Tryd.prog 9 ⟨(some .str), 1, 16, false, [], 0, .string ⟨#[]⟩, none, true, (0, 0), none⟩ := tiok_of (by kernel_rfl) (by kernel_rfl) (by kernel_rfl)
theorem tiok_10 : TIok Tryd.prog 10 ⟨(some .str), 1, 16, false, [], 0, .string ⟨#[]⟩, none, true, (0, 0), none⟩ := tiok_of (by kernel_rfl) (by kernel_rfl) (by kernel_rfl)
theorem tiok_11 : TIok Tryd.prog 11 ⟨(some .str), 1, 16, false, [], 0, .string ⟨#[]⟩, none, true, (0, 0), none⟩ := tiok_of (by kernel_rfl) (by kernel_rfl) (by kernel_rfl)
theorem tiok_21 : TIok Tryd.prog 21 ⟨(some (.int .i32)), 1, 4, false, [], 0, .int .i32 0, (some .i32), false, (0, 0), none⟩ := tiok_of (by kernel_rfl) (by kernel_rfl) (by kernel_rfl)
theorem tiok_22 : TIok Tryd.prog 22 ⟨(some (.sl (.int .u8))), 1, 24, false, [], 5, .slice none 0 0, none, false, (0, 0), none⟩ := tiok_of (by kernel_rfl) (by kernel_rfl) (by kernel_rfl)
theorem tiok_24 : TIok Tryd.prog 24 ⟨(some (.sl ty_Condition)), 1, 24, false, [], 33, .slice none 0 0, none, false, (0, 0), none⟩ := tiok_of (by kernel_rfl) (by kernel_rfl) (by kernel_rfl)
theorem tiok_27 : TIok Tryd.prog 27 ⟨(some (.sl (.sl (.int .i64)))), 1, 24, false, [], 31, .slice none 0 0, none, false, (0, 0), none⟩ := tiok_of (by kernel_rfl) (by kernel_rfl) (by kernel_rfl)
theorem tiok_31 : TIok Tryd.prog 31 ⟨(some (.sl (.int .i64))), 1, 24, false, [], 3, .slice none 0 0, none, false, (0, 0), none⟩ := tiok_of (by kernel_rfl) (by kernel_rfl) (by kernel_rfl)
theorem tiok_32 : TIok Tryd.prog 32 ⟨(some ty_struct___Number_int__What_string__Every_int__Last_int__Grade_int__), 5, 48, true, [(0, 1, false), (1, 1, false), (2, 1, false), (3, 1, false), (4, 1, false)], 0, .agg #[.int .i64 0, .string ⟨#[]⟩, .int .i64 0, .int .i64 0, .int .i64 0], none, false, (0, 0), none⟩ := tiok_of (by kernel_rfl) (by kernel_rfl) (by kernel_rfl)
theorem tiok_33 : TIok Tryd.prog 33 ⟨(some ty_Condition), 5, 48, true, [(0, 1, false), (1, 1, false), (2, 1, false), (3, 1, false), (4, 1, false)], 0, .agg #[.int .i64 0, .string ⟨#[]⟩, .int .i64 0, .int .i64 0, .int .i64 0], none, false, (0, 0), none⟩ := tiok_of (by kernel_rfl) (by kernel_rfl) (by kernel_rfl)
theorem tiok_47 : TIok Tryd.prog 47 ⟨(some (.int .u64)), 1, 8, false, [], 0, .int .u64 0, (some .u64), false, (0, 0), none⟩ := tiok_of (by kernel_rfl) (by kernel_rfl) (by kernel_rfl)
theorem tiok_48 : TIok Tryd.prog 48 ⟨(some ty_struct___code___uint8__at_int__seed_uint64__), 3, 40, true, [(0, 1, false), (1, 1, false), (2, 1, false)], 0, .agg #[.slice none 0 0, .int .i64 0, .int .u64 0], none, false, (0, 0), none⟩ := tiok_of (by kernel_rfl) (by kernel_rfl) (by kernel_rfl)
theorem tiok_49 : TIok Tryd.prog 49 ⟨(some ty_l1Cur), 3, 40, true, [(0, 1, false), (1, 1, false), (2, 1, false)], 0, .agg #[.slice none 0 0, .int .i64 0, .int .u64 0], none, false, (0, 0), none⟩ := tiok_of (by kernel_rfl) (by kernel_rfl) (by kernel_rfl)
theorem tiok_72 : TIok Tryd.prog 72 ⟨(some (.int .u64)), 1, 8, false, [], 0, .int .u64 0, (some .u64), false, (0, 0), none⟩ := tiok_of (by kernel_rfl) (by kernel_rfl) (by kernel_rfl)
theorem tiok_74 : TIok Tryd.prog 74 ⟨(some (.sl .str)), 1, 24, false, [], 9, .slice none 0 0, none, false, (0, 0), none⟩ := tiok_of (by kernel_rfl) (by kernel_rfl) (by kernel_rfl)
theorem tiok_77 : TIok Tryd.prog 77 ⟨(some (.int .i64)), 1, 8, false, [], 0, .int .i64 0, (some .i64), false, (0, 0), none⟩ := tiok_of (by kernel_rfl) (by kernel_rfl) (by kernel_rfl)
theorem tiok_84 : TIok Tryd.prog 84 ⟨(some (.int .u32)), 1, 4, false, [], 0, .int .u32 0, (some .u32), false, (0, 0), none⟩ := tiok_of (by kernel_rfl) (by kernel_rfl) (by kernel_rfl)
theorem tiok_87 : TIok Tryd.prog 87 ⟨(some (.int .u64)), 1, 8, false, [], 0, .int .u64 0, (some .u64), false, (0, 0), none⟩ := tiok_of (by kernel_rfl) (by kernel_rfl) (by kernel_rfl)
theorem tiok_94 : TIok Tryd.prog 94 ⟨none, 24, 24, true, [], 0, .agg #[.int .u8 0, .int .u8 0, .int .u8 0, .int .u8 0, .int .u8 0, .int .u8 0, .int .u8 0, .int .u8 0, .int .u8 0, .int .u8 0, .int .u8 0, .int .u8 0, .int .u8 0, .int .u8 0, .int .u8 0, .int .u8 0, .int .u8 0, .int .u8 0, .int .u8 0, .int .u8 0, .int .u8 0, .int .u8 0, .int .u8 0, .int .u8 0], none, false, (24, 5), none⟩ := tiok_of (by kernel_rfl) (by kernel_rfl) (by kernel_rfl)
theorem tiok_102 : TIok Tryd.prog 102 ⟨none, 20, 160, true, [], 0, .agg #[.int .u64 0, .int .u64 0, .int .u64 0, .int .u64 0, .int .u64 0, .int .u64 0, .int .u64 0, .int .u64 0, .int .u64 0, .int .u64 0, .int .u64 0, .int .u64 0, .int .u64 0, .int .u64 0, .int .u64 0, .int .u64 0, .int .u64 0, .int .u64 0, .int .u64 0, .int .u64 0], none, false, (20, 47), none⟩ := tiok_of (by kernel_rfl) (by kernel_rfl) (by kernel_rfl)
theorem tiok_103 : TIok Tryd.prog 103 ⟨none, 65, 65, true, [], 0, .agg #[.int .u8 0, .int .u8 0, .int .u8 0, .int .u8 0, .int .u8 0, .int .u8 0, .int .u8 0, .int .u8 0, .int .u8 0, .int .u8 0, .int .u8 0, .int .u8 0, .int .u8 0, .int .u8 0, .int .u8 0, .int .u8 0, .int .u8 0, .int .u8 0, .int .u8 0, .int .u8 0, .int .u8 0, .int .u8 0, .int .u8 0, .int .u8 0, .int .u8 0, .int .u8 0, .int .u8 0, .int .u8 0, .int .u8 0, .int .u8 0, .int .u8 0, .int .u8 0, .int .u8 0, .int .u8 0, .int .u8 0, .int .u8 0, .int .u8 0, .int .u8 0, .int .u8 0, .int .u8 0, .int .u8 0, .int .u8 0, .int .u8 0, .int .u8 0, .int .u8 0, .int .u8 0, .int .u8 0, .int .u8 0, .int .u8 0, .int .u8 0, .int .u8 0, .int .u8 0, .int .u8 0, .int .u8 0, .int .u8 0, .int .u8 0, .int .u8 0, .int .u8 0, .int .u8 0, .int .u8 0, .int .u8 0, .int .u8 0, .int .u8 0, .int .u8 0, .int .u8 0], none, false, (65, 5), none⟩ := tiok_of (by kernel_rfl) (by kernel_rfl) (by kernel_rfl)
theorem tiok_104 : TIok Tryd.prog 104 ⟨none, 32, 32, true, [], 0, .agg #[.int .u8 0, .int .u8 0, .int .u8 0, .int .u8 0, .int .u8 0, .int .u8 0, .int .u8 0, .int .u8 0, .int .u8 0, .int .u8 0, .int .u8 0, .int .u8 0, .int .u8 0, .int .u8 0, .int .u8 0, .int .u8 0, .int .u8 0, .int .u8 0, .int .u8 0, .int .u8 0, .int .u8 0, .int .u8 0, .int .u8 0, .int .u8 0, .int .u8 0, .int .u8 0, .int .u8 0, .int .u8 0, .int .u8 0, .int .u8 0, .int .u8 0, .int .u8 0], none, false, (32, 5), none⟩ := tiok_of (by kernel_rfl) (by kernel_rfl) (by kernel_rfl)
theorem tiok_105 : TIok Tryd.prog 105 ⟨none, 64, 64, true, [], 0, .agg #[.int .u8 0, .int .u8 0, .int .u8 0, .int .u8 0, .int .u8 0, .int .u8 0, .int .u8 0, .int .u8 0, .int .u8 0, .int .u8 0, .int .u8 0, .int .u8 0, .int .u8 0, .int .u8 0, .int .u8 0, .int .u8 0, .int .u8 0, .int .u8 0, .int .u8 0, .int .u8 0, .int .u8 0, .int .u8 0, .int .u8 0, .int .u8 0, .int .u8 0, .int .u8 0, .int .u8 0, .int .u8 0, .int .u8 0, .int .u8 0, .int .u8 0, .int .u8 0, .int .u8 0, .int .u8 0, .int .u8 0, .int .u8 0, .int .u8 0, .int .u8 0, .int .u8 0, .int .u8 0, .int .u8 0, .int .u8 0, .int .u8 0, .int .u8 0, .int .u8 0, .int .u8 0, .int .u8 0, .int .u8 0, .int .u8 0, .int .u8 0, .int .u8 0, .int .u8 0, .int .u8 0, .int .u8 0, .int .u8 0, .int .u8 0, .int .u8 0, .int .u8 0, .int .u8 0, .int .u8 0, .int .u8 0, .int .u8 0, .int .u8 0, .int .u8 0], none, false, (64, 5), none⟩ := tiok_of (by kernel_rfl) (by kernel_rfl) (by kernel_rfl)
theorem tiok_112 : TIok Tryd.prog 112 ⟨(some (.int .u8)), 1, 1, false, [], 0, .int .u8 0, (some .u8), false, (0, 0), none⟩ := tiok_of (by kernel_rfl) (by kernel_rfl) (by kernel_rfl)
theorem tiok_113 : TIok Tryd.prog 113 ⟨(some (.int .u8)), 1, 1, false, [], 0, .int .u8 0, (some .u8), false, (0, 0), none⟩ := tiok_of (by kernel_rfl) (by kernel_rfl) (by kernel_rfl)
theorem tiok_116 : TIok Tryd.prog 116 ⟨(some (.int .i32)), 1, 4, false, [], 0, .int .i32 0, (some .i32), false, (0, 0), none⟩ := tiok_of (by kernel_rfl) (by kernel_rfl) (by kernel_rfl)
theorem tiok_117 : TIok Tryd.prog 117 ⟨(some (.int .i32)), 1, 4, false, [], 0, .int .i32 0, (some .i32), false, (0, 0), none⟩ := tiok_of (by kernel_rfl) (by kernel_rfl) (by kernel_rfl)

theorem tok : TOk Tryd.prog T := fun t i h => by
  unfold T at h
  split at h
  · cases h; exact tiok_2
  · cases h; exact tiok_3
  · cases h; exact tiok_4
  · cases h; exact tiok_5
  · cases h; exact tiok_6
  · cases h; exact tiok_7
  · cases h; exact tiok_8
  · cases h; exact tiok_9
  · cases h; exact tiok_10
  · cases h; exact tiok_11
  · cases h; exact tiok_21
  · cases h; exact tiok_22
  · cases h; exact tiok_24
  · cases h; exact tiok_27
  · cases h; exact tiok_31
  · cases h; exact tiok_32
  · cases h; exact tiok_33
  · cases h; exact tiok_47
  · cases h; exact tiok_48
  · cases h; exact tiok_49
  · cases h; exact tiok_72
  · cases h; exact tiok_74
  · cases h; exact tiok_77
  · cases h; exact tiok_84
  · cases h; exact tiok_87
  · cases h; exact tiok_94
  · cases h; exact tiok_102
  · cases h; exact tiok_103
  · cases h; exact tiok_104
  · cases h; exact tiok_105
  · cases h; exact tiok_112
  · cases h; exact tiok_113
  · cases h; exact tiok_116
  · cases h; exact tiok_117
  · cases h

theorem ent_3 : Enters Tryd.prog 3 := Tryd.call3
theorem ent_4 : Enters Tryd.prog 4 := Tryd.call4
theorem ent_5 : Enters Tryd.prog 5 := Tryd.call5
theorem ent_6 : Enters Tryd.prog 6 := Tryd.call6
theorem ent_7 : Enters Tryd.prog 7 := Tryd.call7
theorem ent_8 : Enters Tryd.prog 8 := Tryd.call8
theorem ent_9 : Enters Tryd.prog 9 := Tryd.call9
theorem ent_10 : Enters Tryd.prog 10 := Tryd.call10
theorem ent_11 : Enters Tryd.prog 11 := Tryd.call11
theorem ent_12 : Enters Tryd.prog 12 := Tryd.call12
theorem ent_13 : Enters Tryd.prog 13 := Tryd.call13
theorem ent_14 : Enters Tryd.prog 14 := Tryd.call14
theorem ent_15 : Enters Tryd.prog 15 := Tryd.call15
theorem ent_16 : Enters Tryd.prog 16 := Tryd.call16
theorem ent_17 : Enters Tryd.prog 17 := Tryd.call17
theorem ent_18 : Enters Tryd.prog 18 := Tryd.call18
theorem ent_19 : Enters Tryd.prog 19 := Tryd.call19
theorem ent_20 : Enters Tryd.prog 20 := Tryd.call20
theorem ent_21 : Enters Tryd.prog 21 := Tryd.call21
theorem ent_22 : Enters Tryd.prog 22 := Tryd.call22
theorem ent_23 : Enters Tryd.prog 23 := Tryd.call23
theorem ent_24 : Enters Tryd.prog 24 := Tryd.call24
theorem ent_25 : Enters Tryd.prog 25 := Tryd.call25
theorem ent_26 : Enters Tryd.prog 26 := Tryd.call26
theorem ent_27 : Enters Tryd.prog 27 := Tryd.call27
theorem ent_28 : Enters Tryd.prog 28 := Tryd.call28
theorem ent_29 : Enters Tryd.prog 29 := Tryd.call29
theorem ent_30 : Enters Tryd.prog 30 := Tryd.call30
theorem ent_31 : Enters Tryd.prog 31 := Tryd.call31
theorem ent_32 : Enters Tryd.prog 32 := Tryd.call32
theorem ent_33 : Enters Tryd.prog 33 := Tryd.call33
theorem ent_34 : Enters Tryd.prog 34 := Tryd.call34
theorem ent_35 : Enters Tryd.prog 35 := Tryd.call35
theorem ent_36 : Enters Tryd.prog 36 := Tryd.call36
theorem ent_37 : Enters Tryd.prog 37 := Tryd.call37
theorem ent_38 : Enters Tryd.prog 38 := Tryd.call38
theorem ent_39 : Enters Tryd.prog 39 := Tryd.call39
theorem ent_40 : Enters Tryd.prog 40 := Tryd.call40
theorem ent_41 : Enters Tryd.prog 41 := Tryd.call41
theorem ent_42 : Enters Tryd.prog 42 := Tryd.call42
theorem ent_43 : Enters Tryd.prog 43 := Tryd.call43
theorem ent_44 : Enters Tryd.prog 44 := Tryd.call44
theorem ent_45 : Enters Tryd.prog 45 := Tryd.call45
theorem ent_46 : Enters Tryd.prog 46 := Tryd.call46
theorem ent_47 : Enters Tryd.prog 47 := Tryd.call47
theorem ent_48 : Enters Tryd.prog 48 := Tryd.call48
theorem ent_49 : Enters Tryd.prog 49 := Tryd.call49
theorem ent_50 : Enters Tryd.prog 50 := Tryd.call50
theorem ent_51 : Enters Tryd.prog 51 := Tryd.call51
theorem ent_53 : Enters Tryd.prog 53 := Tryd.call53
theorem ent_54 : Enters Tryd.prog 54 := Tryd.call54
theorem ent_55 : Enters Tryd.prog 55 := Tryd.call55
theorem ent_56 : Enters Tryd.prog 56 := Tryd.call56
theorem ent_57 : Enters Tryd.prog 57 := Tryd.call57
theorem ent_58 : Enters Tryd.prog 58 := Tryd.call58
theorem ent_59 : Enters Tryd.prog 59 := Tryd.call59
theorem ent_60 : Enters Tryd.prog 60 := Tryd.call60
theorem ent_61 : Enters Tryd.prog 61 := Tryd.call61
theorem ent_62 : Enters Tryd.prog 62 := Tryd.call62
theorem ent_63 : Enters Tryd.prog 63 := Tryd.call63
theorem ent_64 : Enters Tryd.prog 64 := Tryd.call64
theorem ent_65 : Enters Tryd.prog 65 := Tryd.call65
theorem ent_66 : Enters Tryd.prog 66 := Tryd.call66
theorem ent_67 : Enters Tryd.prog 67 := Tryd.call67
theorem ent_68 : Enters Tryd.prog 68 := Tryd.call68
theorem ent_69 : Enters Tryd.prog 69 := Tryd.call69
theorem ent_70 : Enters Tryd.prog 70 := Tryd.call70
theorem ent_71 : Enters Tryd.prog 71 := Tryd.call71
theorem ent_72 : Enters Tryd.prog 72 := Tryd.call72
theorem ent_73 : Enters Tryd.prog 73 := Tryd.call73
theorem ent_74 : Enters Tryd.prog 74 := Tryd.call74
theorem ent_75 : Enters Tryd.prog 75 := Tryd.call75
theorem ent_76 : Enters Tryd.prog 76 := Tryd.call76
theorem ent_77 : Enters Tryd.prog 77 := Tryd.call77
theorem ent_78 : Enters Tryd.prog 78 := Tryd.call78
theorem ent_79 : Enters Tryd.prog 79 := Tryd.call79
theorem ent_80 : Enters Tryd.prog 80 := Tryd.call80
theorem ent_81 : Enters Tryd.prog 81 := Tryd.call81
theorem ent_82 : Enters Tryd.prog 82 := Tryd.call82
theorem ent_83 : Enters Tryd.prog 83 := Tryd.call83
theorem ent_84 : Enters Tryd.prog 84 := Tryd.call84
theorem ent_85 : Enters Tryd.prog 85 := Tryd.call85

def G0 : Env := env0 T
theorem G0_ok : EnvOk Tryd.prog G0 := env0_ok tok hmix
end Go.Proofs.YtpmmaohaahbphaaDoor
