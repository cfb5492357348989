/-
  What is told of the types of this translation, each by a closed check; functions with a body are entered. Printed by a program.
-/
import Derived.Test.YtppiaacfnoifkaaB12
import Derived.Test.YtppiaacfnoifkaaProg
namespace Go.Proofs.Ytppiaacfnoifkaa
open Go.RowKit

abbrev BoundsErrorCode__ : Type := Int × Int × Bool × Int × Unit
def ty_BoundsErrorCode__ : Ty := .st [(.int .i64), (.int .i64), .bool, (.int .u8)]
def d_BoundsErrorCode__ : BoundsErrorCode__ := (0, 0, false, 0, ())
abbrev DayRow : Type := Int × Int × Int × Int × Int × ByteArray × Unit
def ty_DayRow : Ty := .st [(.int .i64), (.int .i64), (.int .i64), (.int .i64), (.int .i64), .str]
def d_DayRow : DayRow := (0, 0, 0, 0, 0, (ByteArray.mk #[]), ())
abbrev boundsError : Type := Int × Int × Bool × Int × Unit
def ty_boundsError : Ty := .st [(.int .i64), (.int .i64), .bool, (.int .u8)]
def d_boundsError : boundsError := (0, 0, false, 0, ())
abbrev errorAddressString : Type := ByteArray × Int × Unit
def ty_errorAddressString : Ty := .st [.str, (.int .u64)]
def d_errorAddressString : errorAddressString := ((ByteArray.mk #[]), 0, ())
abbrev fraction : Type := Int × Int × Unit
def ty_fraction : Ty := .st [(.int .i64), (.int .i64)]
def d_fraction : fraction := (0, 0, ())
abbrev l1Cur : Type := (List Int) × Int × Int × Unit
def ty_l1Cur : Ty := .st [(.sl (.int .u8)), (.int .i64), (.int .u64)]
def d_l1Cur : l1Cur := ([], 0, 0, ())
abbrev struct___Day_int__Ups_int__Downs_int__Hours_int__Stops_int__Reason_string__ : Type := Int × Int × Int × Int × Int × ByteArray × Unit
def ty_struct___Day_int__Ups_int__Downs_int__Hours_int__Stops_int__Reason_string__ : Ty := .st [(.int .i64), (.int .i64), (.int .i64), (.int .i64), (.int .i64), .str]
def d_struct___Day_int__Ups_int__Downs_int__Hours_int__Stops_int__Reason_string__ : struct___Day_int__Ups_int__Downs_int__Hours_int__Stops_int__Reason_string__ := (0, 0, 0, 0, 0, (ByteArray.mk #[]), ())
abbrev struct___code___uint8__at_int__seed_uint64__ : Type := (List Int) × Int × Int × Unit
def ty_struct___code___uint8__at_int__seed_uint64__ : Ty := .st [(.sl (.int .u8)), (.int .i64), (.int .u64)]
def d_struct___code___uint8__at_int__seed_uint64__ : struct___code___uint8__at_int__seed_uint64__ := ([], 0, 0, ())
abbrev struct___msg_string__addr_uintptr__ : Type := ByteArray × Int × Unit
def ty_struct___msg_string__addr_uintptr__ : Ty := .st [.str, (.int .u64)]
def d_struct___msg_string__addr_uintptr__ : struct___msg_string__addr_uintptr__ := ((ByteArray.mk #[]), 0, ())
abbrev struct___num_int__den_int__ : Type := Int × Int × Unit
def ty_struct___num_int__den_int__ : Ty := .st [(.int .i64), (.int .i64)]
def d_struct___num_int__den_int__ : struct___num_int__den_int__ := (0, 0, ())
abbrev w64 (x : Int) : Int := IntKind.i64.wrap x
abbrev w32 (x : Int) : Int := IntKind.i32.wrap x
abbrev wu64 (x : Int) : Int := IntKind.u64.wrap x
abbrev wu8 (x : Int) : Int := IntKind.u8.wrap x
abbrev wu32 (x : Int) : Int := IntKind.u32.wrap x
abbrev wu16 (x : Int) : Int := IntKind.u16.wrap x
abbrev w16 (x : Int) : Int := IntKind.i16.wrap x
abbrev w8 (x : Int) : Int := IntKind.i8.wrap x

theorem hmix : Try.prog.follows .mixedOrders = true := by kernel_rfl

def T : Nat → Option TI
  | 2 => some ⟨(some (.int .i64)), 1, 8, false, [], 0, .int .i64 0, (some .i64), false, (0, 0)⟩
  | 3 => some ⟨(some (.int .i64)), 1, 8, false, [], 0, .int .i64 0, (some .i64), false, (0, 0)⟩
  | 4 => some ⟨(some .bool), 1, 1, false, [], 0, .bool false, none, false, (0, 0)⟩
  | 5 => some ⟨(some (.int .u8)), 1, 1, false, [], 0, .int .u8 0, (some .u8), false, (0, 0)⟩
  | 6 => some ⟨(some (.int .u8)), 1, 1, false, [], 0, .int .u8 0, (some .u8), false, (0, 0)⟩
  | 7 => some ⟨(some ty_BoundsErrorCode__), 4, 24, true, [(0, 1, false), (1, 1, false), (2, 1, false), (3, 1, false)], 0, .agg #[.int .i64 0, .int .i64 0, .bool false, .int .u8 0], none, false, (0, 0)⟩
  | 8 => some ⟨(some ty_boundsError), 4, 24, true, [(0, 1, false), (1, 1, false), (2, 1, false), (3, 1, false)], 0, .agg #[.int .i64 0, .int .i64 0, .bool false, .int .u8 0], none, false, (0, 0)⟩
  | 9 => some ⟨(some .str), 1, 16, false, [], 0, .string ⟨#[]⟩, none, true, (0, 0)⟩
  | 10 => some ⟨(some .str), 1, 16, false, [], 0, .string ⟨#[]⟩, none, true, (0, 0)⟩
  | 11 => some ⟨(some .str), 1, 16, false, [], 0, .string ⟨#[]⟩, none, true, (0, 0)⟩
  | 21 => some ⟨(some (.int .i32)), 1, 4, false, [], 0, .int .i32 0, (some .i32), false, (0, 0)⟩
  | 22 => some ⟨(some (.sl (.int .u8))), 1, 24, false, [], 5, .slice none 0 0, none, false, (0, 0)⟩
  | 24 => some ⟨(some (.sl ty_DayRow)), 1, 24, false, [], 33, .slice none 0 0, none, false, (0, 0)⟩
  | 27 => some ⟨(some (.sl (.int .i64))), 1, 24, false, [], 3, .slice none 0 0, none, false, (0, 0)⟩
  | 32 => some ⟨(some ty_struct___Day_int__Ups_int__Downs_int__Hours_int__Stops_int__Reason_string__), 6, 56, true, [(0, 1, false), (1, 1, false), (2, 1, false), (3, 1, false), (4, 1, false), (5, 1, false)], 0, .agg #[.int .i64 0, .int .i64 0, .int .i64 0, .int .i64 0, .int .i64 0, .string ⟨#[]⟩], none, false, (0, 0)⟩
  | 33 => some ⟨(some ty_DayRow), 6, 56, true, [(0, 1, false), (1, 1, false), (2, 1, false), (3, 1, false), (4, 1, false), (5, 1, false)], 0, .agg #[.int .i64 0, .int .i64 0, .int .i64 0, .int .i64 0, .int .i64 0, .string ⟨#[]⟩], none, false, (0, 0)⟩
  | 41 => some ⟨(some (.int .u64)), 1, 8, false, [], 0, .int .u64 0, (some .u64), false, (0, 0)⟩
  | 42 => some ⟨(some ty_struct___code___uint8__at_int__seed_uint64__), 3, 40, true, [(0, 1, false), (1, 1, false), (2, 1, false)], 0, .agg #[.slice none 0 0, .int .i64 0, .int .u64 0], none, false, (0, 0)⟩
  | 43 => some ⟨(some ty_l1Cur), 3, 40, true, [(0, 1, false), (1, 1, false), (2, 1, false)], 0, .agg #[.slice none 0 0, .int .i64 0, .int .u64 0], none, false, (0, 0)⟩
  | 57 => some ⟨(some ty_struct___num_int__den_int__), 2, 16, true, [(0, 1, false), (1, 1, false)], 0, .agg #[.int .i64 0, .int .i64 0], none, false, (0, 0)⟩
  | 58 => some ⟨(some ty_fraction), 2, 16, true, [(0, 1, false), (1, 1, false)], 0, .agg #[.int .i64 0, .int .i64 0], none, false, (0, 0)⟩
  | 66 => some ⟨(some (.sl .str)), 1, 24, false, [], 9, .slice none 0 0, none, false, (0, 0)⟩
  | 67 => some ⟨(some (.int .u64)), 1, 8, false, [], 0, .int .u64 0, (some .u64), false, (0, 0)⟩
  | 77 => some ⟨(some (.int .u32)), 1, 4, false, [], 0, .int .u32 0, (some .u32), false, (0, 0)⟩
  | 78 => some ⟨(some (.int .u8)), 1, 1, false, [], 0, .int .u8 0, (some .u8), false, (0, 0)⟩
  | 79 => some ⟨(some (.int .u8)), 1, 1, false, [], 0, .int .u8 0, (some .u8), false, (0, 0)⟩
  | 82 => some ⟨(some (.int .i32)), 1, 4, false, [], 0, .int .i32 0, (some .i32), false, (0, 0)⟩
  | 83 => some ⟨(some (.int .i32)), 1, 4, false, [], 0, .int .i32 0, (some .i32), false, (0, 0)⟩
  | _ => none

theorem tiok_2 : TIok Try.prog 2 ⟨(some (.int .i64)), 1, 8, false, [], 0, .int .i64 0, (some .i64), false, (0, 0)⟩ := tiok_of (by kernel_rfl) (by kernel_rfl) (by kernel_rfl)
theorem tiok_3 : TIok Try.prog 3 ⟨(some (.int .i64)), 1, 8, false, [], 0, .int .i64 0, (some .i64), false, (0, 0)⟩ := tiok_of (by kernel_rfl) (by kernel_rfl) (by kernel_rfl)
theorem tiok_4 : TIok Try.prog 4 ⟨(some .bool), 1, 1, false, [], 0, .bool false, none, false, (0, 0)⟩ := tiok_of (by kernel_rfl) (by kernel_rfl) (by kernel_rfl)
theorem tiok_5 : TIok Try.prog 5 ⟨(some (.int .u8)), 1, 1, false, [], 0, .int .u8 0, (some .u8), false, (0, 0)⟩ := tiok_of (by kernel_rfl) (by kernel_rfl) (by kernel_rfl)
theorem tiok_6 : TIok Try.prog 6 ⟨(some (.int .u8)), 1, 1, false, [], 0, .int .u8 0, (some .u8), false, (0, 0)⟩ := tiok_of (by kernel_rfl) (by kernel_rfl) (by kernel_rfl)
theorem tiok_7 : TIok Try.prog 7 ⟨(some ty_BoundsErrorCode__), 4, 24, true, [(0, 1, false), (1, 1, false), (2, 1, false), (3, 1, false)], 0, .agg #[.int .i64 0, .int .i64 0, .bool false, .int .u8 0], none, false, (0, 0)⟩ := tiok_of (by kernel_rfl) (by kernel_rfl) (by kernel_rfl)
theorem tiok_8 : TIok Try.prog 8 ⟨(some ty_boundsError), 4, 24, true, [(0, 1, false), (1, 1, false), (2, 1, false), (3, 1, false)], 0, .agg #[.int .i64 0, .int .i64 0, .bool false, .int .u8 0], none, false, (0, 0)⟩ := tiok_of (by kernel_rfl) (by kernel_rfl) (by kernel_rfl)
theorem tiok_9 : TIok Try.prog 9 ⟨(some .str), 1, 16, false, [], 0, .string ⟨#[]⟩, none, true, (0, 0)⟩ := tiok_of (by kernel_rfl) (by kernel_rfl) (by kernel_rfl)
theorem tiok_10 : TIok Try.prog 10 ⟨(some .str), 1, 16, false, [], 0, .string ⟨#[]⟩, none, true, (0, 0)⟩ := tiok_of (by kernel_rfl) (by kernel_rfl) (by kernel_rfl)
theorem tiok_11 : TIok Try.prog 11 ⟨(some .str), 1, 16, false, [], 0, .string ⟨#[]⟩, none, true, (0, 0)⟩ := tiok_of (by kernel_rfl) (by kernel_rfl) (by kernel_rfl)
theorem tiok_21 : TIok Try.prog 21 ⟨(some (.int .i32)), 1, 4, false, [], 0, .int .i32 0, (some .i32), false, (0, 0)⟩ := tiok_of (by kernel_rfl) (by kernel_rfl) (by kernel_rfl)
theorem tiok_22 : TIok Try.prog 22 ⟨(some (.sl (.int .u8))), 1, 24, false, [], 5, .slice none 0 0, none, false, (0, 0)⟩ := tiok_of (by kernel_rfl) (by kernel_rfl) (by kernel_rfl)
theorem tiok_24 : TIok Try.prog 24 ⟨(some (.sl ty_DayRow)), 1, 24, false, [], 33, .slice none 0 0, none, false, (0, 0)⟩ := tiok_of (by kernel_rfl) (by kernel_rfl) (by kernel_rfl)
theorem tiok_27 : TIok Try.prog 27 ⟨(some (.sl (.int .i64))), 1, 24, false, [], 3, .slice none 0 0, none, false, (0, 0)⟩ := tiok_of (by kernel_rfl) (by kernel_rfl) (by kernel_rfl)
theorem tiok_32 : TIok Try.prog 32 ⟨(some ty_struct___Day_int__Ups_int__Downs_int__Hours_int__Stops_int__Reason_string__), 6, 56, true, [(0, 1, false), (1, 1, false), (2, 1, false), (3, 1, false), (4, 1, false), (5, 1, false)], 0, .agg #[.int .i64 0, .int .i64 0, .int .i64 0, .int .i64 0, .int .i64 0, .string ⟨#[]⟩], none, false, (0, 0)⟩ := tiok_of (by kernel_rfl) (by kernel_rfl) (by kernel_rfl)
theorem tiok_33 : TIok Try.prog 33 ⟨(some ty_DayRow), 6, 56, true, [(0, 1, false), (1, 1, false), (2, 1, false), (3, 1, false), (4, 1, false), (5, 1, false)], 0, .agg #[.int .i64 0, .int .i64 0, .int .i64 0, .int .i64 0, .int .i64 0, .string ⟨#[]⟩], none, false, (0, 0)⟩ := tiok_of (by kernel_rfl) (by kernel_rfl) (by kernel_rfl)
theorem tiok_41 : TIok Try.prog 41 ⟨(some (.int .u64)), 1, 8, false, [], 0, .int .u64 0, (some .u64), false, (0, 0)⟩ := tiok_of (by kernel_rfl) (by kernel_rfl) (by kernel_rfl)
theorem tiok_42 : TIok Try.prog 42 ⟨(some ty_struct___code___uint8__at_int__seed_uint64__), 3, 40, true, [(0, 1, false), (1, 1, false), (2, 1, false)], 0, .agg #[.slice none 0 0, .int .i64 0, .int .u64 0], none, false, (0, 0)⟩ := tiok_of (by kernel_rfl) (by kernel_rfl) (by kernel_rfl)
theorem tiok_43 : TIok Try.prog 43 ⟨(some ty_l1Cur), 3, 40, true, [(0, 1, false), (1, 1, false), (2, 1, false)], 0, .agg #[.slice none 0 0, .int .i64 0, .int .u64 0], none, false, (0, 0)⟩ := tiok_of (by kernel_rfl) (by kernel_rfl) (by kernel_rfl)
theorem tiok_57 : TIok Try.prog 57 ⟨(some ty_struct___num_int__den_int__), 2, 16, true, [(0, 1, false), (1, 1, false)], 0, .agg #[.int .i64 0, .int .i64 0], none, false, (0, 0)⟩ := tiok_of (by kernel_rfl) (by kernel_rfl) (by kernel_rfl)
theorem tiok_58 : TIok Try.prog 58 ⟨(some ty_fraction), 2, 16, true, [(0, 1, false), (1, 1, false)], 0, .agg #[.int .i64 0, .int .i64 0], none, false, (0, 0)⟩ := tiok_of (by kernel_rfl) (by kernel_rfl) (by kernel_rfl)
theorem tiok_66 : TIok Try.prog 66 ⟨(some (.sl .str)), 1, 24, false, [], 9, .slice none 0 0, none, false, (0, 0)⟩ := tiok_of (by kernel_rfl) (by kernel_rfl) (by kernel_rfl)
theorem tiok_67 : TIok Try.prog 67 ⟨(some (.int .u64)), 1, 8, false, [], 0, .int .u64 0, (some .u64), false, (0, 0)⟩ := tiok_of (by kernel_rfl) (by kernel_rfl) (by kernel_rfl)
theorem tiok_77 : TIok Try.prog 77 ⟨(some (.int .u32)), 1, 4, false, [], 0, .int .u32 0, (some .u32), false, (0, 0)⟩ := tiok_of (by kernel_rfl) (by kernel_rfl) (by kernel_rfl)
theorem tiok_78 : TIok Try.prog 78 ⟨(some (.int .u8)), 1, 1, false, [], 0, .int .u8 0, (some .u8), false, (0, 0)⟩ := tiok_of (by kernel_rfl) (by kernel_rfl) (by kernel_rfl)
theorem tiok_79 : TIok Try.prog 79 ⟨(some (.int .u8)), 1, 1, false, [], 0, .int .u8 0, (some .u8), false, (0, 0)⟩ := tiok_of (by kernel_rfl) (by kernel_rfl) (by kernel_rfl)
theorem tiok_82 : TIok Try.prog 82 ⟨(some (.int .i32)), 1, 4, false, [], 0, .int .i32 0, (some .i32), false, (0, 0)⟩ := tiok_of (by kernel_rfl) (by kernel_rfl) (by kernel_rfl)
theorem tiok_83 : TIok Try.prog 83 ⟨(some (.int .i32)), 1, 4, false, [], 0, .int .i32 0, (some .i32), false, (0, 0)⟩ := tiok_of (by kernel_rfl) (by kernel_rfl) (by kernel_rfl)

theorem tok : TOk Try.prog T := fun t i h => by
  unfold T at h
  split at h
  · cases h; exact tiok_2
  · cases h; exact tiok_3
  · cases h; exact tiok_4
  · cases h; exact tiok_5
  · cases h; exact tiok_6
  · cases h; exact tiok_7
  · cases h; exact tiok_8
  · cases h; exact tiok_9
  · cases h; exact tiok_10
  · cases h; exact tiok_11
  · cases h; exact tiok_21
  · cases h; exact tiok_22
  · cases h; exact tiok_24
  · cases h; exact tiok_27
  · cases h; exact tiok_32
  · cases h; exact tiok_33
  · cases h; exact tiok_41
  · cases h; exact tiok_42
  · cases h; exact tiok_43
  · cases h; exact tiok_57
  · cases h; exact tiok_58
  · cases h; exact tiok_66
  · cases h; exact tiok_67
  · cases h; exact tiok_77
  · cases h; exact tiok_78
  · cases h; exact tiok_79
  · cases h; exact tiok_82
  · cases h; exact tiok_83
  · cases h

theorem ent_3 : Enters Try.prog 3 := Try.call3
theorem ent_4 : Enters Try.prog 4 := Try.call4
theorem ent_5 : Enters Try.prog 5 := Try.call5
theorem ent_6 : Enters Try.prog 6 := Try.call6
theorem ent_7 : Enters Try.prog 7 := Try.call7
theorem ent_8 : Enters Try.prog 8 := Try.call8
theorem ent_9 : Enters Try.prog 9 := Try.call9
theorem ent_10 : Enters Try.prog 10 := Try.call10
theorem ent_11 : Enters Try.prog 11 := Try.call11
theorem ent_12 : Enters Try.prog 12 := Try.call12
theorem ent_13 : Enters Try.prog 13 := Try.call13
theorem ent_14 : Enters Try.prog 14 := Try.call14
theorem ent_15 : Enters Try.prog 15 := Try.call15
theorem ent_16 : Enters Try.prog 16 := Try.call16
theorem ent_17 : Enters Try.prog 17 := Try.call17
theorem ent_18 : Enters Try.prog 18 := Try.call18
theorem ent_19 : Enters Try.prog 19 := Try.call19
theorem ent_20 : Enters Try.prog 20 := Try.call20
theorem ent_21 : Enters Try.prog 21 := Try.call21
theorem ent_22 : Enters Try.prog 22 := Try.call22
theorem ent_23 : Enters Try.prog 23 := Try.call23
theorem ent_24 : Enters Try.prog 24 := Try.call24
theorem ent_25 : Enters Try.prog 25 := Try.call25
theorem ent_26 : Enters Try.prog 26 := Try.call26
theorem ent_27 : Enters Try.prog 27 := Try.call27
theorem ent_28 : Enters Try.prog 28 := Try.call28
theorem ent_29 : Enters Try.prog 29 := Try.call29
theorem ent_30 : Enters Try.prog 30 := Try.call30
theorem ent_31 : Enters Try.prog 31 := Try.call31
theorem ent_32 : Enters Try.prog 32 := Try.call32
theorem ent_33 : Enters Try.prog 33 := Try.call33
theorem ent_34 : Enters Try.prog 34 := Try.call34
theorem ent_35 : Enters Try.prog 35 := Try.call35
theorem ent_36 : Enters Try.prog 36 := Try.call36
theorem ent_37 : Enters Try.prog 37 := Try.call37
theorem ent_38 : Enters Try.prog 38 := Try.call38
theorem ent_39 : Enters Try.prog 39 := Try.call39
theorem ent_40 : Enters Try.prog 40 := Try.call40
theorem ent_41 : Enters Try.prog 41 := Try.call41
theorem ent_42 : Enters Try.prog 42 := Try.call42
theorem ent_43 : Enters Try.prog 43 := Try.call43
theorem ent_44 : Enters Try.prog 44 := Try.call44
theorem ent_45 : Enters Try.prog 45 := Try.call45
theorem ent_46 : Enters Try.prog 46 := Try.call46
theorem ent_47 : Enters Try.prog 47 := Try.call47
theorem ent_48 : Enters Try.prog 48 := Try.call48
theorem ent_49 : Enters Try.prog 49 := Try.call49
theorem ent_50 : Enters Try.prog 50 := Try.call50
theorem ent_51 : Enters Try.prog 51 := Try.call51
theorem ent_52 : Enters Try.prog 52 := Try.call52

def G0 : Env := env0 T
theorem G0_ok : EnvOk Try.prog G0 := env0_ok tok hmix
end Go.Proofs.Ytppiaacfnoifkaa
