/-
  What is told of the types of this translation, each by a closed check; functions with a body are entered. Printed by a program.
-/
import Derived.Test.YtpfdhaldjeedfaaB12
import Derived.Test.YtpfdhaldjeedfaaProg
namespace Go.Proofs.Ytpfdhaldjeedfaa
open Go.RowKit

abbrev BoundsErrorCode__ : Type := Int × Int × Bool × Int × Unit
def ty_BoundsErrorCode__ : Ty := .st [(.int .i64), (.int .i64), .bool, (.int .u8)]
def d_BoundsErrorCode__ : BoundsErrorCode__ := (0, 0, false, 0, ())
abbrev LogRecord : Type := ByteArray × ByteArray × Unit
def ty_LogRecord : Ty := .st [.str, .str]
def d_LogRecord : LogRecord := ((ByteArray.mk #[]), (ByteArray.mk #[]), ())
abbrev boundsError : Type := Int × Int × Bool × Int × Unit
def ty_boundsError : Ty := .st [(.int .i64), (.int .i64), .bool, (.int .u8)]
def d_boundsError : boundsError := (0, 0, false, 0, ())
abbrev errorAddressString : Type := ByteArray × Int × Unit
def ty_errorAddressString : Ty := .st [.str, (.int .u64)]
def d_errorAddressString : errorAddressString := ((ByteArray.mk #[]), 0, ())
abbrev struct___Command_string__Reply_string__ : Type := ByteArray × ByteArray × Unit
def ty_struct___Command_string__Reply_string__ : Ty := .st [.str, .str]
def d_struct___Command_string__Reply_string__ : struct___Command_string__Reply_string__ := ((ByteArray.mk #[]), (ByteArray.mk #[]), ())
abbrev struct___msg_string__addr_uintptr__ : Type := ByteArray × Int × Unit
def ty_struct___msg_string__addr_uintptr__ : Ty := .st [.str, (.int .u64)]
def d_struct___msg_string__addr_uintptr__ : struct___msg_string__addr_uintptr__ := ((ByteArray.mk #[]), 0, ())
abbrev w64 (x : Int) : Int := IntKind.i64.wrap x
abbrev w32 (x : Int) : Int := IntKind.i32.wrap x
abbrev wu64 (x : Int) : Int := IntKind.u64.wrap x
abbrev wu8 (x : Int) : Int := IntKind.u8.wrap x
abbrev wu32 (x : Int) : Int := IntKind.u32.wrap x
abbrev wu16 (x : Int) : Int := IntKind.u16.wrap x
abbrev w16 (x : Int) : Int := IntKind.i16.wrap x
abbrev w8 (x : Int) : Int := IntKind.i8.wrap x

theorem hmix : Try.prog.follows .mixedOrders = true := by kernel_rfl

def T : Nat → Option TI
  | 2 => some ⟨(some (.int .i64)), 1, 8, false, [], 0, .int .i64 0, (some .i64), false⟩
  | 3 => some ⟨(some (.int .i64)), 1, 8, false, [], 0, .int .i64 0, (some .i64), false⟩
  | 4 => some ⟨(some .bool), 1, 1, false, [], 0, .bool false, none, false⟩
  | 5 => some ⟨(some (.int .u8)), 1, 1, false, [], 0, .int .u8 0, (some .u8), false⟩
  | 6 => some ⟨(some (.int .u8)), 1, 1, false, [], 0, .int .u8 0, (some .u8), false⟩
  | 7 => some ⟨(some ty_BoundsErrorCode__), 4, 24, true, [(0, 1, false), (1, 1, false), (2, 1, false), (3, 1, false)], 0, .agg #[.int .i64 0, .int .i64 0, .bool false, .int .u8 0], none, false⟩
  | 8 => some ⟨(some ty_boundsError), 4, 24, true, [(0, 1, false), (1, 1, false), (2, 1, false), (3, 1, false)], 0, .agg #[.int .i64 0, .int .i64 0, .bool false, .int .u8 0], none, false⟩
  | 9 => some ⟨(some .str), 1, 16, false, [], 0, .string ⟨#[]⟩, none, true⟩
  | 10 => some ⟨(some .str), 1, 16, false, [], 0, .string ⟨#[]⟩, none, true⟩
  | 11 => some ⟨(some .str), 1, 16, false, [], 0, .string ⟨#[]⟩, none, true⟩
  | 21 => some ⟨(some (.int .i32)), 1, 4, false, [], 0, .int .i32 0, (some .i32), false⟩
  | 22 => some ⟨(some ty_struct___Command_string__Reply_string__), 2, 32, true, [(0, 1, false), (1, 1, false)], 0, .agg #[.string ⟨#[]⟩, .string ⟨#[]⟩], none, false⟩
  | 23 => some ⟨(some ty_LogRecord), 2, 32, true, [(0, 1, false), (1, 1, false)], 0, .agg #[.string ⟨#[]⟩, .string ⟨#[]⟩], none, false⟩
  | 26 => some ⟨(some ty_LogRecord), 2, 32, true, [(0, 1, false), (1, 1, false)], 0, .agg #[.string ⟨#[]⟩, .string ⟨#[]⟩], none, false⟩
  | 44 => some ⟨(some (.int .u64)), 1, 8, false, [], 0, .int .u64 0, (some .u64), false⟩
  | 53 => some ⟨(some (.int .u32)), 1, 4, false, [], 0, .int .u32 0, (some .u32), false⟩
  | 54 => some ⟨(some (.int .u8)), 1, 1, false, [], 0, .int .u8 0, (some .u8), false⟩
  | 55 => some ⟨(some (.int .u8)), 1, 1, false, [], 0, .int .u8 0, (some .u8), false⟩
  | 58 => some ⟨(some (.int .i32)), 1, 4, false, [], 0, .int .i32 0, (some .i32), false⟩
  | 59 => some ⟨(some (.int .i32)), 1, 4, false, [], 0, .int .i32 0, (some .i32), false⟩
  | _ => none

theorem tiok_2 : TIok Try.prog 2 ⟨(some (.int .i64)), 1, 8, false, [], 0, .int .i64 0, (some .i64), false⟩ := tiok_of (by kernel_rfl) (by kernel_rfl) (by kernel_rfl)
theorem tiok_3 : TIok Try.prog 3 ⟨(some (.int .i64)), 1, 8, false, [], 0, .int .i64 0, (some .i64), false⟩ := tiok_of (by kernel_rfl) (by kernel_rfl) (by kernel_rfl)
theorem tiok_4 : TIok Try.prog 4 ⟨(some .bool), 1, 1, false, [], 0, .bool false, none, false⟩ := tiok_of (by kernel_rfl) (by kernel_rfl) (by kernel_rfl)
theorem tiok_5 : TIok Try.prog 5 ⟨(some (.int .u8)), 1, 1, false, [], 0, .int .u8 0, (some .u8), false⟩ := tiok_of (by kernel_rfl) (by kernel_rfl) (by kernel_rfl)
theorem tiok_6 : TIok Try.prog 6 ⟨(some (.int .u8)), 1, 1, false, [], 0, .int .u8 0, (some .u8), false⟩ := tiok_of (by kernel_rfl) (by kernel_rfl) (by kernel_rfl)
theorem tiok_7 : TIok Try.prog 7 ⟨(some ty_BoundsErrorCode__), 4, 24, true, [(0, 1, false), (1, 1, false), (2, 1, false), (3, 1, false)], 0, .agg #[.int .i64 0, .int .i64 0, .bool false, .int .u8 0], none, false⟩ := tiok_of (by kernel_rfl) (by kernel_rfl) (by kernel_rfl)
theorem tiok_8 : TIok Try.prog 8 ⟨(some ty_boundsError), 4, 24, true, [(0, 1, false), (1, 1, false), (2, 1, false), (3, 1, false)], 0, .agg #[.int .i64 0, .int .i64 0, .bool false, .int .u8 0], none, false⟩ := tiok_of (by kernel_rfl) (by kernel_rfl) (by kernel_rfl)
theorem tiok_9 : TIok Try.prog 9 ⟨(some .str), 1, 16, false, [], 0, .string ⟨#[]⟩, none, true⟩ := tiok_of (by kernel_rfl) (by kernel_rfl) (by kernel_rfl)
theorem tiok_10 : TIok Try.prog 10 ⟨(some .str), 1, 16, false, [], 0, .string ⟨#[]⟩, none, true⟩ := tiok_of (by kernel_rfl) (by kernel_rfl) (by kernel_rfl)
theorem tiok_11 : TIok Try.prog 11 ⟨(some .str), 1, 16, false, [], 0, .string ⟨#[]⟩, none, true⟩ := tiok_of (by kernel_rfl) (by kernel_rfl) (by kernel_rfl)
theorem tiok_21 : TIok Try.prog 21 ⟨(some (.int .i32)), 1, 4, false, [], 0, .int .i32 0, (some .i32), false⟩ := tiok_of (by kernel_rfl) (by kernel_rfl) (by kernel_rfl)
theorem tiok_22 : TIok Try.prog 22 ⟨(some ty_struct___Command_string__Reply_string__), 2, 32, true, [(0, 1, false), (1, 1, false)], 0, .agg #[.string ⟨#[]⟩, .string ⟨#[]⟩], none, false⟩ := tiok_of (by kernel_rfl) (by kernel_rfl) (by kernel_rfl)
theorem tiok_23 : TIok Try.prog 23 ⟨(some ty_LogRecord), 2, 32, true, [(0, 1, false), (1, 1, false)], 0, .agg #[.string ⟨#[]⟩, .string ⟨#[]⟩], none, false⟩ := tiok_of (by kernel_rfl) (by kernel_rfl) (by kernel_rfl)
theorem tiok_26 : TIok Try.prog 26 ⟨(some ty_LogRecord), 2, 32, true, [(0, 1, false), (1, 1, false)], 0, .agg #[.string ⟨#[]⟩, .string ⟨#[]⟩], none, false⟩ := tiok_of (by kernel_rfl) (by kernel_rfl) (by kernel_rfl)
theorem tiok_44 : TIok Try.prog 44 ⟨(some (.int .u64)), 1, 8, false, [], 0, .int .u64 0, (some .u64), false⟩ := tiok_of (by kernel_rfl) (by kernel_rfl) (by kernel_rfl)
theorem tiok_53 : TIok Try.prog 53 ⟨(some (.int .u32)), 1, 4, false, [], 0, .int .u32 0, (some .u32), false⟩ := tiok_of (by kernel_rfl) (by kernel_rfl) (by kernel_rfl)
theorem tiok_54 : TIok Try.prog 54 ⟨(some (.int .u8)), 1, 1, false, [], 0, .int .u8 0, (some .u8), false⟩ := tiok_of (by kernel_rfl) (by kernel_rfl) (by kernel_rfl)
theorem tiok_55 : TIok Try.prog 55 ⟨(some (.int .u8)), 1, 1, false, [], 0, .int .u8 0, (some .u8), false⟩ := tiok_of (by kernel_rfl) (by kernel_rfl) (by kernel_rfl)
theorem tiok_58 : TIok Try.prog 58 ⟨(some (.int .i32)), 1, 4, false, [], 0, .int .i32 0, (some .i32), false⟩ := tiok_of (by kernel_rfl) (by kernel_rfl) (by kernel_rfl)
theorem tiok_59 : TIok Try.prog 59 ⟨(some (.int .i32)), 1, 4, false, [], 0, .int .i32 0, (some .i32), false⟩ := tiok_of (by kernel_rfl) (by kernel_rfl) (by kernel_rfl)

theorem tok : TOk Try.prog T := fun t i h => by
  unfold T at h
  split at h
  · cases h; exact tiok_2
  · cases h; exact tiok_3
  · cases h; exact tiok_4
  · cases h; exact tiok_5
  · cases h; exact tiok_6
  · cases h; exact tiok_7
  · cases h; exact tiok_8
  · cases h; exact tiok_9
  · cases h; exact tiok_10
  · cases h; exact tiok_11
  · cases h; exact tiok_21
  · cases h; exact tiok_22
  · cases h; exact tiok_23
  · cases h; exact tiok_26
  · cases h; exact tiok_44
  · cases h; exact tiok_53
  · cases h; exact tiok_54
  · cases h; exact tiok_55
  · cases h; exact tiok_58
  · cases h; exact tiok_59
  · cases h

theorem ent_3 : Enters Try.prog 3 := Try.call3
theorem ent_4 : Enters Try.prog 4 := Try.call4
theorem ent_5 : Enters Try.prog 5 := Try.call5
theorem ent_6 : Enters Try.prog 6 := Try.call6
theorem ent_7 : Enters Try.prog 7 := Try.call7
theorem ent_8 : Enters Try.prog 8 := Try.call8
theorem ent_9 : Enters Try.prog 9 := Try.call9
theorem ent_10 : Enters Try.prog 10 := Try.call10
theorem ent_11 : Enters Try.prog 11 := Try.call11
theorem ent_12 : Enters Try.prog 12 := Try.call12
theorem ent_13 : Enters Try.prog 13 := Try.call13
theorem ent_14 : Enters Try.prog 14 := Try.call14
theorem ent_15 : Enters Try.prog 15 := Try.call15
theorem ent_16 : Enters Try.prog 16 := Try.call16
theorem ent_17 : Enters Try.prog 17 := Try.call17
theorem ent_18 : Enters Try.prog 18 := Try.call18
theorem ent_19 : Enters Try.prog 19 := Try.call19
theorem ent_20 : Enters Try.prog 20 := Try.call20
theorem ent_21 : Enters Try.prog 21 := Try.call21
theorem ent_22 : Enters Try.prog 22 := Try.call22
theorem ent_24 : Enters Try.prog 24 := Try.call24

def G0 : Env := env0 T
theorem G0_ok : EnvOk Try.prog G0 := env0_ok tok hmix
end Go.Proofs.Ytpfdhaldjeedfaa
