/-
  What is told of the types of this translation, each by a closed check; functions with a body are entered. Printed by a program.
-/
import Derived.Test.YteckiilljhdkpaaB12
import Derived.Test.YteckiilljhdkpaaProg
namespace Go.Proofs.Yteckiilljhdkpaa
open Go.RowKit

abbrev BoundsErrorCode__ : Type := Int × Int × Bool × Int × Unit
def ty_BoundsErrorCode__ : Ty := .st [(.int .i64), (.int .i64), .bool, (.int .u8)]
def d_BoundsErrorCode__ : BoundsErrorCode__ := (0, 0, false, 0, ())
abbrev Slot : Type := Int × Bool × Int × Unit
def ty_Slot : Ty := .st [(.int .i64), .bool, (.int .i64)]
def d_Slot : Slot := (0, false, 0, ())
abbrev Ropeway : Type := Int × (List Slot) × Int × Int × Int × Unit
def ty_Ropeway : Ty := .st [(.int .i64), (.sl ty_Slot), (.int .i64), (.int .i64), (.int .i64)]
def d_Ropeway : Ropeway := (0, [], 0, 0, 0, ())
abbrev Log : Type := ByteArray × ByteArray × Int × Unit
def ty_Log : Ty := .st [.str, .str, (.int .i64)]
def d_Log : Log := ((ByteArray.mk #[]), (ByteArray.mk #[]), 0, ())
abbrev Console : Type := Ropeway × Log × Unit
def ty_Console : Ty := .st [ty_Ropeway, ty_Log]
def d_Console : Console := (d_Ropeway, d_Log, ())
abbrev DayRow : Type := Int × Int × Int × Int × Int × ByteArray × Unit
def ty_DayRow : Ty := .st [(.int .i64), (.int .i64), (.int .i64), (.int .i64), (.int .i64), .str]
def d_DayRow : DayRow := (0, 0, 0, 0, 0, (ByteArray.mk #[]), ())
abbrev LogRecord : Type := ByteArray × ByteArray × Unit
def ty_LogRecord : Ty := .st [.str, .str]
def d_LogRecord : LogRecord := ((ByteArray.mk #[]), (ByteArray.mk #[]), ())
abbrev Log__ : Type := Ropeway × Log × Unit
def ty_Log__ : Ty := .st [ty_Ropeway, ty_Log]
def d_Log__ : Log__ := (d_Ropeway, d_Log, ())
abbrev Slot__Wait_int__Top_int__Down_int__ : Type := Int × (List Slot) × Int × Int × Int × Unit
def ty_Slot__Wait_int__Top_int__Down_int__ : Ty := .st [(.int .i64), (.sl ty_Slot), (.int .i64), (.int .i64), (.int .i64)]
def d_Slot__Wait_int__Top_int__Down_int__ : Slot__Wait_int__Top_int__Down_int__ := (0, [], 0, 0, 0, ())
abbrev boundsError : Type := Int × Int × Bool × Int × Unit
def ty_boundsError : Ty := .st [(.int .i64), (.int .i64), .bool, (.int .u8)]
def d_boundsError : boundsError := (0, 0, false, 0, ())
abbrev errorAddressString : Type := ByteArray × Int × Unit
def ty_errorAddressString : Ty := .st [.str, (.int .u64)]
def d_errorAddressString : errorAddressString := ((ByteArray.mk #[]), 0, ())
abbrev struct___Cabin_int__Open_bool__Full_int__ : Type := Int × Bool × Int × Unit
def ty_struct___Cabin_int__Open_bool__Full_int__ : Ty := .st [(.int .i64), .bool, (.int .i64)]
def d_struct___Cabin_int__Open_bool__Full_int__ : struct___Cabin_int__Open_bool__Full_int__ := (0, false, 0, ())
abbrev struct___Command_string__Reply_string__ : Type := ByteArray × ByteArray × Unit
def ty_struct___Command_string__Reply_string__ : Ty := .st [.str, .str]
def d_struct___Command_string__Reply_string__ : struct___Command_string__Reply_string__ := ((ByteArray.mk #[]), (ByteArray.mk #[]), ())
abbrev struct___Day_int__Ups_int__Downs_int__Hours_int__Stops_int__Reason_string__ : Type := Int × Int × Int × Int × Int × ByteArray × Unit
def ty_struct___Day_int__Ups_int__Downs_int__Hours_int__Stops_int__Reason_string__ : Ty := .st [(.int .i64), (.int .i64), (.int .i64), (.int .i64), (.int .i64), .str]
def d_struct___Day_int__Ups_int__Downs_int__Hours_int__Stops_int__Reason_string__ : struct___Day_int__Ups_int__Downs_int__Hours_int__Stops_int__Reason_string__ := (0, 0, 0, 0, 0, (ByteArray.mk #[]), ())
abbrev struct___Durable_string__Pending_string__Count_int__ : Type := ByteArray × ByteArray × Int × Unit
def ty_struct___Durable_string__Pending_string__Count_int__ : Ty := .st [.str, .str, (.int .i64)]
def d_struct___Durable_string__Pending_string__Count_int__ : struct___Durable_string__Pending_string__Count_int__ := ((ByteArray.mk #[]), (ByteArray.mk #[]), 0, ())
abbrev struct___msg_string__addr_uintptr__ : Type := ByteArray × Int × Unit
def ty_struct___msg_string__addr_uintptr__ : Ty := .st [.str, (.int .u64)]
def d_struct___msg_string__addr_uintptr__ : struct___msg_string__addr_uintptr__ := ((ByteArray.mk #[]), 0, ())
abbrev w64 (x : Int) : Int := IntKind.i64.wrap x
abbrev w32 (x : Int) : Int := IntKind.i32.wrap x
abbrev wu64 (x : Int) : Int := IntKind.u64.wrap x
abbrev wu8 (x : Int) : Int := IntKind.u8.wrap x
abbrev wu32 (x : Int) : Int := IntKind.u32.wrap x
abbrev wu16 (x : Int) : Int := IntKind.u16.wrap x
abbrev w16 (x : Int) : Int := IntKind.i16.wrap x
abbrev w8 (x : Int) : Int := IntKind.i8.wrap x

theorem hmix : Try.prog.follows .mixedOrders = true := by kernel_rfl

def T : Nat → Option TI
  | 2 => some ⟨(some (.int .i64)), 1, 8, false, [], 0, .int .i64 0, (some .i64), false, (0, 0)⟩
  | 3 => some ⟨(some (.int .i64)), 1, 8, false, [], 0, .int .i64 0, (some .i64), false, (0, 0)⟩
  | 4 => some ⟨(some .bool), 1, 1, false, [], 0, .bool false, none, false, (0, 0)⟩
  | 5 => some ⟨(some (.int .u8)), 1, 1, false, [], 0, .int .u8 0, (some .u8), false, (0, 0)⟩
  | 6 => some ⟨(some (.int .u8)), 1, 1, false, [], 0, .int .u8 0, (some .u8), false, (0, 0)⟩
  | 7 => some ⟨(some ty_BoundsErrorCode__), 4, 24, true, [(0, 1, false), (1, 1, false), (2, 1, false), (3, 1, false)], 0, .agg #[.int .i64 0, .int .i64 0, .bool false, .int .u8 0], none, false, (0, 0)⟩
  | 8 => some ⟨(some ty_boundsError), 4, 24, true, [(0, 1, false), (1, 1, false), (2, 1, false), (3, 1, false)], 0, .agg #[.int .i64 0, .int .i64 0, .bool false, .int .u8 0], none, false, (0, 0)⟩
  | 9 => some ⟨(some .str), 1, 16, false, [], 0, .string ⟨#[]⟩, none, true, (0, 0)⟩
  | 10 => some ⟨(some .str), 1, 16, false, [], 0, .string ⟨#[]⟩, none, true, (0, 0)⟩
  | 11 => some ⟨(some .str), 1, 16, false, [], 0, .string ⟨#[]⟩, none, true, (0, 0)⟩
  | 21 => some ⟨(some (.int .i32)), 1, 4, false, [], 0, .int .i32 0, (some .i32), false, (0, 0)⟩
  | 22 => some ⟨(some (.sl ty_DayRow)), 1, 24, false, [], 55, .slice none 0 0, none, false, (0, 0)⟩
  | 24 => some ⟨(some (.sl (.int .i64))), 1, 24, false, [], 3, .slice none 0 0, none, false, (0, 0)⟩
  | 27 => some ⟨(some (.sl ty_DayRow)), 1, 24, false, [], 57, .slice none 0 0, none, false, (0, 0)⟩
  | 34 => some ⟨(some (.sl ty_Slot)), 1, 24, false, [], 83, .slice none 0 0, none, false, (0, 0)⟩
  | 35 => some ⟨(some ty_Slot__Wait_int__Top_int__Down_int__), 5, 56, true, [(0, 1, false), (1, 1, false), (2, 1, false), (3, 1, false), (4, 1, false)], 0, .agg #[.int .i64 0, .slice none 0 0, .int .i64 0, .int .i64 0, .int .i64 0], none, false, (0, 0)⟩
  | 36 => some ⟨(some ty_Ropeway), 5, 56, true, [(0, 1, false), (1, 1, false), (2, 1, false), (3, 1, false), (4, 1, false)], 0, .agg #[.int .i64 0, .slice none 0 0, .int .i64 0, .int .i64 0, .int .i64 0], none, false, (0, 0)⟩
  | 37 => some ⟨(some ty_struct___Durable_string__Pending_string__Count_int__), 3, 40, true, [(0, 1, false), (1, 1, false), (2, 1, false)], 0, .agg #[.string ⟨#[]⟩, .string ⟨#[]⟩, .int .i64 0], none, false, (0, 0)⟩
  | 38 => some ⟨(some ty_Log), 3, 40, true, [(0, 1, false), (1, 1, false), (2, 1, false)], 0, .agg #[.string ⟨#[]⟩, .string ⟨#[]⟩, .int .i64 0], none, false, (0, 0)⟩
  | 39 => some ⟨(some ty_Log__), 8, 96, true, [(0, 5, true), (5, 3, true)], 0, .agg #[.int .i64 0, .slice none 0 0, .int .i64 0, .int .i64 0, .int .i64 0, .string ⟨#[]⟩, .string ⟨#[]⟩, .int .i64 0], none, false, (0, 0)⟩
  | 40 => some ⟨(some ty_Console), 8, 96, true, [(0, 5, true), (5, 3, true)], 0, .agg #[.int .i64 0, .slice none 0 0, .int .i64 0, .int .i64 0, .int .i64 0, .string ⟨#[]⟩, .string ⟨#[]⟩, .int .i64 0], none, false, (0, 0)⟩
  | 48 => some ⟨(some (.sl (.sl (.int .i64)))), 1, 24, false, [], 24, .slice none 0 0, none, false, (0, 0)⟩
  | 54 => some ⟨(some ty_struct___Day_int__Ups_int__Downs_int__Hours_int__Stops_int__Reason_string__), 6, 56, true, [(0, 1, false), (1, 1, false), (2, 1, false), (3, 1, false), (4, 1, false), (5, 1, false)], 0, .agg #[.int .i64 0, .int .i64 0, .int .i64 0, .int .i64 0, .int .i64 0, .string ⟨#[]⟩], none, false, (0, 0)⟩
  | 55 => some ⟨(some ty_DayRow), 6, 56, true, [(0, 1, false), (1, 1, false), (2, 1, false), (3, 1, false), (4, 1, false), (5, 1, false)], 0, .agg #[.int .i64 0, .int .i64 0, .int .i64 0, .int .i64 0, .int .i64 0, .string ⟨#[]⟩], none, false, (0, 0)⟩
  | 57 => some ⟨(some ty_DayRow), 6, 56, true, [(0, 1, false), (1, 1, false), (2, 1, false), (3, 1, false), (4, 1, false), (5, 1, false)], 0, .agg #[.int .i64 0, .int .i64 0, .int .i64 0, .int .i64 0, .int .i64 0, .string ⟨#[]⟩], none, false, (0, 0)⟩
  | 73 => some ⟨(some (.sl (.int .u8))), 1, 24, false, [], 5, .slice none 0 0, none, false, (0, 0)⟩
  | 82 => some ⟨(some ty_struct___Cabin_int__Open_bool__Full_int__), 3, 24, true, [(0, 1, false), (1, 1, false), (2, 1, false)], 0, .agg #[.int .i64 0, .bool false, .int .i64 0], none, false, (0, 0)⟩
  | 83 => some ⟨(some ty_Slot), 3, 24, true, [(0, 1, false), (1, 1, false), (2, 1, false)], 0, .agg #[.int .i64 0, .bool false, .int .i64 0], none, false, (0, 0)⟩
  | 90 => some ⟨(some (.int .u64)), 1, 8, false, [], 0, .int .u64 0, (some .u64), false, (0, 0)⟩
  | 98 => some ⟨(some (.int .u32)), 1, 4, false, [], 0, .int .u32 0, (some .u32), false, (0, 0)⟩
  | 99 => some ⟨(some (.int .u8)), 1, 1, false, [], 0, .int .u8 0, (some .u8), false, (0, 0)⟩
  | 100 => some ⟨(some (.int .u8)), 1, 1, false, [], 0, .int .u8 0, (some .u8), false, (0, 0)⟩
  | 103 => some ⟨(some (.int .i32)), 1, 4, false, [], 0, .int .i32 0, (some .i32), false, (0, 0)⟩
  | 104 => some ⟨(some (.int .i32)), 1, 4, false, [], 0, .int .i32 0, (some .i32), false, (0, 0)⟩
  | 110 => some ⟨(some (.sl ty_LogRecord)), 1, 24, false, [], 112, .slice none 0 0, none, false, (0, 0)⟩
  | 111 => some ⟨(some ty_struct___Command_string__Reply_string__), 2, 32, true, [(0, 1, false), (1, 1, false)], 0, .agg #[.string ⟨#[]⟩, .string ⟨#[]⟩], none, false, (0, 0)⟩
  | 112 => some ⟨(some ty_LogRecord), 2, 32, true, [(0, 1, false), (1, 1, false)], 0, .agg #[.string ⟨#[]⟩, .string ⟨#[]⟩], none, false, (0, 0)⟩
  | _ => none

theorem tiok_2 : TIok Try.prog 2 ⟨(some (.int .i64)), 1, 8, false, [], 0, .int .i64 0, (some .i64), false, (0, 0)⟩ := tiok_of (by kernel_rfl) (by kernel_rfl) (by kernel_rfl)
theorem tiok_3 : TIok Try.prog 3 ⟨(some (.int .i64)), 1, 8, false, [], 0, .int .i64 0, (some .i64), false, (0, 0)⟩ := tiok_of (by kernel_rfl) (by kernel_rfl) (by kernel_rfl)
theorem tiok_4 : TIok Try.prog 4 ⟨(some .bool), 1, 1, false, [], 0, .bool false, none, false, (0, 0)⟩ := tiok_of (by kernel_rfl) (by kernel_rfl) (by kernel_rfl)
theorem tiok_5 : TIok Try.prog 5 ⟨(some (.int .u8)), 1, 1, false, [], 0, .int .u8 0, (some .u8), false, (0, 0)⟩ := tiok_of (by kernel_rfl) (by kernel_rfl) (by kernel_rfl)
theorem tiok_6 : TIok Try.prog 6 ⟨(some (.int .u8)), 1, 1, false, [], 0, .int .u8 0, (some .u8), false, (0, 0)⟩ := tiok_of (by kernel_rfl) (by kernel_rfl) (by kernel_rfl)
theorem tiok_7 : TIok Try.prog 7 ⟨(some ty_BoundsErrorCode__), 4, 24, true, [(0, 1, false), (1, 1, false), (2, 1, false), (3, 1, false)], 0, .agg #[.int .i64 0, .int .i64 0, .bool false, .int .u8 0], none, false, (0, 0)⟩ := tiok_of (by kernel_rfl) (by kernel_rfl) (by kernel_rfl)
theorem tiok_8 : TIok Try.prog 8 ⟨(some ty_boundsError), 4, 24, true, [(0, 1, false), (1, 1, false), (2, 1, false), (3, 1, false)], 0, .agg #[.int .i64 0, .int .i64 0, .bool false, .int .u8 0], none, false, (0, 0)⟩ := tiok_of (by kernel_rfl) (by kernel_rfl) (by kernel_rfl)
theorem tiok_9 : TIok Try.prog 9 ⟨(some .str), 1, 16, false, [], 0, .string ⟨#[]⟩, none, true, (0, 0)⟩ := tiok_of (by kernel_rfl) (by kernel_rfl) (by kernel_rfl)
theorem tiok_10 : TIok Try.prog 10 ⟨(some .str), 1, 16, false, [], 0, .string ⟨#[]⟩, none, true, (0, 0)⟩ := tiok_of (by kernel_rfl) (by kernel_rfl) (by kernel_rfl)
theorem tiok_11 : TIok Try.prog 11 ⟨(some .str), 1, 16, false, [], 0, .string ⟨#[]⟩, none, true, (0, 0)⟩ := tiok_of (by kernel_rfl) (by kernel_rfl) (by kernel_rfl)
theorem tiok_21 : TIok Try.prog 21 ⟨(some (.int .i32)), 1, 4, false, [], 0, .int .i32 0, (some .i32), false, (0, 0)⟩ := tiok_of (by kernel_rfl) (by kernel_rfl) (by kernel_rfl)
theorem tiok_22 : TIok Try.prog 22 ⟨(some (.sl ty_DayRow)), 1, 24, false, [], 55, .slice none 0 0, none, false, (0, 0)⟩ := tiok_of (by kernel_rfl) (by kernel_rfl) (by kernel_rfl)
theorem tiok_24 : TIok Try.prog 24 ⟨(some (.sl (.int .i64))), 1, 24, false, [], 3, .slice none 0 0, none, false, (0, 0)⟩ := tiok_of (by kernel_rfl) (by kernel_rfl) (by kernel_rfl)
theorem tiok_27 : TIok Try.prog 27 ⟨(some (.sl ty_DayRow)), 1, 24, false, [], 57, .slice none 0 0, none, false, (0, 0)⟩ := tiok_of (by kernel_rfl) (by kernel_rfl) (by kernel_rfl)
theorem tiok_34 : TIok Try.prog 34 ⟨(some (.sl ty_Slot)), 1, 24, false, [], 83, .slice none 0 0, none, false, (0, 0)⟩ := tiok_of (by kernel_rfl) (by kernel_rfl) (by kernel_rfl)
theorem tiok_35 : TIok Try.prog 35 ⟨(some ty_Slot__Wait_int__Top_int__Down_int__), 5, 56, true, [(0, 1, false), (1, 1, false), (2, 1, false), (3, 1, false), (4, 1, false)], 0, .agg #[.int .i64 0, .slice none 0 0, .int .i64 0, .int .i64 0, .int .i64 0], none, false, (0, 0)⟩ := tiok_of (by kernel_rfl) (by kernel_rfl) (by kernel_rfl)
theorem tiok_36 : TIok Try.prog 36 ⟨(some ty_Ropeway), 5, 56, true, [(0, 1, false), (1, 1, false), (2, 1, false), (3, 1, false), (4, 1, false)], 0, .agg #[.int .i64 0, .slice none 0 0, .int .i64 0, .int .i64 0, .int .i64 0], none, false, (0, 0)⟩ := tiok_of (by kernel_rfl) (by kernel_rfl) (by kernel_rfl)
theorem tiok_37 : TIok Try.prog 37 ⟨(some ty_struct___Durable_string__Pending_string__Count_int__), 3, 40, true, [(0, 1, false), (1, 1, false), (2, 1, false)], 0, .agg #[.string ⟨#[]⟩, .string ⟨#[]⟩, .int .i64 0], none, false, (0, 0)⟩ := tiok_of (by kernel_rfl) (by kernel_rfl) (by kernel_rfl)
theorem tiok_38 : TIok Try.prog 38 ⟨(some ty_Log), 3, 40, true, [(0, 1, false), (1, 1, false), (2, 1, false)], 0, .agg #[.string ⟨#[]⟩, .string ⟨#[]⟩, .int .i64 0], none, false, (0, 0)⟩ := tiok_of (by kernel_rfl) (by kernel_rfl) (by kernel_rfl)
theorem tiok_39 : TIok Try.prog 39 ⟨(some ty_Log__), 8, 96, true, [(0, 5, true), (5, 3, true)], 0, .agg #[.int .i64 0, .slice none 0 0, .int .i64 0, .int .i64 0, .int .i64 0, .string ⟨#[]⟩, .string ⟨#[]⟩, .int .i64 0], none, false, (0, 0)⟩ := tiok_of (by kernel_rfl) (by kernel_rfl) (by kernel_rfl)
theorem tiok_40 : TIok Try.prog 40 ⟨(some ty_Console), 8, 96, true, [(0, 5, true), (5, 3, true)], 0, .agg #[.int .i64 0, .slice none 0 0, .int .i64 0, .int .i64 0, .int .i64 0, .string ⟨#[]⟩, .string ⟨#[]⟩, .int .i64 0], none, false, (0, 0)⟩ := tiok_of (by kernel_rfl) (by kernel_rfl) (by kernel_rfl)
theorem tiok_48 : TIok Try.prog 48 ⟨(some (.sl (.sl (.int .i64)))), 1, 24, false, [], 24, .slice none 0 0, none, false, (0, 0)⟩ := tiok_of (by kernel_rfl) (by kernel_rfl) (by kernel_rfl)
theorem tiok_54 : TIok Try.prog 54 ⟨(some ty_struct___Day_int__Ups_int__Downs_int__Hours_int__Stops_int__Reason_string__), 6, 56, true, [(0, 1, false), (1, 1, false), (2, 1, false), (3, 1, false), (4, 1, false), (5, 1, false)], 0, .agg #[.int .i64 0, .int .i64 0, .int .i64 0, .int .i64 0, .int .i64 0, .string ⟨#[]⟩], none, false, (0, 0)⟩ := tiok_of (by kernel_rfl) (by kernel_rfl) (by kernel_rfl)
theorem tiok_55 : TIok Try.prog 55 ⟨(some ty_DayRow), 6, 56, true, [(0, 1, false), (1, 1, false), (2, 1, false), (3, 1, false), (4, 1, false), (5, 1, false)], 0, .agg #[.int .i64 0, .int .i64 0, .int .i64 0, .int .i64 0, .int .i64 0, .string ⟨#[]⟩], none, false, (0, 0)⟩ := tiok_of (by kernel_rfl) (by kernel_rfl) (by kernel_rfl)
theorem tiok_57 : TIok Try.prog 57 ⟨(some ty_DayRow), 6, 56, true, [(0, 1, false), (1, 1, false), (2, 1, false), (3, 1, false), (4, 1, false), (5, 1, false)], 0, .agg #[.int .i64 0, .int .i64 0, .int .i64 0, .int .i64 0, .int .i64 0, .string ⟨#[]⟩], none, false, (0, 0)⟩ := tiok_of (by kernel_rfl) (by kernel_rfl) (by kernel_rfl)
theorem tiok_73 : TIok Try.prog 73 ⟨(some (.sl (.int .u8))), 1, 24, false, [], 5, .slice none 0 0, none, false, (0, 0)⟩ := tiok_of (by kernel_rfl) (by kernel_rfl) (by kernel_rfl)
theorem tiok_82 : TIok Try.prog 82 ⟨(some ty_struct___Cabin_int__Open_bool__Full_int__), 3, 24, true, [(0, 1, false), (1, 1, false), (2, 1, false)], 0, .agg #[.int .i64 0, .bool false, .int .i64 0], none, false, (0, 0)⟩ := tiok_of (by kernel_rfl) (by kernel_rfl) (by kernel_rfl)
theorem tiok_83 : TIok Try.prog 83 ⟨(some ty_Slot), 3, 24, true, [(0, 1, false), (1, 1, false), (2, 1, false)], 0, .agg #[.int .i64 0, .bool false, .int .i64 0], none, false, (0, 0)⟩ := tiok_of (by kernel_rfl) (by kernel_rfl) (by kernel_rfl)
theorem tiok_90 : TIok Try.prog 90 ⟨(some (.int .u64)), 1, 8, false, [], 0, .int .u64 0, (some .u64), false, (0, 0)⟩ := tiok_of (by kernel_rfl) (by kernel_rfl) (by kernel_rfl)
theorem tiok_98 : TIok Try.prog 98 ⟨(some (.int .u32)), 1, 4, false, [], 0, .int .u32 0, (some .u32), false, (0, 0)⟩ := tiok_of (by kernel_rfl) (by kernel_rfl) (by kernel_rfl)
theorem tiok_99 : TIok Try.prog 99 ⟨(some (.int .u8)), 1, 1, false, [], 0, .int .u8 0, (some .u8), false, (0, 0)⟩ := tiok_of (by kernel_rfl) (by kernel_rfl) (by kernel_rfl)
theorem tiok_100 : TIok Try.prog 100 ⟨(some (.int .u8)), 1, 1, false, [], 0, .int .u8 0, (some .u8), false, (0, 0)⟩ := tiok_of (by kernel_rfl) (by kernel_rfl) (by kernel_rfl)
theorem tiok_103 : TIok Try.prog 103 ⟨(some (.int .i32)), 1, 4, false, [], 0, .int .i32 0, (some .i32), false, (0, 0)⟩ := tiok_of (by kernel_rfl) (by kernel_rfl) (by kernel_rfl)
theorem tiok_104 : TIok Try.prog 104 ⟨(some (.int .i32)), 1, 4, false, [], 0, .int .i32 0, (some .i32), false, (0, 0)⟩ := tiok_of (by kernel_rfl) (by kernel_rfl) (by kernel_rfl)
theorem tiok_110 : TIok Try.prog 110 ⟨(some (.sl ty_LogRecord)), 1, 24, false, [], 112, .slice none 0 0, none, false, (0, 0)⟩ := tiok_of (by kernel_rfl) (by kernel_rfl) (by kernel_rfl)
theorem tiok_111 : TIok Try.prog 111 ⟨(some ty_struct___Command_string__Reply_string__), 2, 32, true, [(0, 1, false), (1, 1, false)], 0, .agg #[.string ⟨#[]⟩, .string ⟨#[]⟩], none, false, (0, 0)⟩ := tiok_of (by kernel_rfl) (by kernel_rfl) (by kernel_rfl)
theorem tiok_112 : TIok Try.prog 112 ⟨(some ty_LogRecord), 2, 32, true, [(0, 1, false), (1, 1, false)], 0, .agg #[.string ⟨#[]⟩, .string ⟨#[]⟩], none, false, (0, 0)⟩ := tiok_of (by kernel_rfl) (by kernel_rfl) (by kernel_rfl)

theorem tok : TOk Try.prog T := fun t i h => by
  unfold T at h
  split at h
  · cases h; exact tiok_2
  · cases h; exact tiok_3
  · cases h; exact tiok_4
  · cases h; exact tiok_5
  · cases h; exact tiok_6
  · cases h; exact tiok_7
  · cases h; exact tiok_8
  · cases h; exact tiok_9
  · cases h; exact tiok_10
  · cases h; exact tiok_11
  · cases h; exact tiok_21
  · cases h; exact tiok_22
  · cases h; exact tiok_24
  · cases h; exact tiok_27
  · cases h; exact tiok_34
  · cases h; exact tiok_35
  · cases h; exact tiok_36
  · cases h; exact tiok_37
  · cases h; exact tiok_38
  · cases h; exact tiok_39
  · cases h; exact tiok_40
  · cases h; exact tiok_48
  · cases h; exact tiok_54
  · cases h; exact tiok_55
  · cases h; exact tiok_57
  · cases h; exact tiok_73
  · cases h; exact tiok_82
  · cases h; exact tiok_83
  · cases h; exact tiok_90
  · cases h; exact tiok_98
  · cases h; exact tiok_99
  · cases h; exact tiok_100
  · cases h; exact tiok_103
  · cases h; exact tiok_104
  · cases h; exact tiok_110
  · cases h; exact tiok_111
  · cases h; exact tiok_112
  · cases h

theorem ent_3 : Enters Try.prog 3 := Try.call3
theorem ent_4 : Enters Try.prog 4 := Try.call4
theorem ent_5 : Enters Try.prog 5 := Try.call5
theorem ent_6 : Enters Try.prog 6 := Try.call6
theorem ent_7 : Enters Try.prog 7 := Try.call7
theorem ent_8 : Enters Try.prog 8 := Try.call8
theorem ent_9 : Enters Try.prog 9 := Try.call9
theorem ent_10 : Enters Try.prog 10 := Try.call10
theorem ent_11 : Enters Try.prog 11 := Try.call11
theorem ent_12 : Enters Try.prog 12 := Try.call12
theorem ent_13 : Enters Try.prog 13 := Try.call13
theorem ent_14 : Enters Try.prog 14 := Try.call14
theorem ent_15 : Enters Try.prog 15 := Try.call15
theorem ent_16 : Enters Try.prog 16 := Try.call16
theorem ent_17 : Enters Try.prog 17 := Try.call17
theorem ent_18 : Enters Try.prog 18 := Try.call18
theorem ent_19 : Enters Try.prog 19 := Try.call19
theorem ent_20 : Enters Try.prog 20 := Try.call20
theorem ent_21 : Enters Try.prog 21 := Try.call21
theorem ent_22 : Enters Try.prog 22 := Try.call22
theorem ent_23 : Enters Try.prog 23 := Try.call23
theorem ent_24 : Enters Try.prog 24 := Try.call24
theorem ent_25 : Enters Try.prog 25 := Try.call25
theorem ent_26 : Enters Try.prog 26 := Try.call26
theorem ent_27 : Enters Try.prog 27 := Try.call27
theorem ent_28 : Enters Try.prog 28 := Try.call28
theorem ent_29 : Enters Try.prog 29 := Try.call29
theorem ent_30 : Enters Try.prog 30 := Try.call30
theorem ent_31 : Enters Try.prog 31 := Try.call31
theorem ent_32 : Enters Try.prog 32 := Try.call32
theorem ent_33 : Enters Try.prog 33 := Try.call33
theorem ent_34 : Enters Try.prog 34 := Try.call34
theorem ent_35 : Enters Try.prog 35 := Try.call35
theorem ent_36 : Enters Try.prog 36 := Try.call36
theorem ent_37 : Enters Try.prog 37 := Try.call37
theorem ent_38 : Enters Try.prog 38 := Try.call38
theorem ent_39 : Enters Try.prog 39 := Try.call39
theorem ent_40 : Enters Try.prog 40 := Try.call40
theorem ent_41 : Enters Try.prog 41 := Try.call41
theorem ent_42 : Enters Try.prog 42 := Try.call42
theorem ent_43 : Enters Try.prog 43 := Try.call43
theorem ent_44 : Enters Try.prog 44 := Try.call44
theorem ent_45 : Enters Try.prog 45 := Try.call45
theorem ent_46 : Enters Try.prog 46 := Try.call46
theorem ent_47 : Enters Try.prog 47 := Try.call47
theorem ent_48 : Enters Try.prog 48 := Try.call48
theorem ent_49 : Enters Try.prog 49 := Try.call49
theorem ent_50 : Enters Try.prog 50 := Try.call50
theorem ent_51 : Enters Try.prog 51 := Try.call51
theorem ent_52 : Enters Try.prog 52 := Try.call52
theorem ent_53 : Enters Try.prog 53 := Try.call53
theorem ent_54 : Enters Try.prog 54 := Try.call54
theorem ent_55 : Enters Try.prog 55 := Try.call55
theorem ent_56 : Enters Try.prog 56 := Try.call56
theorem ent_57 : Enters Try.prog 57 := Try.call57
theorem ent_58 : Enters Try.prog 58 := Try.call58
theorem ent_59 : Enters Try.prog 59 := Try.call59
theorem ent_60 : Enters Try.prog 60 := Try.call60
theorem ent_61 : Enters Try.prog 61 := Try.call61
theorem ent_62 : Enters Try.prog 62 := Try.call62
theorem ent_63 : Enters Try.prog 63 := Try.call63
theorem ent_64 : Enters Try.prog 64 := Try.call64
theorem ent_65 : Enters Try.prog 65 := Try.call65
theorem ent_66 : Enters Try.prog 66 := Try.call66
theorem ent_67 : Enters Try.prog 67 := Try.call67
theorem ent_68 : Enters Try.prog 68 := Try.call68
theorem ent_69 : Enters Try.prog 69 := Try.call69
theorem ent_70 : Enters Try.prog 70 := Try.call70

def G0 : Env := env0 T
theorem G0_ok : EnvOk Try.prog G0 := env0_ok tok hmix
end Go.Proofs.Yteckiilljhdkpaa
