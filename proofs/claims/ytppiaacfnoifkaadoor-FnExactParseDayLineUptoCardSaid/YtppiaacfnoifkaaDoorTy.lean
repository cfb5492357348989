/-
  What is told of the types of this translation, each by a closed check; functions with a body are entered. Printed by a program.
-/
import Derived.Test.YtppiaacfnoifkaaDoorB12
import Derived.Test.YtppiaacfnoifkaaDoorProg
namespace Go.Proofs.YtppiaacfnoifkaaDoor
open Go.RowKit

abbrev BoundsErrorCode__ : Type := Int × Int × Bool × Int × Unit
def ty_BoundsErrorCode__ : Ty := .st [(.int .i64), (.int .i64), .bool, (.int .u8)]
def d_BoundsErrorCode__ : BoundsErrorCode__ := (0, 0, false, 0, ())
abbrev Condition : Type := Int × ByteArray × Int × Int × Int × Unit
def ty_Condition : Ty := .st [(.int .i64), .str, (.int .i64), (.int .i64), (.int .i64)]
def d_Condition : Condition := (0, (ByteArray.mk #[]), 0, 0, 0, ())
abbrev DayRow : Type := Int × Int × Int × Int × Int × ByteArray × Unit
def ty_DayRow : Ty := .st [(.int .i64), (.int .i64), (.int .i64), (.int .i64), (.int .i64), .str]
def d_DayRow : DayRow := (0, 0, 0, 0, 0, (ByteArray.mk #[]), ())
abbrev Log : Type := ByteArray × ByteArray × Int × Unit
def ty_Log : Ty := .st [.str, .str, (.int .i64)]
def d_Log : Log := ((ByteArray.mk #[]), (ByteArray.mk #[]), 0, ())
abbrev LogRecord : Type := ByteArray × ByteArray × Unit
def ty_LogRecord : Ty := .st [.str, .str]
def d_LogRecord : LogRecord := ((ByteArray.mk #[]), (ByteArray.mk #[]), ())
abbrev acceptRange : Type := Int × Int × Unit
def ty_acceptRange : Ty := .st [(.int .u8), (.int .u8)]
def d_acceptRange : acceptRange := (0, 0, ())
abbrev boundsError : Type := Int × Int × Bool × Int × Unit
def ty_boundsError : Ty := .st [(.int .i64), (.int .i64), .bool, (.int .u8)]
def d_boundsError : boundsError := (0, 0, false, 0, ())
abbrev errorAddressString : Type := ByteArray × Int × Unit
def ty_errorAddressString : Ty := .st [.str, (.int .u64)]
def d_errorAddressString : errorAddressString := ((ByteArray.mk #[]), 0, ())
abbrev errorString : Type := ByteArray × Unit
def ty_errorString : Ty := .st [.str]
def d_errorString : errorString := ((ByteArray.mk #[]), ())
abbrev l1Cur : Type := (List Int) × Int × Int × Unit
def ty_l1Cur : Ty := .st [(.sl (.int .u8)), (.int .i64), (.int .u64)]
def d_l1Cur : l1Cur := ([], 0, 0, ())
abbrev struct___Command_string__Reply_string__ : Type := ByteArray × ByteArray × Unit
def ty_struct___Command_string__Reply_string__ : Ty := .st [.str, .str]
def d_struct___Command_string__Reply_string__ : struct___Command_string__Reply_string__ := ((ByteArray.mk #[]), (ByteArray.mk #[]), ())
abbrev struct___Day_int__Ups_int__Downs_int__Hours_int__Stops_int__Reason_string__ : Type := Int × Int × Int × Int × Int × ByteArray × Unit
def ty_struct___Day_int__Ups_int__Downs_int__Hours_int__Stops_int__Reason_string__ : Ty := .st [(.int .i64), (.int .i64), (.int .i64), (.int .i64), (.int .i64), .str]
def d_struct___Day_int__Ups_int__Downs_int__Hours_int__Stops_int__Reason_string__ : struct___Day_int__Ups_int__Downs_int__Hours_int__Stops_int__Reason_string__ := (0, 0, 0, 0, 0, (ByteArray.mk #[]), ())
abbrev struct___Durable_string__Pending_string__Count_int__ : Type := ByteArray × ByteArray × Int × Unit
def ty_struct___Durable_string__Pending_string__Count_int__ : Ty := .st [.str, .str, (.int .i64)]
def d_struct___Durable_string__Pending_string__Count_int__ : struct___Durable_string__Pending_string__Count_int__ := ((ByteArray.mk #[]), (ByteArray.mk #[]), 0, ())
abbrev struct___Number_int__What_string__Every_int__Last_int__Grade_int__ : Type := Int × ByteArray × Int × Int × Int × Unit
def ty_struct___Number_int__What_string__Every_int__Last_int__Grade_int__ : Ty := .st [(.int .i64), .str, (.int .i64), (.int .i64), (.int .i64)]
def d_struct___Number_int__What_string__Every_int__Last_int__Grade_int__ : struct___Number_int__What_string__Every_int__Last_int__Grade_int__ := (0, (ByteArray.mk #[]), 0, 0, 0, ())
abbrev struct___code___uint8__at_int__seed_uint64__ : Type := (List Int) × Int × Int × Unit
def ty_struct___code___uint8__at_int__seed_uint64__ : Ty := .st [(.sl (.int .u8)), (.int .i64), (.int .u64)]
def d_struct___code___uint8__at_int__seed_uint64__ : struct___code___uint8__at_int__seed_uint64__ := ([], 0, 0, ())
abbrev struct___lo_uint8__hi_uint8__ : Type := Int × Int × Unit
def ty_struct___lo_uint8__hi_uint8__ : Ty := .st [(.int .u8), (.int .u8)]
def d_struct___lo_uint8__hi_uint8__ : struct___lo_uint8__hi_uint8__ := (0, 0, ())
abbrev struct___msg_string__addr_uintptr__ : Type := ByteArray × Int × Unit
def ty_struct___msg_string__addr_uintptr__ : Ty := .st [.str, (.int .u64)]
def d_struct___msg_string__addr_uintptr__ : struct___msg_string__addr_uintptr__ := ((ByteArray.mk #[]), 0, ())
abbrev struct___s_string__ : Type := ByteArray × Unit
def ty_struct___s_string__ : Ty := .st [.str]
def d_struct___s_string__ : struct___s_string__ := ((ByteArray.mk #[]), ())
abbrev w64 (x : Int) : Int := IntKind.i64.wrap x
abbrev w32 (x : Int) : Int := IntKind.i32.wrap x
abbrev wu64 (x : Int) : Int := IntKind.u64.wrap x
abbrev wu8 (x : Int) : Int := IntKind.u8.wrap x
abbrev wu32 (x : Int) : Int := IntKind.u32.wrap x
abbrev wu16 (x : Int) : Int := IntKind.u16.wrap x
abbrev w16 (x : Int) : Int := IntKind.i16.wrap x
abbrev w8 (x : Int) : Int := IntKind.i8.wrap x

theorem hmix : Tryd.prog.follows .mixedOrders = true := by kernel_rfl

def T : Nat → Option TI
  | 2 => some ⟨(some (.int .i64)), 1, 8, false, [], 0, .int .i64 0, (some .i64), false, (0, 0)⟩
  | 3 => some ⟨(some (.int .i64)), 1, 8, false, [], 0, .int .i64 0, (some .i64), false, (0, 0)⟩
  | 4 => some ⟨(some .bool), 1, 1, false, [], 0, .bool false, none, false, (0, 0)⟩
  | 5 => some ⟨(some (.int .u8)), 1, 1, false, [], 0, .int .u8 0, (some .u8), false, (0, 0)⟩
  | 6 => some ⟨(some (.int .u8)), 1, 1, false, [], 0, .int .u8 0, (some .u8), false, (0, 0)⟩
  | 7 => some ⟨(some ty_BoundsErrorCode__), 4, 24, true, [(0, 1, false), (1, 1, false), (2, 1, false), (3, 1, false)], 0, .agg #[.int .i64 0, .int .i64 0, .bool false, .int .u8 0], none, false, (0, 0)⟩
  | 8 => some ⟨(some ty_boundsError), 4, 24, true, [(0, 1, false), (1, 1, false), (2, 1, false), (3, 1, false)], 0, .agg #[.int .i64 0, .int .i64 0, .bool false, .int .u8 0], none, false, (0, 0)⟩
  | 9 => some ⟨(some .str), 1, 16, false, [], 0, .string ⟨#[]⟩, none, true, (0, 0)⟩
  | 10 => some ⟨(some .str), 1, 16, false, [], 0, .string ⟨#[]⟩, none, true, (0, 0)⟩
  | 11 => some ⟨(some .str), 1, 16, false, [], 0, .string ⟨#[]⟩, none, true, (0, 0)⟩
  | 21 => some ⟨(some (.int .i32)), 1, 4, false, [], 0, .int .i32 0, (some .i32), false, (0, 0)⟩
  | 22 => some ⟨(some ty_struct___Durable_string__Pending_string__Count_int__), 3, 40, true, [(0, 1, false), (1, 1, false), (2, 1, false)], 0, .agg #[.string ⟨#[]⟩, .string ⟨#[]⟩, .int .i64 0], none, false, (0, 0)⟩
  | 23 => some ⟨(some ty_Log), 3, 40, true, [(0, 1, false), (1, 1, false), (2, 1, false)], 0, .agg #[.string ⟨#[]⟩, .string ⟨#[]⟩, .int .i64 0], none, false, (0, 0)⟩
  | 27 => some ⟨(some ty_Log), 3, 40, true, [(0, 1, false), (1, 1, false), (2, 1, false)], 0, .agg #[.string ⟨#[]⟩, .string ⟨#[]⟩, .int .i64 0], none, false, (0, 0)⟩
  | 30 => some ⟨(some (.sl (.int .u8))), 1, 24, false, [], 5, .slice none 0 0, none, false, (0, 0)⟩
  | 35 => some ⟨(some (.sl ty_LogRecord)), 1, 24, false, [], 39, .slice none 0 0, none, false, (0, 0)⟩
  | 38 => some ⟨(some ty_struct___Command_string__Reply_string__), 2, 32, true, [(0, 1, false), (1, 1, false)], 0, .agg #[.string ⟨#[]⟩, .string ⟨#[]⟩], none, false, (0, 0)⟩
  | 39 => some ⟨(some ty_LogRecord), 2, 32, true, [(0, 1, false), (1, 1, false)], 0, .agg #[.string ⟨#[]⟩, .string ⟨#[]⟩], none, false, (0, 0)⟩
  | 41 => some ⟨(some (.sl ty_Condition)), 1, 24, false, [], 50, .slice none 0 0, none, false, (0, 0)⟩
  | 44 => some ⟨(some (.sl (.sl (.int .i64)))), 1, 24, false, [], 48, .slice none 0 0, none, false, (0, 0)⟩
  | 48 => some ⟨(some (.sl (.int .i64))), 1, 24, false, [], 3, .slice none 0 0, none, false, (0, 0)⟩
  | 49 => some ⟨(some ty_struct___Number_int__What_string__Every_int__Last_int__Grade_int__), 5, 48, true, [(0, 1, false), (1, 1, false), (2, 1, false), (3, 1, false), (4, 1, false)], 0, .agg #[.int .i64 0, .string ⟨#[]⟩, .int .i64 0, .int .i64 0, .int .i64 0], none, false, (0, 0)⟩
  | 50 => some ⟨(some ty_Condition), 5, 48, true, [(0, 1, false), (1, 1, false), (2, 1, false), (3, 1, false), (4, 1, false)], 0, .agg #[.int .i64 0, .string ⟨#[]⟩, .int .i64 0, .int .i64 0, .int .i64 0], none, false, (0, 0)⟩
  | 62 => some ⟨(some ty_struct___Day_int__Ups_int__Downs_int__Hours_int__Stops_int__Reason_string__), 6, 56, true, [(0, 1, false), (1, 1, false), (2, 1, false), (3, 1, false), (4, 1, false), (5, 1, false)], 0, .agg #[.int .i64 0, .int .i64 0, .int .i64 0, .int .i64 0, .int .i64 0, .string ⟨#[]⟩], none, false, (0, 0)⟩
  | 63 => some ⟨(some ty_DayRow), 6, 56, true, [(0, 1, false), (1, 1, false), (2, 1, false), (3, 1, false), (4, 1, false), (5, 1, false)], 0, .agg #[.int .i64 0, .int .i64 0, .int .i64 0, .int .i64 0, .int .i64 0, .string ⟨#[]⟩], none, false, (0, 0)⟩
  | 72 => some ⟨(some (.sl ty_DayRow)), 1, 24, false, [], 63, .slice none 0 0, none, false, (0, 0)⟩
  | 79 => some ⟨(some (.int .u64)), 1, 8, false, [], 0, .int .u64 0, (some .u64), false, (0, 0)⟩
  | 80 => some ⟨(some ty_struct___code___uint8__at_int__seed_uint64__), 3, 40, true, [(0, 1, false), (1, 1, false), (2, 1, false)], 0, .agg #[.slice none 0 0, .int .i64 0, .int .u64 0], none, false, (0, 0)⟩
  | 81 => some ⟨(some ty_l1Cur), 3, 40, true, [(0, 1, false), (1, 1, false), (2, 1, false)], 0, .agg #[.slice none 0 0, .int .i64 0, .int .u64 0], none, false, (0, 0)⟩
  | 106 => some ⟨(some (.sl .str)), 1, 24, false, [], 9, .slice none 0 0, none, false, (0, 0)⟩
  | 122 => some ⟨(some (.int .u64)), 1, 8, false, [], 0, .int .u64 0, (some .u64), false, (0, 0)⟩
  | 141 => some ⟨(some (.int .i64)), 1, 8, false, [], 0, .int .i64 0, (some .i64), false, (0, 0)⟩
  | 148 => some ⟨(some (.int .u32)), 1, 4, false, [], 0, .int .u32 0, (some .u32), false, (0, 0)⟩
  | 158 => some ⟨(some (.int .u64)), 1, 8, false, [], 0, .int .u64 0, (some .u64), false, (0, 0)⟩
  | 165 => some ⟨none, 24, 24, true, [], 0, .agg #[.int .u8 0, .int .u8 0, .int .u8 0, .int .u8 0, .int .u8 0, .int .u8 0, .int .u8 0, .int .u8 0, .int .u8 0, .int .u8 0, .int .u8 0, .int .u8 0, .int .u8 0, .int .u8 0, .int .u8 0, .int .u8 0, .int .u8 0, .int .u8 0, .int .u8 0, .int .u8 0, .int .u8 0, .int .u8 0, .int .u8 0, .int .u8 0], none, false, (24, 5)⟩
  | 170 => some ⟨(some (.int .i64)), 1, 8, false, [], 0, .int .i64 0, (some .i64), false, (0, 0)⟩
  | 183 => some ⟨none, 20, 160, true, [], 0, .agg #[.int .u64 0, .int .u64 0, .int .u64 0, .int .u64 0, .int .u64 0, .int .u64 0, .int .u64 0, .int .u64 0, .int .u64 0, .int .u64 0, .int .u64 0, .int .u64 0, .int .u64 0, .int .u64 0, .int .u64 0, .int .u64 0, .int .u64 0, .int .u64 0, .int .u64 0, .int .u64 0], none, false, (20, 79)⟩
  | 184 => some ⟨none, 65, 65, true, [], 0, .agg #[.int .u8 0, .int .u8 0, .int .u8 0, .int .u8 0, .int .u8 0, .int .u8 0, .int .u8 0, .int .u8 0, .int .u8 0, .int .u8 0, .int .u8 0, .int .u8 0, .int .u8 0, .int .u8 0, .int .u8 0, .int .u8 0, .int .u8 0, .int .u8 0, .int .u8 0, .int .u8 0, .int .u8 0, .int .u8 0, .int .u8 0, .int .u8 0, .int .u8 0, .int .u8 0, .int .u8 0, .int .u8 0, .int .u8 0, .int .u8 0, .int .u8 0, .int .u8 0, .int .u8 0, .int .u8 0, .int .u8 0, .int .u8 0, .int .u8 0, .int .u8 0, .int .u8 0, .int .u8 0, .int .u8 0, .int .u8 0, .int .u8 0, .int .u8 0, .int .u8 0, .int .u8 0, .int .u8 0, .int .u8 0, .int .u8 0, .int .u8 0, .int .u8 0, .int .u8 0, .int .u8 0, .int .u8 0, .int .u8 0, .int .u8 0, .int .u8 0, .int .u8 0, .int .u8 0, .int .u8 0, .int .u8 0, .int .u8 0, .int .u8 0, .int .u8 0, .int .u8 0], none, false, (65, 5)⟩
  | 195 => some ⟨(some ty_struct___s_string__), 1, 16, true, [(0, 1, false)], 0, .agg #[.string ⟨#[]⟩], none, false, (0, 0)⟩
  | 196 => some ⟨(some ty_errorString), 1, 16, true, [(0, 1, false)], 0, .agg #[.string ⟨#[]⟩], none, false, (0, 0)⟩
  | 198 => some ⟨(some ty_struct___lo_uint8__hi_uint8__), 2, 2, true, [(0, 1, false), (1, 1, false)], 0, .agg #[.int .u8 0, .int .u8 0], none, false, (0, 0)⟩
  | 199 => some ⟨(some ty_acceptRange), 2, 2, true, [(0, 1, false), (1, 1, false)], 0, .agg #[.int .u8 0, .int .u8 0], none, false, (0, 0)⟩
  | 200 => some ⟨none, 32, 32, true, [], 0, .agg #[.int .u8 0, .int .u8 0, .int .u8 0, .int .u8 0, .int .u8 0, .int .u8 0, .int .u8 0, .int .u8 0, .int .u8 0, .int .u8 0, .int .u8 0, .int .u8 0, .int .u8 0, .int .u8 0, .int .u8 0, .int .u8 0, .int .u8 0, .int .u8 0, .int .u8 0, .int .u8 0, .int .u8 0, .int .u8 0, .int .u8 0, .int .u8 0, .int .u8 0, .int .u8 0, .int .u8 0, .int .u8 0, .int .u8 0, .int .u8 0, .int .u8 0, .int .u8 0], none, false, (16, 199)⟩
  | 207 => some ⟨none, 32, 32, true, [], 0, .agg #[.int .u8 0, .int .u8 0, .int .u8 0, .int .u8 0, .int .u8 0, .int .u8 0, .int .u8 0, .int .u8 0, .int .u8 0, .int .u8 0, .int .u8 0, .int .u8 0, .int .u8 0, .int .u8 0, .int .u8 0, .int .u8 0, .int .u8 0, .int .u8 0, .int .u8 0, .int .u8 0, .int .u8 0, .int .u8 0, .int .u8 0, .int .u8 0, .int .u8 0, .int .u8 0, .int .u8 0, .int .u8 0, .int .u8 0, .int .u8 0, .int .u8 0, .int .u8 0], none, false, (32, 5)⟩
  | 208 => some ⟨none, 64, 64, true, [], 0, .agg #[.int .u8 0, .int .u8 0, .int .u8 0, .int .u8 0, .int .u8 0, .int .u8 0, .int .u8 0, .int .u8 0, .int .u8 0, .int .u8 0, .int .u8 0, .int .u8 0, .int .u8 0, .int .u8 0, .int .u8 0, .int .u8 0, .int .u8 0, .int .u8 0, .int .u8 0, .int .u8 0, .int .u8 0, .int .u8 0, .int .u8 0, .int .u8 0, .int .u8 0, .int .u8 0, .int .u8 0, .int .u8 0, .int .u8 0, .int .u8 0, .int .u8 0, .int .u8 0, .int .u8 0, .int .u8 0, .int .u8 0, .int .u8 0, .int .u8 0, .int .u8 0, .int .u8 0, .int .u8 0, .int .u8 0, .int .u8 0, .int .u8 0, .int .u8 0, .int .u8 0, .int .u8 0, .int .u8 0, .int .u8 0, .int .u8 0, .int .u8 0, .int .u8 0, .int .u8 0, .int .u8 0, .int .u8 0, .int .u8 0, .int .u8 0, .int .u8 0, .int .u8 0, .int .u8 0, .int .u8 0, .int .u8 0, .int .u8 0, .int .u8 0, .int .u8 0], none, false, (64, 5)⟩
  | 217 => some ⟨(some (.int .u8)), 1, 1, false, [], 0, .int .u8 0, (some .u8), false, (0, 0)⟩
  | 218 => some ⟨(some (.int .u8)), 1, 1, false, [], 0, .int .u8 0, (some .u8), false, (0, 0)⟩
  | 220 => some ⟨(some (.int .i32)), 1, 4, false, [], 0, .int .i32 0, (some .i32), false, (0, 0)⟩
  | 221 => some ⟨(some (.int .i32)), 1, 4, false, [], 0, .int .i32 0, (some .i32), false, (0, 0)⟩
  | _ => none

theorem tiok_2 : TIok Tryd.prog 2 ⟨(some (.int .i64)), 1, 8, false, [], 0, .int .i64 0, (some .i64), false, (0, 0)⟩ := tiok_of (by kernel_rfl) (by kernel_rfl) (by kernel_rfl)
theorem tiok_3 : TIok Tryd.prog 3 ⟨(some (.int .i64)), 1, 8, false, [], 0, .int .i64 0, (some .i64), false, (0, 0)⟩ := tiok_of (by kernel_rfl) (by kernel_rfl) (by kernel_rfl)
theorem tiok_4 : TIok Tryd.prog 4 ⟨(some .bool), 1, 1, false, [], 0, .bool false, none, false, (0, 0)⟩ := tiok_of (by kernel_rfl) (by kernel_rfl) (by kernel_rfl)
theorem tiok_5 : TIok Tryd.prog 5 ⟨(some (.int .u8)), 1, 1, false, [], 0, .int .u8 0, (some .u8), false, (0, 0)⟩ := tiok_of (by kernel_rfl) (by kernel_rfl) (by kernel_rfl)
theorem tiok_6 : TIok Tryd.prog 6 ⟨(some (.int .u8)), 1, 1, false, [], 0, .int .u8 0, (some .u8), false, (0, 0)⟩ := tiok_of (by kernel_rfl) (by kernel_rfl) (by kernel_rfl)
theorem tiok_7 : TIok Tryd.prog 7 ⟨(some ty_BoundsErrorCode__), 4, 24, true, [(0, 1, false), (1, 1, false), (2, 1, false), (3, 1, false)], 0, .agg #[.int .i64 0, .int .i64 0, .bool false, .int .u8 0], none, false, (0, 0)⟩ := tiok_of (by kernel_rfl) (by kernel_rfl) (by kernel_rfl)
theorem tiok_8 : TIok Tryd.prog 8 ⟨(some ty_boundsError), 4, 24, true, [(0, 1, false), (1, 1, false), (2, 1, false), (3, 1, false)], 0, .agg #[.int .i64 0, .int .i64 0, .bool false, .int .u8 0], none, false, (0, 0)⟩ := tiok_of (by kernel_rfl) (by kernel_rfl) (by kernel_rfl)
theorem tiok_9 : TIok Tryd.prog 9 ⟨(some .str), 1, 16, false, [], 0, .string ⟨#[]⟩, none, true, (0, 0)⟩ := tiok_of (by kernel_rfl) (by kernel_rfl) (by kernel_rfl)
theorem tiok_10 : TIok Tryd.prog 10 ⟨(some .str), 1, 16, false, [], 0, .string ⟨#[]⟩, none, true, (0, 0)⟩ := tiok_of (by kernel_rfl) (by kernel_rfl) (by kernel_rfl)
theorem tiok_11 : TIok Tryd.prog 11 ⟨(some .str), 1, 16, false, [], 0, .string ⟨#[]⟩, none, true, (0, 0)⟩ := tiok_of (by kernel_rfl) (by kernel_rfl) (by kernel_rfl)
theorem tiok_21 : TIok Tryd.prog 21 ⟨(some (.int .i32)), 1, 4, false, [], 0, .int .i32 0, (some .i32), false, (0, 0)⟩ := tiok_of (by kernel_rfl) (by kernel_rfl) (by kernel_rfl)
theorem tiok_22 : TIok Tryd.prog 22 ⟨(some ty_struct___Durable_string__Pending_string__Count_int__), 3, 40, true, [(0, 1, false), (1, 1, false), (2, 1, false)], 0, .agg #[.string ⟨#[]⟩, .string ⟨#[]⟩, .int .i64 0], none, false, (0, 0)⟩ := tiok_of (by kernel_rfl) (by kernel_rfl) (by kernel_rfl)
theorem tiok_23 : TIok Tryd.prog 23 ⟨(some ty_Log), 3, 40, true, [(0, 1, false), (1, 1, false), (2, 1, false)], 0, .agg #[.string ⟨#[]⟩, .string ⟨#[]⟩, .int .i64 0], none, false, (0, 0)⟩ := tiok_of (by kernel_rfl) (by kernel_rfl) (by kernel_rfl)
theorem tiok_27 : TIok Tryd.prog 27 ⟨(some ty_Log), 3, 40, true, [(0, 1, false), (1, 1, false), (2, 1, false)], 0, .agg #[.string ⟨#[]⟩, .string ⟨#[]⟩, .int .i64 0], none, false, (0, 0)⟩ := tiok_of (by kernel_rfl) (by kernel_rfl) (by kernel_rfl)
theorem tiok_30 : TIok Tryd.prog 30 ⟨(some (.sl (.int .u8))), 1, 24, false, [], 5, .slice none 0 0, none, false, (0, 0)⟩ := tiok_of (by kernel_rfl) (by kernel_rfl) (by kernel_rfl)
theorem tiok_35 : TIok Tryd.prog 35 ⟨(some (.sl ty_LogRecord)), 1, 24, false, [], 39, .slice none 0 0, none, false, (0, 0)⟩ := tiok_of (by kernel_rfl) (by kernel_rfl) (by kernel_rfl)
theorem tiok_38 : TIok Tryd.prog 38 ⟨(some ty_struct___Command_string__Reply_string__), 2, 32, true, [(0, 1, false), (1, 1, false)], 0, .agg #[.string ⟨#[]⟩, .string ⟨#[]⟩], none, false, (0, 0)⟩ := tiok_of (by kernel_rfl) (by kernel_rfl) (by kernel_rfl)
theorem tiok_39 : TIok Tryd.prog 39 ⟨(some ty_LogRecord), 2, 32, true, [(0, 1, false), (1, 1, false)], 0, .agg #[.string ⟨#[]⟩, .string ⟨#[]⟩], none, false, (0, 0)⟩ := tiok_of (by kernel_rfl) (by kernel_rfl) (by kernel_rfl)
theorem tiok_41 : TIok Tryd.prog 41 ⟨(some (.sl ty_Condition)), 1, 24, false, [], 50, .slice none 0 0, none, false, (0, 0)⟩ := tiok_of (by kernel_rfl) (by kernel_rfl) (by kernel_rfl)
theorem tiok_44 : TIok Tryd.prog 44 ⟨(some (.sl (.sl (.int .i64)))), 1, 24, false, [], 48, .slice none 0 0, none, false, (0, 0)⟩ := tiok_of (by kernel_rfl) (by kernel_rfl) (by kernel_rfl)
theorem tiok_48 : TIok Tryd.prog 48 ⟨(some (.sl (.int .i64))), 1, 24, false, [], 3, .slice none 0 0, none, false, (0, 0)⟩ := tiok_of (by kernel_rfl) (by kernel_rfl) (by kernel_rfl)
theorem tiok_49 : TIok Tryd.prog 49 ⟨(some ty_struct___Number_int__What_string__Every_int__Last_int__Grade_int__), 5, 48, true, [(0, 1, false), (1, 1, false), (2, 1, false), (3, 1, false), (4, 1, false)], 0, .agg #[.int .i64 0, .string ⟨#[]⟩, .int .i64 0, .int .i64 0, .int .i64 0], none, false, (0, 0)⟩ := tiok_of (by kernel_rfl) (by kernel_rfl) (by kernel_rfl)
theorem tiok_50 : TIok Tryd.prog 50 ⟨(some ty_Condition), 5, 48, true, [(0, 1, false), (1, 1, false), (2, 1, false), (3, 1, false), (4, 1, false)], 0, .agg #[.int .i64 0, .string ⟨#[]⟩, .int .i64 0, .int .i64 0, .int .i64 0], none, false, (0, 0)⟩ := tiok_of (by kernel_rfl) (by kernel_rfl) (by kernel_rfl)
theorem tiok_62 : TIok Tryd.prog 62 ⟨(some ty_struct___Day_int__Ups_int__Downs_int__Hours_int__Stops_int__Reason_string__), 6, 56, true, [(0, 1, false), (1, 1, false), (2, 1, false), (3, 1, false), (4, 1, false), (5, 1, false)], 0, .agg #[.int .i64 0, .int .i64 0, .int .i64 0, .int .i64 0, .int .i64 0, .string ⟨#[]⟩], none, false, (0, 0)⟩ := tiok_of (by kernel_rfl) (by kernel_rfl) (by kernel_rfl)
theorem tiok_63 : TIok Tryd.prog 63 ⟨(some ty_DayRow), 6, 56, true, [(0, 1, false), (1, 1, false), (2, 1, false), (3, 1, false), (4, 1, false), (5, 1, false)], 0, .agg #[.int .i64 0, .int .i64 0, .int .i64 0, .int .i64 0, .int .i64 0, .string ⟨#[]⟩], none, false, (0, 0)⟩ := tiok_of (by kernel_rfl) (by kernel_rfl) (by kernel_rfl)
theorem tiok_72 : TIok Tryd.prog 72 ⟨(some (.sl ty_DayRow)), 1, 24, false, [], 63, .slice none 0 0, none, false, (0, 0)⟩ := tiok_of (by kernel_rfl) (by kernel_rfl) (by kernel_rfl)
theorem tiok_79 : TIok Tryd.prog 79 ⟨(some (.int .u64)), 1, 8, false, [], 0, .int .u64 0, (some .u64), false, (0, 0)⟩ := tiok_of (by kernel_rfl) (by kernel_rfl) (by kernel_rfl)
theorem tiok_80 : TIok Tryd.prog 80 ⟨(some ty_struct___code___uint8__at_int__seed_uint64__), 3, 40, true, [(0, 1, false), (1, 1, false), (2, 1, false)], 0, .agg #[.slice none 0 0, .int .i64 0, .int .u64 0], none, false, (0, 0)⟩ := tiok_of (by kernel_rfl) (by kernel_rfl) (by kernel_rfl)
theorem tiok_81 : TIok Tryd.prog 81 ⟨(some ty_l1Cur), 3, 40, true, [(0, 1, false), (1, 1, false), (2, 1, false)], 0, .agg #[.slice none 0 0, .int .i64 0, .int .u64 0], none, false, (0, 0)⟩ := tiok_of (by kernel_rfl) (by kernel_rfl) (by kernel_rfl)
theorem tiok_106 : TIok Tryd.prog 106 ⟨(some (.sl .str)), 1, 24, false, [], 9, .slice none 0 0, none, false, (0, 0)⟩ := tiok_of (by kernel_rfl) (by kernel_rfl) (by kernel_rfl)
theorem tiok_122 : TIok Tryd.prog 122 ⟨(some (.int .u64)), 1, 8, false, [], 0, .int .u64 0, (some .u64), false, (0, 0)⟩ := tiok_of (by kernel_rfl) (by kernel_rfl) (by kernel_rfl)
theorem tiok_141 : TIok Tryd.prog 141 ⟨(some (.int .i64)), 1, 8, false, [], 0, .int .i64 0, (some .i64), false, (0, 0)⟩ := tiok_of (by kernel_rfl) (by kernel_rfl) (by kernel_rfl)
theorem tiok_148 : TIok Tryd.prog 148 ⟨(some (.int .u32)), 1, 4, false, [], 0, .int .u32 0, (some .u32), false, (0, 0)⟩ := tiok_of (by kernel_rfl) (by kernel_rfl) (by kernel_rfl)
theorem tiok_158 : TIok Tryd.prog 158 ⟨(some (.int .u64)), 1, 8, false, [], 0, .int .u64 0, (some .u64), false, (0, 0)⟩ := tiok_of (by kernel_rfl) (by kernel_rfl) (by kernel_rfl)
theorem tiok_165 : TIok Tryd.prog 165 ⟨none, 24, 24, true, [], 0, .agg #[.int .u8 0, .int .u8 0, .int .u8 0, .int .u8 0, .int .u8 0, .int .u8 0, .int .u8 0, .int .u8 0, .int .u8 0, .int .u8 0, .int .u8 0, .int .u8 0, .int .u8 0, .int .u8 0, .int .u8 0, .int .u8 0, .int .u8 0, .int .u8 0, .int .u8 0, .int .u8 0, .int .u8 0, .int .u8 0, .int .u8 0, .int .u8 0], none, false, (24, 5)⟩ := tiok_of (by kernel_rfl) (by kernel_rfl) (by kernel_rfl)
theorem tiok_170 : TIok Tryd.prog 170 ⟨(some (.int .i64)), 1, 8, false, [], 0, .int .i64 0, (some .i64), false, (0, 0)⟩ := tiok_of (by kernel_rfl) (by kernel_rfl) (by kernel_rfl)
theorem tiok_183 : TIok Tryd.prog 183 ⟨none, 20, 160, true, [], 0, .agg #[.int .u64 0, .int .u64 0, .int .u64 0, .int .u64 0, .int .u64 0, .int .u64 0, .int .u64 0, .int .u64 0, .int .u64 0, .int .u64 0, .int .u64 0, .int .u64 0, .int .u64 0, .int .u64 0, .int .u64 0, .int .u64 0, .int .u64 0, .int .u64 0, .int .u64 0, .int .u64 0], none, false, (20, 79)⟩ := tiok_of (by kernel_rfl) (by kernel_rfl) (by kernel_rfl)
theorem tiok_184 : TIok Tryd.prog 184 ⟨none, 65, 65, true, [], 0, .agg #[.int .u8 0, .int .u8 0, .int .u8 0, .int .u8 0, .int .u8 0, .int .u8 0, .int .u8 0, .int .u8 0, .int .u8 0, .int .u8 0, .int .u8 0, .int .u8 0, .int .u8 0, .int .u8 0, .int .u8 0, .int .u8 0, .int .u8 0, .int .u8 0, .int .u8 0, .int .u8 0, .int .u8 0, .int .u8 0, .int .u8 0, .int .u8 0, .int .u8 0, .int .u8 0, .int .u8 0, .int .u8 0, .int .u8 0, .int .u8 0, .int .u8 0, .int .u8 0, .int .u8 0, .int .u8 0, .int .u8 0, .int .u8 0, .int .u8 0, .int .u8 0, .int .u8 0, .int .u8 0, .int .u8 0, .int .u8 0, .int .u8 0, .int .u8 0, .int .u8 0, .int .u8 0, .int .u8 0, .int .u8 0, .int .u8 0, .int .u8 0, .int .u8 0, .int .u8 0, .int .u8 0, .int .u8 0, .int .u8 0, .int .u8 0, .int .u8 0, .int .u8 0, .int .u8 0, .int .u8 0, .int .u8 0, .int .u8 0, .int .u8 0, .int .u8 0, .int .u8 0], none, false, (65, 5)⟩ := tiok_of (by kernel_rfl) (by kernel_rfl) (by kernel_rfl)
theorem tiok_195 : TIok Tryd.prog 195 ⟨(some ty_struct___s_string__), 1, 16, true, [(0, 1, false)], 0, .agg #[.string ⟨#[]⟩], none, false, (0, 0)⟩ := tiok_of (by kernel_rfl) (by kernel_rfl) (by kernel_rfl)
theorem tiok_196 : TIok Tryd.prog 196 ⟨(some ty_errorString), 1, 16, true, [(0, 1, false)], 0, .agg #[.string ⟨#[]⟩], none, false, (0, 0)⟩ := tiok_of (by kernel_rfl) (by kernel_rfl) (by kernel_rfl)
theorem tiok_198 : TIok Tryd.prog 198 ⟨(some ty_struct___lo_uint8__hi_uint8__), 2, 2, true, [(0, 1, false), (1, 1, false)], 0, .agg #[.int .u8 0, .int .u8 0], none, false, (0, 0)⟩ := tiok_of (by kernel_rfl) (by kernel_rfl) (by kernel_rfl)
theorem tiok_199 : TIok Tryd.prog 199 ⟨(some ty_acceptRange), 2, 2, true, [(0, 1, false), (1, 1, false)], 0, .agg #[.int .u8 0, .int .u8 0], none, false, (0, 0)⟩ := tiok_of (by kernel_rfl) (by kernel_rfl) (by kernel_rfl)
theorem tiok_200 : TIok Tryd.prog 200 ⟨none, 32, 32, true, [], 0, .agg #[.int .u8 0, .int .u8 0, .int .u8 0, .int .u8 0, .int .u8 0, .int .u8 0, .int .u8 0, .int .u8 0, .int .u8 0, .int .u8 0, .int .u8 0, .int .u8 0, .int .u8 0, .int .u8 0, .int .u8 0, .int .u8 0, .int .u8 0, .int .u8 0, .int .u8 0, .int .u8 0, .int .u8 0, .int .u8 0, .int .u8 0, .int .u8 0, .int .u8 0, .int .u8 0, .int .u8 0, .int .u8 0, .int .u8 0, .int .u8 0, .int .u8 0, .int .u8 0], none, false, (16, 199)⟩ := tiok_of (by kernel_rfl) (by kernel_rfl) (by kernel_rfl)
theorem tiok_207 : TIok Tryd.prog 207 ⟨none, 32, 32, true, [], 0, .agg #[.int .u8 0, .int .u8 0, .int .u8 0, .int .u8 0, .int .u8 0, .int .u8 0, .int .u8 0, .int .u8 0, .int .u8 0, .int .u8 0, .int .u8 0, .int .u8 0, .int .u8 0, .int .u8 0, .int .u8 0, .int .u8 0, .int .u8 0, .int .u8 0, .int .u8 0, .int .u8 0, .int .u8 0, .int .u8 0, .int .u8 0, .int .u8 0, .int .u8 0, .int .u8 0, .int .u8 0, .int .u8 0, .int .u8 0, .int .u8 0, .int .u8 0, .int .u8 0], none, false, (32, 5)⟩ := tiok_of (by kernel_rfl) (by kernel_rfl) (by kernel_rfl)
theorem tiok_208 : TIok Tryd.prog 208 ⟨none, 64, 64, true, [], 0, .agg #[.int .u8 0, .int .u8 0, .int .u8 0, .int .u8 0, .int .u8 0, .int .u8 0, .int .u8 0, .int .u8 0, .int .u8 0, .int .u8 0, .int .u8 0, .int .u8 0, .int .u8 0, .int .u8 0, .int .u8 0, .int .u8 0, .int .u8 0, .int .u8 0, .int .u8 0, .int .u8 0, .int .u8 0, .int .u8 0, .int .u8 0, .int .u8 0, .int .u8 0, .int .u8 0, .int .u8 0, .int .u8 0, .int .u8 0, .int .u8 0, .int .u8 0, .int .u8 0, .int .u8 0, .int .u8 0, .int .u8 0, .int .u8 0, .int .u8 0, .int .u8 0, .int .u8 0, .int .u8 0, .int .u8 0, .int .u8 0, .int .u8 0, .int .u8 0, .int .u8 0, .int .u8 0, .int .u8 0, .int .u8 0, .int .u8 0, .int .u8 0, .int .u8 0, .int .u8 0, .int .u8 0, .int .u8 0, .int .u8 0, .int .u8 0, .int .u8 0, .int .u8 0, .int .u8 0, .int .u8 0, .int .u8 0, .int .u8 0, .int .u8 0, .int .u8 0], none, false, (64, 5)⟩ := tiok_of (by kernel_rfl) (by kernel_rfl) (by kernel_rfl)
theorem tiok_217 : TIok Tryd.prog 217 ⟨(some (.int .u8)), 1, 1, false, [], 0, .int .u8 0, (some .u8), false, (0, 0)⟩ := tiok_of (by kernel_rfl) (by kernel_rfl) (by kernel_rfl)
theorem tiok_218 : TIok Tryd.prog 218 ⟨(some (.int .u8)), 1, 1, false, [], 0, .int .u8 0, (some .u8), false, (0, 0)⟩ := tiok_of (by kernel_rfl) (by kernel_rfl) (by kernel_rfl)
theorem tiok_220 : TIok Tryd.prog 220 ⟨(some (.int .i32)), 1, 4, false, [], 0, .int .i32 0, (some .i32), false, (0, 0)⟩ := tiok_of (by kernel_rfl) (by kernel_rfl) (by kernel_rfl)
theorem tiok_221 : TIok Tryd.prog 221 ⟨(some (.int .i32)), 1, 4, false, [], 0, .int .i32 0, (some .i32), false, (0, 0)⟩ := tiok_of (by kernel_rfl) (by kernel_rfl) (by kernel_rfl)

theorem tok : TOk Tryd.prog T := fun t i h => by
  unfold T at h
  split at h
  · cases h; exact tiok_2
  · cases h; exact tiok_3
  · cases h; exact tiok_4
  · cases h; exact tiok_5
  · cases h; exact tiok_6
  · cases h; exact tiok_7
  · cases h; exact tiok_8
  · cases h; exact tiok_9
  · cases h; exact tiok_10
  · cases h; exact tiok_11
  · cases h; exact tiok_21
  · cases h; exact tiok_22
  · cases h; exact tiok_23
  · cases h; exact tiok_27
  · cases h; exact tiok_30
  · cases h; exact tiok_35
  · cases h; exact tiok_38
  · cases h; exact tiok_39
  · cases h; exact tiok_41
  · cases h; exact tiok_44
  · cases h; exact tiok_48
  · cases h; exact tiok_49
  · cases h; exact tiok_50
  · cases h; exact tiok_62
  · cases h; exact tiok_63
  · cases h; exact tiok_72
  · cases h; exact tiok_79
  · cases h; exact tiok_80
  · cases h; exact tiok_81
  · cases h; exact tiok_106
  · cases h; exact tiok_122
  · cases h; exact tiok_141
  · cases h; exact tiok_148
  · cases h; exact tiok_158
  · cases h; exact tiok_165
  · cases h; exact tiok_170
  · cases h; exact tiok_183
  · cases h; exact tiok_184
  · cases h; exact tiok_195
  · cases h; exact tiok_196
  · cases h; exact tiok_198
  · cases h; exact tiok_199
  · cases h; exact tiok_200
  · cases h; exact tiok_207
  · cases h; exact tiok_208
  · cases h; exact tiok_217
  · cases h; exact tiok_218
  · cases h; exact tiok_220
  · cases h; exact tiok_221
  · cases h

theorem ent_3 : Enters Tryd.prog 3 := Tryd.call3
theorem ent_4 : Enters Tryd.prog 4 := Tryd.call4
theorem ent_5 : Enters Tryd.prog 5 := Tryd.call5
theorem ent_6 : Enters Tryd.prog 6 := Tryd.call6
theorem ent_7 : Enters Tryd.prog 7 := Tryd.call7
theorem ent_8 : Enters Tryd.prog 8 := Tryd.call8
theorem ent_9 : Enters Tryd.prog 9 := Tryd.call9
theorem ent_10 : Enters Tryd.prog 10 := Tryd.call10
theorem ent_11 : Enters Tryd.prog 11 := Tryd.call11
theorem ent_12 : Enters Tryd.prog 12 := Tryd.call12
theorem ent_13 : Enters Tryd.prog 13 := Tryd.call13
theorem ent_14 : Enters Tryd.prog 14 := Tryd.call14
theorem ent_15 : Enters Tryd.prog 15 := Tryd.call15
theorem ent_16 : Enters Tryd.prog 16 := Tryd.call16
theorem ent_17 : Enters Tryd.prog 17 := Tryd.call17
theorem ent_18 : Enters Tryd.prog 18 := Tryd.call18
theorem ent_19 : Enters Tryd.prog 19 := Tryd.call19
theorem ent_20 : Enters Tryd.prog 20 := Tryd.call20
theorem ent_21 : Enters Tryd.prog 21 := Tryd.call21
theorem ent_22 : Enters Tryd.prog 22 := Tryd.call22
theorem ent_23 : Enters Tryd.prog 23 := Tryd.call23
theorem ent_24 : Enters Tryd.prog 24 := Tryd.call24
theorem ent_25 : Enters Tryd.prog 25 := Tryd.call25
theorem ent_26 : Enters Tryd.prog 26 := Tryd.call26
theorem ent_27 : Enters Tryd.prog 27 := Tryd.call27
theorem ent_28 : Enters Tryd.prog 28 := Tryd.call28
theorem ent_29 : Enters Tryd.prog 29 := Tryd.call29
theorem ent_30 : Enters Tryd.prog 30 := Tryd.call30
theorem ent_31 : Enters Tryd.prog 31 := Tryd.call31
theorem ent_32 : Enters Tryd.prog 32 := Tryd.call32
theorem ent_33 : Enters Tryd.prog 33 := Tryd.call33
theorem ent_34 : Enters Tryd.prog 34 := Tryd.call34
theorem ent_35 : Enters Tryd.prog 35 := Tryd.call35
theorem ent_36 : Enters Tryd.prog 36 := Tryd.call36
theorem ent_37 : Enters Tryd.prog 37 := Tryd.call37
theorem ent_38 : Enters Tryd.prog 38 := Tryd.call38
theorem ent_39 : Enters Tryd.prog 39 := Tryd.call39
theorem ent_40 : Enters Tryd.prog 40 := Tryd.call40
theorem ent_41 : Enters Tryd.prog 41 := Tryd.call41
theorem ent_42 : Enters Tryd.prog 42 := Tryd.call42
theorem ent_43 : Enters Tryd.prog 43 := Tryd.call43
theorem ent_44 : Enters Tryd.prog 44 := Tryd.call44
theorem ent_45 : Enters Tryd.prog 45 := Tryd.call45
theorem ent_46 : Enters Tryd.prog 46 := Tryd.call46
theorem ent_47 : Enters Tryd.prog 47 := Tryd.call47
theorem ent_48 : Enters Tryd.prog 48 := Tryd.call48
theorem ent_49 : Enters Tryd.prog 49 := Tryd.call49
theorem ent_50 : Enters Tryd.prog 50 := Tryd.call50
theorem ent_51 : Enters Tryd.prog 51 := Tryd.call51
theorem ent_52 : Enters Tryd.prog 52 := Tryd.call52
theorem ent_53 : Enters Tryd.prog 53 := Tryd.call53
theorem ent_54 : Enters Tryd.prog 54 := Tryd.call54
theorem ent_55 : Enters Tryd.prog 55 := Tryd.call55
theorem ent_56 : Enters Tryd.prog 56 := Tryd.call56
theorem ent_57 : Enters Tryd.prog 57 := Tryd.call57
theorem ent_58 : Enters Tryd.prog 58 := Tryd.call58
theorem ent_59 : Enters Tryd.prog 59 := Tryd.call59
theorem ent_60 : Enters Tryd.prog 60 := Tryd.call60
theorem ent_61 : Enters Tryd.prog 61 := Tryd.call61
theorem ent_62 : Enters Tryd.prog 62 := Tryd.call62
theorem ent_63 : Enters Tryd.prog 63 := Tryd.call63
theorem ent_64 : Enters Tryd.prog 64 := Tryd.call64
theorem ent_65 : Enters Tryd.prog 65 := Tryd.call65
theorem ent_66 : Enters Tryd.prog 66 := Tryd.call66
theorem ent_67 : Enters Tryd.prog 67 := Tryd.call67
theorem ent_68 : Enters Tryd.prog 68 := Tryd.call68
theorem ent_69 : Enters Tryd.prog 69 := Tryd.call69
theorem ent_70 : Enters Tryd.prog 70 := Tryd.call70
theorem ent_71 : Enters Tryd.prog 71 := Tryd.call71
theorem ent_72 : Enters Tryd.prog 72 := Tryd.call72
theorem ent_73 : Enters Tryd.prog 73 := Tryd.call73
theorem ent_74 : Enters Tryd.prog 74 := Tryd.call74
theorem ent_75 : Enters Tryd.prog 75 := Tryd.call75
theorem ent_76 : Enters Tryd.prog 76 := Tryd.call76
theorem ent_77 : Enters Tryd.prog 77 := Tryd.call77
theorem ent_78 : Enters Tryd.prog 78 := Tryd.call78
theorem ent_79 : Enters Tryd.prog 79 := Tryd.call79
theorem ent_80 : Enters Tryd.prog 80 := Tryd.call80
theorem ent_81 : Enters Tryd.prog 81 := Tryd.call81
theorem ent_82 : Enters Tryd.prog 82 := Tryd.call82
theorem ent_83 : Enters Tryd.prog 83 := Tryd.call83
theorem ent_84 : Enters Tryd.prog 84 := Tryd.call84
theorem ent_85 : Enters Tryd.prog 85 := Tryd.call85
theorem ent_86 : Enters Tryd.prog 86 := Tryd.call86
theorem ent_87 : Enters Tryd.prog 87 := Tryd.call87
theorem ent_88 : Enters Tryd.prog 88 := Tryd.call88
theorem ent_89 : Enters Tryd.prog 89 := Tryd.call89
theorem ent_90 : Enters Tryd.prog 90 := Tryd.call90
theorem ent_91 : Enters Tryd.prog 91 := Tryd.call91
theorem ent_92 : Enters Tryd.prog 92 := Tryd.call92
theorem ent_93 : Enters Tryd.prog 93 := Tryd.call93
theorem ent_94 : Enters Tryd.prog 94 := Tryd.call94
theorem ent_95 : Enters Tryd.prog 95 := Tryd.call95
theorem ent_96 : Enters Tryd.prog 96 := Tryd.call96
theorem ent_97 : Enters Tryd.prog 97 := Tryd.call97
theorem ent_98 : Enters Tryd.prog 98 := Tryd.call98
theorem ent_99 : Enters Tryd.prog 99 := Tryd.call99
theorem ent_100 : Enters Tryd.prog 100 := Tryd.call100
theorem ent_101 : Enters Tryd.prog 101 := Tryd.call101
theorem ent_102 : Enters Tryd.prog 102 := Tryd.call102
theorem ent_103 : Enters Tryd.prog 103 := Tryd.call103
theorem ent_104 : Enters Tryd.prog 104 := Tryd.call104
theorem ent_105 : Enters Tryd.prog 105 := Tryd.call105
theorem ent_107 : Enters Tryd.prog 107 := Tryd.call107
theorem ent_108 : Enters Tryd.prog 108 := Tryd.call108
theorem ent_109 : Enters Tryd.prog 109 := Tryd.call109
theorem ent_110 : Enters Tryd.prog 110 := Tryd.call110
theorem ent_111 : Enters Tryd.prog 111 := Tryd.call111
theorem ent_112 : Enters Tryd.prog 112 := Tryd.call112
theorem ent_113 : Enters Tryd.prog 113 := Tryd.call113
theorem ent_114 : Enters Tryd.prog 114 := Tryd.call114
theorem ent_115 : Enters Tryd.prog 115 := Tryd.call115
theorem ent_116 : Enters Tryd.prog 116 := Tryd.call116
theorem ent_117 : Enters Tryd.prog 117 := Tryd.call117
theorem ent_118 : Enters Tryd.prog 118 := Tryd.call118
theorem ent_119 : Enters Tryd.prog 119 := Tryd.call119
theorem ent_120 : Enters Tryd.prog 120 := Tryd.call120
theorem ent_121 : Enters Tryd.prog 121 := Tryd.call121
theorem ent_122 : Enters Tryd.prog 122 := Tryd.call122
theorem ent_123 : Enters Tryd.prog 123 := Tryd.call123
theorem ent_124 : Enters Tryd.prog 124 := Tryd.call124
theorem ent_125 : Enters Tryd.prog 125 := Tryd.call125
theorem ent_126 : Enters Tryd.prog 126 := Tryd.call126
theorem ent_127 : Enters Tryd.prog 127 := Tryd.call127
theorem ent_128 : Enters Tryd.prog 128 := Tryd.call128
theorem ent_129 : Enters Tryd.prog 129 := Tryd.call129
theorem ent_130 : Enters Tryd.prog 130 := Tryd.call130
theorem ent_131 : Enters Tryd.prog 131 := Tryd.call131
theorem ent_132 : Enters Tryd.prog 132 := Tryd.call132
theorem ent_133 : Enters Tryd.prog 133 := Tryd.call133
theorem ent_134 : Enters Tryd.prog 134 := Tryd.call134
theorem ent_135 : Enters Tryd.prog 135 := Tryd.call135
theorem ent_136 : Enters Tryd.prog 136 := Tryd.call136
theorem ent_137 : Enters Tryd.prog 137 := Tryd.call137
theorem ent_138 : Enters Tryd.prog 138 := Tryd.call138
theorem ent_139 : Enters Tryd.prog 139 := Tryd.call139
theorem ent_140 : Enters Tryd.prog 140 := Tryd.call140
theorem ent_141 : Enters Tryd.prog 141 := Tryd.call141
theorem ent_142 : Enters Tryd.prog 142 := Tryd.call142
theorem ent_143 : Enters Tryd.prog 143 := Tryd.call143
theorem ent_144 : Enters Tryd.prog 144 := Tryd.call144
theorem ent_145 : Enters Tryd.prog 145 := Tryd.call145
theorem ent_146 : Enters Tryd.prog 146 := Tryd.call146
theorem ent_147 : Enters Tryd.prog 147 := Tryd.call147
theorem ent_148 : Enters Tryd.prog 148 := Tryd.call148
theorem ent_149 : Enters Tryd.prog 149 := Tryd.call149
theorem ent_150 : Enters Tryd.prog 150 := Tryd.call150
theorem ent_151 : Enters Tryd.prog 151 := Tryd.call151
theorem ent_152 : Enters Tryd.prog 152 := Tryd.call152
theorem ent_153 : Enters Tryd.prog 153 := Tryd.call153
theorem ent_154 : Enters Tryd.prog 154 := Tryd.call154
theorem ent_155 : Enters Tryd.prog 155 := Tryd.call155
theorem ent_156 : Enters Tryd.prog 156 := Tryd.call156
theorem ent_157 : Enters Tryd.prog 157 := Tryd.call157
theorem ent_158 : Enters Tryd.prog 158 := Tryd.call158
theorem ent_159 : Enters Tryd.prog 159 := Tryd.call159
theorem ent_160 : Enters Tryd.prog 160 := Tryd.call160
theorem ent_161 : Enters Tryd.prog 161 := Tryd.call161
theorem ent_163 : Enters Tryd.prog 163 := Tryd.call163
theorem ent_164 : Enters Tryd.prog 164 := Tryd.call164
theorem ent_165 : Enters Tryd.prog 165 := Tryd.call165
theorem ent_166 : Enters Tryd.prog 166 := Tryd.call166
theorem ent_167 : Enters Tryd.prog 167 := Tryd.call167
theorem ent_168 : Enters Tryd.prog 168 := Tryd.call168
theorem ent_169 : Enters Tryd.prog 169 := Tryd.call169
theorem ent_170 : Enters Tryd.prog 170 := Tryd.call170
theorem ent_171 : Enters Tryd.prog 171 := Tryd.call171
theorem ent_173 : Enters Tryd.prog 173 := Tryd.call173
theorem ent_174 : Enters Tryd.prog 174 := Tryd.call174
theorem ent_175 : Enters Tryd.prog 175 := Tryd.call175
theorem ent_176 : Enters Tryd.prog 176 := Tryd.call176
theorem ent_177 : Enters Tryd.prog 177 := Tryd.call177
theorem ent_178 : Enters Tryd.prog 178 := Tryd.call178
theorem ent_179 : Enters Tryd.prog 179 := Tryd.call179
theorem ent_180 : Enters Tryd.prog 180 := Tryd.call180
theorem ent_181 : Enters Tryd.prog 181 := Tryd.call181
theorem ent_183 : Enters Tryd.prog 183 := Tryd.call183
theorem ent_184 : Enters Tryd.prog 184 := Tryd.call184
theorem ent_185 : Enters Tryd.prog 185 := Tryd.call185
theorem ent_186 : Enters Tryd.prog 186 := Tryd.call186
theorem ent_187 : Enters Tryd.prog 187 := Tryd.call187
theorem ent_188 : Enters Tryd.prog 188 := Tryd.call188
theorem ent_189 : Enters Tryd.prog 189 := Tryd.call189
theorem ent_190 : Enters Tryd.prog 190 := Tryd.call190
theorem ent_191 : Enters Tryd.prog 191 := Tryd.call191
theorem ent_192 : Enters Tryd.prog 192 := Tryd.call192
theorem ent_193 : Enters Tryd.prog 193 := Tryd.call193
theorem ent_194 : Enters Tryd.prog 194 := Tryd.call194
theorem ent_195 : Enters Tryd.prog 195 := Tryd.call195
theorem ent_196 : Enters Tryd.prog 196 := Tryd.call196
theorem ent_197 : Enters Tryd.prog 197 := Tryd.call197
theorem ent_198 : Enters Tryd.prog 198 := Tryd.call198

def G0 : Env := env0 T
theorem G0_ok : EnvOk Tryd.prog G0 := env0_ok tok hmix
end Go.Proofs.YtppiaacfnoifkaaDoor
