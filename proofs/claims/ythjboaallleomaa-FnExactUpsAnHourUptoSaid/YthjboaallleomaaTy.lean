/-
  What is told of the types of this translation, each by a closed check; functions with a body are entered. Printed by a program.
-/
import Derived.Test.YthjboaallleomaaAe9
import Derived.Test.YthjboaallleomaaProg
namespace Go.Proofs.Ythjboaallleomaa
open Go.RowKit

theorem hmix : Try.prog.follows .mixedOrders = true := by kernel_rfl

def T : Nat → Option TI
  | 2 => some ⟨1, 8, false, [], 0, .int .i64 0, (some .i64), false⟩
  | 3 => some ⟨1, 8, false, [], 0, .int .i64 0, (some .i64), false⟩
  | 4 => some ⟨1, 1, false, [], 0, .bool false, none, false⟩
  | 5 => some ⟨1, 1, false, [], 0, .int .u8 0, (some .u8), false⟩
  | 6 => some ⟨1, 1, false, [], 0, .int .u8 0, (some .u8), false⟩
  | 7 => some ⟨4, 24, true, [(0, 1, false), (1, 1, false), (2, 1, false), (3, 1, false)], 0, .agg #[.int .i64 0, .int .i64 0, .bool false, .int .u8 0], none, false⟩
  | 8 => some ⟨4, 24, true, [(0, 1, false), (1, 1, false), (2, 1, false), (3, 1, false)], 0, .agg #[.int .i64 0, .int .i64 0, .bool false, .int .u8 0], none, false⟩
  | 9 => some ⟨1, 16, false, [], 0, .string ⟨#[]⟩, none, true⟩
  | 10 => some ⟨1, 16, false, [], 0, .string ⟨#[]⟩, none, true⟩
  | 11 => some ⟨1, 16, false, [], 0, .string ⟨#[]⟩, none, true⟩
  | 12 => some ⟨1, 8, false, [], 0, .int .u64 0, (some .u64), false⟩
  | 13 => some ⟨2, 24, true, [(0, 1, false), (1, 1, false)], 0, .agg #[.string ⟨#[]⟩, .int .u64 0], none, false⟩
  | 14 => some ⟨2, 24, true, [(0, 1, false), (1, 1, false)], 0, .agg #[.string ⟨#[]⟩, .int .u64 0], none, false⟩
  | 15 => some ⟨1, 8, false, [], 0, .pointer none, none, false⟩
  | 16 => some ⟨1, 8, false, [], 0, .pointer none, none, false⟩
  | 17 => some ⟨1, 8, false, [], 0, .pointer none, none, false⟩
  | 18 => some ⟨1, 8, true, [(0, 1, false)], 0, .agg #[.pointer none], none, false⟩
  | 19 => some ⟨1, 8, true, [(0, 1, false)], 0, .agg #[.pointer none], none, false⟩
  | 21 => some ⟨1, 4, false, [], 0, .int .i32 0, (some .i32), false⟩
  | 22 => some ⟨6, 56, true, [(0, 1, false), (1, 1, false), (2, 1, false), (3, 1, false), (4, 1, false), (5, 1, false)], 0, .agg #[.int .i64 0, .int .i64 0, .int .i64 0, .int .i64 0, .int .i64 0, .string ⟨#[]⟩], none, false⟩
  | 23 => some ⟨6, 56, true, [(0, 1, false), (1, 1, false), (2, 1, false), (3, 1, false), (4, 1, false), (5, 1, false)], 0, .agg #[.int .i64 0, .int .i64 0, .int .i64 0, .int .i64 0, .int .i64 0, .string ⟨#[]⟩], none, false⟩
  | 26 => some ⟨6, 56, true, [(0, 1, false), (1, 1, false), (2, 1, false), (3, 1, false), (4, 1, false), (5, 1, false)], 0, .agg #[.int .i64 0, .int .i64 0, .int .i64 0, .int .i64 0, .int .i64 0, .string ⟨#[]⟩], none, false⟩
  | 29 => some ⟨1, 24, false, [], 23, .slice none 0 0, none, false⟩
  | 32 => some ⟨1, 24, false, [], 26, .slice none 0 0, none, false⟩
  | 40 => some ⟨1, 24, false, [], 3, .slice none 0 0, none, false⟩
  | 46 => some ⟨1, 24, false, [], 40, .slice none 0 0, none, false⟩
  | 53 => some ⟨1, 24, false, [], 5, .slice none 0 0, none, false⟩
  | 66 => some ⟨2, 16, true, [(0, 1, false), (1, 1, false)], 0, .agg #[.int .i64 0, .int .i64 0], none, false⟩
  | 67 => some ⟨2, 16, true, [(0, 1, false), (1, 1, false)], 0, .agg #[.int .i64 0, .int .i64 0], none, false⟩
  | 74 => some ⟨1, 8, false, [], 0, .pointer none, none, false⟩
  | 75 => some ⟨1, 8, false, [], 0, .int .u64 0, (some .u64), false⟩
  | 76 => some ⟨3, 40, true, [(0, 1, false), (1, 1, false), (2, 1, false)], 0, .agg #[.slice none 0 0, .int .i64 0, .int .u64 0], none, false⟩
  | 77 => some ⟨3, 40, true, [(0, 1, false), (1, 1, false), (2, 1, false)], 0, .agg #[.slice none 0 0, .int .i64 0, .int .u64 0], none, false⟩
  | 88 => some ⟨1, 24, false, [], 9, .slice none 0 0, none, false⟩
  | 89 => some ⟨1, 8, false, [], 0, .int .u64 0, (some .u64), false⟩
  | 91 => some ⟨4, 40, true, [(0, 1, false), (1, 1, false), (2, 1, false), (3, 1, false)], 0, .agg #[.pointer none, .pointer none, .pointer none, .string ⟨#[]⟩], none, false⟩
  | 92 => some ⟨4, 40, true, [(0, 1, false), (1, 1, false), (2, 1, false), (3, 1, false)], 0, .agg #[.pointer none, .pointer none, .pointer none, .string ⟨#[]⟩], none, false⟩
  | 93 => some ⟨0, 0, true, [], 0, .agg #[], none, false⟩
  | 96 => some ⟨1, 4, false, [], 0, .int .u32 0, (some .u32), false⟩
  | 97 => some ⟨1, 1, false, [], 0, .int .u8 0, (some .u8), false⟩
  | 98 => some ⟨1, 1, false, [], 0, .int .u8 0, (some .u8), false⟩
  | 100 => some ⟨1, 8, false, [], 0, .pointer none, none, false⟩
  | 101 => some ⟨1, 4, false, [], 0, .int .i32 0, (some .i32), false⟩
  | 102 => some ⟨1, 4, false, [], 0, .int .i32 0, (some .i32), false⟩
  | 106 => some ⟨1, 8, false, [], 0, .pointer none, none, false⟩
  | _ => none

theorem T_2 : T 2 = some ⟨1, 8, false, [], 0, .int .i64 0, (some .i64), false⟩ := rfl
theorem T_3 : T 3 = some ⟨1, 8, false, [], 0, .int .i64 0, (some .i64), false⟩ := rfl
theorem T_4 : T 4 = some ⟨1, 1, false, [], 0, .bool false, none, false⟩ := rfl
theorem T_5 : T 5 = some ⟨1, 1, false, [], 0, .int .u8 0, (some .u8), false⟩ := rfl
theorem T_6 : T 6 = some ⟨1, 1, false, [], 0, .int .u8 0, (some .u8), false⟩ := rfl
theorem T_7 : T 7 = some ⟨4, 24, true, [(0, 1, false), (1, 1, false), (2, 1, false), (3, 1, false)], 0, .agg #[.int .i64 0, .int .i64 0, .bool false, .int .u8 0], none, false⟩ := rfl
theorem T_8 : T 8 = some ⟨4, 24, true, [(0, 1, false), (1, 1, false), (2, 1, false), (3, 1, false)], 0, .agg #[.int .i64 0, .int .i64 0, .bool false, .int .u8 0], none, false⟩ := rfl
theorem T_9 : T 9 = some ⟨1, 16, false, [], 0, .string ⟨#[]⟩, none, true⟩ := rfl
theorem T_10 : T 10 = some ⟨1, 16, false, [], 0, .string ⟨#[]⟩, none, true⟩ := rfl
theorem T_11 : T 11 = some ⟨1, 16, false, [], 0, .string ⟨#[]⟩, none, true⟩ := rfl
theorem T_12 : T 12 = some ⟨1, 8, false, [], 0, .int .u64 0, (some .u64), false⟩ := rfl
theorem T_13 : T 13 = some ⟨2, 24, true, [(0, 1, false), (1, 1, false)], 0, .agg #[.string ⟨#[]⟩, .int .u64 0], none, false⟩ := rfl
theorem T_14 : T 14 = some ⟨2, 24, true, [(0, 1, false), (1, 1, false)], 0, .agg #[.string ⟨#[]⟩, .int .u64 0], none, false⟩ := rfl
theorem T_15 : T 15 = some ⟨1, 8, false, [], 0, .pointer none, none, false⟩ := rfl
theorem T_16 : T 16 = some ⟨1, 8, false, [], 0, .pointer none, none, false⟩ := rfl
theorem T_17 : T 17 = some ⟨1, 8, false, [], 0, .pointer none, none, false⟩ := rfl
theorem T_18 : T 18 = some ⟨1, 8, true, [(0, 1, false)], 0, .agg #[.pointer none], none, false⟩ := rfl
theorem T_19 : T 19 = some ⟨1, 8, true, [(0, 1, false)], 0, .agg #[.pointer none], none, false⟩ := rfl
theorem T_21 : T 21 = some ⟨1, 4, false, [], 0, .int .i32 0, (some .i32), false⟩ := rfl
theorem T_22 : T 22 = some ⟨6, 56, true, [(0, 1, false), (1, 1, false), (2, 1, false), (3, 1, false), (4, 1, false), (5, 1, false)], 0, .agg #[.int .i64 0, .int .i64 0, .int .i64 0, .int .i64 0, .int .i64 0, .string ⟨#[]⟩], none, false⟩ := rfl
theorem T_23 : T 23 = some ⟨6, 56, true, [(0, 1, false), (1, 1, false), (2, 1, false), (3, 1, false), (4, 1, false), (5, 1, false)], 0, .agg #[.int .i64 0, .int .i64 0, .int .i64 0, .int .i64 0, .int .i64 0, .string ⟨#[]⟩], none, false⟩ := rfl
theorem T_26 : T 26 = some ⟨6, 56, true, [(0, 1, false), (1, 1, false), (2, 1, false), (3, 1, false), (4, 1, false), (5, 1, false)], 0, .agg #[.int .i64 0, .int .i64 0, .int .i64 0, .int .i64 0, .int .i64 0, .string ⟨#[]⟩], none, false⟩ := rfl
theorem T_29 : T 29 = some ⟨1, 24, false, [], 23, .slice none 0 0, none, false⟩ := rfl
theorem T_32 : T 32 = some ⟨1, 24, false, [], 26, .slice none 0 0, none, false⟩ := rfl
theorem T_40 : T 40 = some ⟨1, 24, false, [], 3, .slice none 0 0, none, false⟩ := rfl
theorem T_46 : T 46 = some ⟨1, 24, false, [], 40, .slice none 0 0, none, false⟩ := rfl
theorem T_53 : T 53 = some ⟨1, 24, false, [], 5, .slice none 0 0, none, false⟩ := rfl
theorem T_66 : T 66 = some ⟨2, 16, true, [(0, 1, false), (1, 1, false)], 0, .agg #[.int .i64 0, .int .i64 0], none, false⟩ := rfl
theorem T_67 : T 67 = some ⟨2, 16, true, [(0, 1, false), (1, 1, false)], 0, .agg #[.int .i64 0, .int .i64 0], none, false⟩ := rfl
theorem T_74 : T 74 = some ⟨1, 8, false, [], 0, .pointer none, none, false⟩ := rfl
theorem T_75 : T 75 = some ⟨1, 8, false, [], 0, .int .u64 0, (some .u64), false⟩ := rfl
theorem T_76 : T 76 = some ⟨3, 40, true, [(0, 1, false), (1, 1, false), (2, 1, false)], 0, .agg #[.slice none 0 0, .int .i64 0, .int .u64 0], none, false⟩ := rfl
theorem T_77 : T 77 = some ⟨3, 40, true, [(0, 1, false), (1, 1, false), (2, 1, false)], 0, .agg #[.slice none 0 0, .int .i64 0, .int .u64 0], none, false⟩ := rfl
theorem T_88 : T 88 = some ⟨1, 24, false, [], 9, .slice none 0 0, none, false⟩ := rfl
theorem T_89 : T 89 = some ⟨1, 8, false, [], 0, .int .u64 0, (some .u64), false⟩ := rfl
theorem T_91 : T 91 = some ⟨4, 40, true, [(0, 1, false), (1, 1, false), (2, 1, false), (3, 1, false)], 0, .agg #[.pointer none, .pointer none, .pointer none, .string ⟨#[]⟩], none, false⟩ := rfl
theorem T_92 : T 92 = some ⟨4, 40, true, [(0, 1, false), (1, 1, false), (2, 1, false), (3, 1, false)], 0, .agg #[.pointer none, .pointer none, .pointer none, .string ⟨#[]⟩], none, false⟩ := rfl
theorem T_93 : T 93 = some ⟨0, 0, true, [], 0, .agg #[], none, false⟩ := rfl
theorem T_96 : T 96 = some ⟨1, 4, false, [], 0, .int .u32 0, (some .u32), false⟩ := rfl
theorem T_97 : T 97 = some ⟨1, 1, false, [], 0, .int .u8 0, (some .u8), false⟩ := rfl
theorem T_98 : T 98 = some ⟨1, 1, false, [], 0, .int .u8 0, (some .u8), false⟩ := rfl
theorem T_100 : T 100 = some ⟨1, 8, false, [], 0, .pointer none, none, false⟩ := rfl
theorem T_101 : T 101 = some ⟨1, 4, false, [], 0, .int .i32 0, (some .i32), false⟩ := rfl
theorem T_102 : T 102 = some ⟨1, 4, false, [], 0, .int .i32 0, (some .i32), false⟩ := rfl
theorem T_106 : T 106 = some ⟨1, 8, false, [], 0, .pointer none, none, false⟩ := rfl
theorem tiok_2 : TIok Try.prog 2 ⟨1, 8, false, [], 0, .int .i64 0, (some .i64), false⟩ := tiok_of (by kernel_rfl) (by kernel_rfl)
theorem tiok_3 : TIok Try.prog 3 ⟨1, 8, false, [], 0, .int .i64 0, (some .i64), false⟩ := tiok_of (by kernel_rfl) (by kernel_rfl)
theorem tiok_4 : TIok Try.prog 4 ⟨1, 1, false, [], 0, .bool false, none, false⟩ := tiok_of (by kernel_rfl) (by kernel_rfl)
theorem tiok_5 : TIok Try.prog 5 ⟨1, 1, false, [], 0, .int .u8 0, (some .u8), false⟩ := tiok_of (by kernel_rfl) (by kernel_rfl)
theorem tiok_6 : TIok Try.prog 6 ⟨1, 1, false, [], 0, .int .u8 0, (some .u8), false⟩ := tiok_of (by kernel_rfl) (by kernel_rfl)
theorem tiok_7 : TIok Try.prog 7 ⟨4, 24, true, [(0, 1, false), (1, 1, false), (2, 1, false), (3, 1, false)], 0, .agg #[.int .i64 0, .int .i64 0, .bool false, .int .u8 0], none, false⟩ := tiok_of (by kernel_rfl) (by kernel_rfl)
theorem tiok_8 : TIok Try.prog 8 ⟨4, 24, true, [(0, 1, false), (1, 1, false), (2, 1, false), (3, 1, false)], 0, .agg #[.int .i64 0, .int .i64 0, .bool false, .int .u8 0], none, false⟩ := tiok_of (by kernel_rfl) (by kernel_rfl)
theorem tiok_9 : TIok Try.prog 9 ⟨1, 16, false, [], 0, .string ⟨#[]⟩, none, true⟩ := tiok_of (by kernel_rfl) (by kernel_rfl)
theorem tiok_10 : TIok Try.prog 10 ⟨1, 16, false, [], 0, .string ⟨#[]⟩, none, true⟩ := tiok_of (by kernel_rfl) (by kernel_rfl)
theorem tiok_11 : TIok Try.prog 11 ⟨1, 16, false, [], 0, .string ⟨#[]⟩, none, true⟩ := tiok_of (by kernel_rfl) (by kernel_rfl)
theorem tiok_12 : TIok Try.prog 12 ⟨1, 8, false, [], 0, .int .u64 0, (some .u64), false⟩ := tiok_of (by kernel_rfl) (by kernel_rfl)
theorem tiok_13 : TIok Try.prog 13 ⟨2, 24, true, [(0, 1, false), (1, 1, false)], 0, .agg #[.string ⟨#[]⟩, .int .u64 0], none, false⟩ := tiok_of (by kernel_rfl) (by kernel_rfl)
theorem tiok_14 : TIok Try.prog 14 ⟨2, 24, true, [(0, 1, false), (1, 1, false)], 0, .agg #[.string ⟨#[]⟩, .int .u64 0], none, false⟩ := tiok_of (by kernel_rfl) (by kernel_rfl)
theorem tiok_15 : TIok Try.prog 15 ⟨1, 8, false, [], 0, .pointer none, none, false⟩ := tiok_of (by kernel_rfl) (by kernel_rfl)
theorem tiok_16 : TIok Try.prog 16 ⟨1, 8, false, [], 0, .pointer none, none, false⟩ := tiok_of (by kernel_rfl) (by kernel_rfl)
theorem tiok_17 : TIok Try.prog 17 ⟨1, 8, false, [], 0, .pointer none, none, false⟩ := tiok_of (by kernel_rfl) (by kernel_rfl)
theorem tiok_18 : TIok Try.prog 18 ⟨1, 8, true, [(0, 1, false)], 0, .agg #[.pointer none], none, false⟩ := tiok_of (by kernel_rfl) (by kernel_rfl)
theorem tiok_19 : TIok Try.prog 19 ⟨1, 8, true, [(0, 1, false)], 0, .agg #[.pointer none], none, false⟩ := tiok_of (by kernel_rfl) (by kernel_rfl)
theorem tiok_21 : TIok Try.prog 21 ⟨1, 4, false, [], 0, .int .i32 0, (some .i32), false⟩ := tiok_of (by kernel_rfl) (by kernel_rfl)
theorem tiok_22 : TIok Try.prog 22 ⟨6, 56, true, [(0, 1, false), (1, 1, false), (2, 1, false), (3, 1, false), (4, 1, false), (5, 1, false)], 0, .agg #[.int .i64 0, .int .i64 0, .int .i64 0, .int .i64 0, .int .i64 0, .string ⟨#[]⟩], none, false⟩ := tiok_of (by kernel_rfl) (by kernel_rfl)
theorem tiok_23 : TIok Try.prog 23 ⟨6, 56, true, [(0, 1, false), (1, 1, false), (2, 1, false), (3, 1, false), (4, 1, false), (5, 1, false)], 0, .agg #[.int .i64 0, .int .i64 0, .int .i64 0, .int .i64 0, .int .i64 0, .string ⟨#[]⟩], none, false⟩ := tiok_of (by kernel_rfl) (by kernel_rfl)
theorem tiok_26 : TIok Try.prog 26 ⟨6, 56, true, [(0, 1, false), (1, 1, false), (2, 1, false), (3, 1, false), (4, 1, false), (5, 1, false)], 0, .agg #[.int .i64 0, .int .i64 0, .int .i64 0, .int .i64 0, .int .i64 0, .string ⟨#[]⟩], none, false⟩ := tiok_of (by kernel_rfl) (by kernel_rfl)
theorem tiok_29 : TIok Try.prog 29 ⟨1, 24, false, [], 23, .slice none 0 0, none, false⟩ := tiok_of (by kernel_rfl) (by kernel_rfl)
theorem tiok_32 : TIok Try.prog 32 ⟨1, 24, false, [], 26, .slice none 0 0, none, false⟩ := tiok_of (by kernel_rfl) (by kernel_rfl)
theorem tiok_40 : TIok Try.prog 40 ⟨1, 24, false, [], 3, .slice none 0 0, none, false⟩ := tiok_of (by kernel_rfl) (by kernel_rfl)
theorem tiok_46 : TIok Try.prog 46 ⟨1, 24, false, [], 40, .slice none 0 0, none, false⟩ := tiok_of (by kernel_rfl) (by kernel_rfl)
theorem tiok_53 : TIok Try.prog 53 ⟨1, 24, false, [], 5, .slice none 0 0, none, false⟩ := tiok_of (by kernel_rfl) (by kernel_rfl)
theorem tiok_66 : TIok Try.prog 66 ⟨2, 16, true, [(0, 1, false), (1, 1, false)], 0, .agg #[.int .i64 0, .int .i64 0], none, false⟩ := tiok_of (by kernel_rfl) (by kernel_rfl)
theorem tiok_67 : TIok Try.prog 67 ⟨2, 16, true, [(0, 1, false), (1, 1, false)], 0, .agg #[.int .i64 0, .int .i64 0], none, false⟩ := tiok_of (by kernel_rfl) (by kernel_rfl)
theorem tiok_74 : TIok Try.prog 74 ⟨1, 8, false, [], 0, .pointer none, none, false⟩ := tiok_of (by kernel_rfl) (by kernel_rfl)
theorem tiok_75 : TIok Try.prog 75 ⟨1, 8, false, [], 0, .int .u64 0, (some .u64), false⟩ := tiok_of (by kernel_rfl) (by kernel_rfl)
theorem tiok_76 : TIok Try.prog 76 ⟨3, 40, true, [(0, 1, false), (1, 1, false), (2, 1, false)], 0, .agg #[.slice none 0 0, .int .i64 0, .int .u64 0], none, false⟩ := tiok_of (by kernel_rfl) (by kernel_rfl)
theorem tiok_77 : TIok Try.prog 77 ⟨3, 40, true, [(0, 1, false), (1, 1, false), (2, 1, false)], 0, .agg #[.slice none 0 0, .int .i64 0, .int .u64 0], none, false⟩ := tiok_of (by kernel_rfl) (by kernel_rfl)
theorem tiok_88 : TIok Try.prog 88 ⟨1, 24, false, [], 9, .slice none 0 0, none, false⟩ := tiok_of (by kernel_rfl) (by kernel_rfl)
theorem tiok_89 : TIok Try.prog 89 ⟨1, 8, false, [], 0, .int .u64 0, (some .u64), false⟩ := tiok_of (by kernel_rfl) (by kernel_rfl)
theorem tiok_91 : TIok Try.prog 91 ⟨4, 40, true, [(0, 1, false), (1, 1, false), (2, 1, false), (3, 1, false)], 0, .agg #[.pointer none, .pointer none, .pointer none, .string ⟨#[]⟩], none, false⟩ := tiok_of (by kernel_rfl) (by kernel_rfl)
theorem tiok_92 : TIok Try.prog 92 ⟨4, 40, true, [(0, 1, false), (1, 1, false), (2, 1, false), (3, 1, false)], 0, .agg #[.pointer none, .pointer none, .pointer none, .string ⟨#[]⟩], none, false⟩ := tiok_of (by kernel_rfl) (by kernel_rfl)
theorem tiok_93 : TIok Try.prog 93 ⟨0, 0, true, [], 0, .agg #[], none, false⟩ := tiok_of (by kernel_rfl) (by kernel_rfl)
theorem tiok_96 : TIok Try.prog 96 ⟨1, 4, false, [], 0, .int .u32 0, (some .u32), false⟩ := tiok_of (by kernel_rfl) (by kernel_rfl)
theorem tiok_97 : TIok Try.prog 97 ⟨1, 1, false, [], 0, .int .u8 0, (some .u8), false⟩ := tiok_of (by kernel_rfl) (by kernel_rfl)
theorem tiok_98 : TIok Try.prog 98 ⟨1, 1, false, [], 0, .int .u8 0, (some .u8), false⟩ := tiok_of (by kernel_rfl) (by kernel_rfl)
theorem tiok_100 : TIok Try.prog 100 ⟨1, 8, false, [], 0, .pointer none, none, false⟩ := tiok_of (by kernel_rfl) (by kernel_rfl)
theorem tiok_101 : TIok Try.prog 101 ⟨1, 4, false, [], 0, .int .i32 0, (some .i32), false⟩ := tiok_of (by kernel_rfl) (by kernel_rfl)
theorem tiok_102 : TIok Try.prog 102 ⟨1, 4, false, [], 0, .int .i32 0, (some .i32), false⟩ := tiok_of (by kernel_rfl) (by kernel_rfl)
theorem tiok_106 : TIok Try.prog 106 ⟨1, 8, false, [], 0, .pointer none, none, false⟩ := tiok_of (by kernel_rfl) (by kernel_rfl)

theorem tok : TOk Try.prog T := fun t i h => by
  unfold T at h
  split at h
  · cases h; exact tiok_2
  · cases h; exact tiok_3
  · cases h; exact tiok_4
  · cases h; exact tiok_5
  · cases h; exact tiok_6
  · cases h; exact tiok_7
  · cases h; exact tiok_8
  · cases h; exact tiok_9
  · cases h; exact tiok_10
  · cases h; exact tiok_11
  · cases h; exact tiok_12
  · cases h; exact tiok_13
  · cases h; exact tiok_14
  · cases h; exact tiok_15
  · cases h; exact tiok_16
  · cases h; exact tiok_17
  · cases h; exact tiok_18
  · cases h; exact tiok_19
  · cases h; exact tiok_21
  · cases h; exact tiok_22
  · cases h; exact tiok_23
  · cases h; exact tiok_26
  · cases h; exact tiok_29
  · cases h; exact tiok_32
  · cases h; exact tiok_40
  · cases h; exact tiok_46
  · cases h; exact tiok_53
  · cases h; exact tiok_66
  · cases h; exact tiok_67
  · cases h; exact tiok_74
  · cases h; exact tiok_75
  · cases h; exact tiok_76
  · cases h; exact tiok_77
  · cases h; exact tiok_88
  · cases h; exact tiok_89
  · cases h; exact tiok_91
  · cases h; exact tiok_92
  · cases h; exact tiok_93
  · cases h; exact tiok_96
  · cases h; exact tiok_97
  · cases h; exact tiok_98
  · cases h; exact tiok_100
  · cases h; exact tiok_101
  · cases h; exact tiok_102
  · cases h; exact tiok_106
  · cases h

theorem ent_3 : Enters Try.prog 3 := Try.call3
theorem ent_4 : Enters Try.prog 4 := Try.call4
theorem ent_5 : Enters Try.prog 5 := Try.call5
theorem ent_6 : Enters Try.prog 6 := Try.call6
theorem ent_7 : Enters Try.prog 7 := Try.call7
theorem ent_8 : Enters Try.prog 8 := Try.call8
theorem ent_9 : Enters Try.prog 9 := Try.call9
theorem ent_10 : Enters Try.prog 10 := Try.call10
theorem ent_11 : Enters Try.prog 11 := Try.call11
theorem ent_12 : Enters Try.prog 12 := Try.call12
theorem ent_13 : Enters Try.prog 13 := Try.call13
theorem ent_14 : Enters Try.prog 14 := Try.call14
theorem ent_15 : Enters Try.prog 15 := Try.call15
theorem ent_16 : Enters Try.prog 16 := Try.call16
theorem ent_17 : Enters Try.prog 17 := Try.call17
theorem ent_18 : Enters Try.prog 18 := Try.call18
theorem ent_19 : Enters Try.prog 19 := Try.call19
theorem ent_20 : Enters Try.prog 20 := Try.call20
theorem ent_21 : Enters Try.prog 21 := Try.call21
theorem ent_22 : Enters Try.prog 22 := Try.call22
theorem ent_23 : Enters Try.prog 23 := Try.call23
theorem ent_24 : Enters Try.prog 24 := Try.call24
theorem ent_25 : Enters Try.prog 25 := Try.call25
theorem ent_26 : Enters Try.prog 26 := Try.call26
theorem ent_27 : Enters Try.prog 27 := Try.call27
theorem ent_28 : Enters Try.prog 28 := Try.call28
theorem ent_29 : Enters Try.prog 29 := Try.call29
theorem ent_30 : Enters Try.prog 30 := Try.call30
theorem ent_31 : Enters Try.prog 31 := Try.call31
theorem ent_32 : Enters Try.prog 32 := Try.call32
theorem ent_33 : Enters Try.prog 33 := Try.call33
theorem ent_34 : Enters Try.prog 34 := Try.call34
theorem ent_35 : Enters Try.prog 35 := Try.call35
theorem ent_36 : Enters Try.prog 36 := Try.call36
theorem ent_37 : Enters Try.prog 37 := Try.call37
theorem ent_38 : Enters Try.prog 38 := Try.call38
theorem ent_39 : Enters Try.prog 39 := Try.call39
theorem ent_40 : Enters Try.prog 40 := Try.call40
theorem ent_41 : Enters Try.prog 41 := Try.call41
theorem ent_42 : Enters Try.prog 42 := Try.call42
theorem ent_43 : Enters Try.prog 43 := Try.call43
theorem ent_44 : Enters Try.prog 44 := Try.call44
theorem ent_45 : Enters Try.prog 45 := Try.call45
theorem ent_46 : Enters Try.prog 46 := Try.call46
theorem ent_47 : Enters Try.prog 47 := Try.call47
theorem ent_48 : Enters Try.prog 48 := Try.call48
theorem ent_49 : Enters Try.prog 49 := Try.call49
theorem ent_50 : Enters Try.prog 50 := Try.call50
theorem ent_51 : Enters Try.prog 51 := Try.call51
theorem ent_52 : Enters Try.prog 52 := Try.call52
theorem ent_53 : Enters Try.prog 53 := Try.call53
theorem ent_54 : Enters Try.prog 54 := Try.call54
theorem ent_55 : Enters Try.prog 55 := Try.call55
theorem ent_56 : Enters Try.prog 56 := Try.call56
theorem ent_57 : Enters Try.prog 57 := Try.call57
theorem ent_58 : Enters Try.prog 58 := Try.call58
theorem ent_59 : Enters Try.prog 59 := Try.call59
theorem ent_60 : Enters Try.prog 60 := Try.call60
theorem ent_61 : Enters Try.prog 61 := Try.call61
theorem ent_62 : Enters Try.prog 62 := Try.call62
theorem ent_63 : Enters Try.prog 63 := Try.call63
theorem ent_64 : Enters Try.prog 64 := Try.call64
theorem ent_65 : Enters Try.prog 65 := Try.call65
theorem ent_66 : Enters Try.prog 66 := Try.call66
theorem ent_67 : Enters Try.prog 67 := Try.call67
theorem ent_68 : Enters Try.prog 68 := Try.call68
theorem ent_69 : Enters Try.prog 69 := Try.call69
theorem ent_70 : Enters Try.prog 70 := Try.call70
theorem ent_71 : Enters Try.prog 71 := Try.call71
theorem ent_72 : Enters Try.prog 72 := Try.call72
theorem ent_73 : Enters Try.prog 73 := Try.call73
theorem ent_74 : Enters Try.prog 74 := Try.call74
theorem ent_75 : Enters Try.prog 75 := Try.call75
theorem ent_76 : Enters Try.prog 76 := Try.call76
theorem ent_77 : Enters Try.prog 77 := Try.call77

end Go.Proofs.Ythjboaallleomaa
