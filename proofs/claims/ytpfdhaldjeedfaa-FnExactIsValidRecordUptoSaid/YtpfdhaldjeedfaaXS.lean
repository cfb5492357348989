/-
  The places of the library's functions in this translation, printed by the kit's tool for laying contracts.
-/
import Derived.Shelf.Small.Utf8
import Derived.Shelf.Small.Strs
import Derived.Shelf.Strings.Search1
import Derived.Shelf.Strings.Runes
import Derived.Shelf.Strings.IndexAny
import Derived.Shelf.Strings.AsciiSet
import Derived.Shelf.Strings.IndexAnyAll
import Derived.Test.YtpfdhaldjeedfaaProg
namespace Go.Proofs
open Go.Shelf
def Try.lays150_ren : Go.Shelf.Ren := ⟨fun | 150 => 13 | 153 => 15 | 152 => 16 | 226 => 17 | 227 => 18 | 228 => 19 | 137 => 20 | 119 => 21 | 224 => 22 | 225 => 23 | 217 => 24 | 266 => 25 | n => n, fun | 9 => 9 | 4 => 4 | 3 => 3 | 5 => 5 | 21 => 21 | 117 => 38 | 116 => 37 | 0 => 0 | 46 => 44 | 124 => 45 | n => n, fun | n => n⟩
theorem Try.lays150 : Go.Proofs.Lays.n150 Try.prog Try.lays150_ren := {
  mixed := by kernel_rfl
  f119 := Try.func21.trans (congrArg some (by kernel_rfl))
  f137 := Try.func20.trans (congrArg some (by kernel_rfl))
  f150 := Try.func13.trans (congrArg some (by kernel_rfl))
  f152 := Try.func16.trans (congrArg some (by kernel_rfl))
  f153 := Try.func15.trans (congrArg some (by kernel_rfl))
  f217 := Try.func24.trans (congrArg some (by kernel_rfl))
  f224 := Try.func22.trans (congrArg some (by kernel_rfl))
  f225 := Try.func23.trans (congrArg some (by kernel_rfl))
  f226 := Try.func17.trans (congrArg some (by kernel_rfl))
  f227 := Try.func18.trans (congrArg some (by kernel_rfl))
  f228 := Try.func19.trans (congrArg some (by kernel_rfl))
  f266 := Try.func25.trans (congrArg some (by kernel_rfl))
  t0 := Try.underlying0
  a0 := Try.isAgg0
  z0 := Try.sizeOf0
  v0 := Try.zeroValue0
  t3 := Try.underlying3
  a3 := Try.isAgg3
  z3 := Try.sizeOf3
  v3 := Try.zeroValue3
  t4 := Try.underlying4
  a4 := Try.isAgg4
  z4 := Try.sizeOf4
  v4 := Try.zeroValue4
  t5 := Try.underlying5
  a5 := Try.isAgg5
  z5 := Try.sizeOf5
  v5 := Try.zeroValue5
  t9 := Try.underlying9
  a9 := Try.isAgg9
  z9 := Try.sizeOf9
  v9 := Try.zeroValue9
  t21 := Try.underlying21
  a21 := Try.isAgg21
  z21 := Try.sizeOf21
  v21 := Try.zeroValue21
  t46 := Try.underlying44
  a46 := Try.isAgg44
  z46 := Try.sizeOf44
  v46 := Try.zeroValue44
  t116 := Try.underlying37
  a116 := Try.isAgg37
  z116 := Try.sizeOf37
  t117 := Try.underlying38
  a117 := Try.isAgg38
  z117 := Try.sizeOf38
  v117 := Try.zeroValue38
  t124 := Try.underlying45
  a124 := Try.isAgg45
  z124 := Try.sizeOf45
  v124 := Try.zeroValue45 }
end Go.Proofs
