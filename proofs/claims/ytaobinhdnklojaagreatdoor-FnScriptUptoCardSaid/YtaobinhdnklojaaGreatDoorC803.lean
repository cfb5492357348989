/-
  Contracts, printed by a program.
-/
import Derived.Shelf.Strings.Builder1
import Derived.Shelf.Strings.Builder2
import Derived.Shelf.Strings.OnBuilder
import Derived.Shelf.Small.Utf8
import Derived.Shelf.Small.Strs
import Derived.Shelf.Strings.BuilderF
import Derived.Shelf.Strings.BuilderK
import Derived.Shelf.Utf8.RuneCount
import Derived.Shelf.Strings.Builder2Cap
import Derived.Shelf.Strconv.Atoi
import Derived.Shelf.Strconv.Itoa0
import Derived.Shelf.Strconv.Itoa1
import Derived.Shelf.LaysM
import Derived.Shelf.Strconv.Itoa2
import Derived.Shelf.Strconv.Itoa3
import Derived.Shelf.Strconv.AtoiErrFast
import Derived.Shelf.Strconv.ParseIntEmpty
import Derived.Shelf.Strconv.AtoiFail
import Derived.Shelf.Strconv.Clone
import Derived.Shelf.Strconv.SyntaxError
import Derived.Shelf.LaysC
import Derived.Shelf.Strconv.ToError
import Derived.Shelf.Strconv.AtoiErr
import Derived.Shelf.Strings.Search1
import Derived.Shelf.Strings.Search2
import Derived.Shelf.Strings.Search3
import Derived.Shelf.Strings.Cut
import Derived.Shelf.Strings.Count
import Derived.Shelf.Strings.Shaped
import Derived.Shelf.Strings.Prefix
import Derived.Shelf.Strings.Split
import Derived.Shelf.Strings.SplitShaped
import Derived.Shelf.Unicode.Decode
import Derived.Shelf.Strings.Runes
import Derived.Shelf.Strings.RuneCount
import Derived.Shelf.Strings.IndexAny
import Derived.Shelf.Strings.AsciiSet
import Derived.Shelf.Strings.IndexAnyAll
import Derived.Shelf.Strings.Explode
import Derived.Shelf.Unicode.DecodeSlow
import Derived.Shelf.Unicode.DecodeAny
import Derived.Test.YtaobinhdnklojaaGreatDoorProg
import Derived.Test.YtaobinhdnklojaaGreatDoorX0
import Derived.Laws.BitsLemmas
import Derived.Lib.IndexMore
import Derived.Lib.IndexAny
import Derived.Lib.ItoaNum
import Derived.Lib.Strings
import Derived.Lib.AtoiBound
import Derived.WalkKit
namespace Go.Proofs
open Go.Shelf
def Tryz.lays145_ren : Go.Shelf.Ren := ⟨fun | 145 => 110 | 220 => 149 | 219 => 169 | 217 => 192 | 225 => 193 | 224 => 194 | 267 => 195 | 266 => 209 | 314 => 210 | n => n, fun | 9 => 9 | 4 => 4 | 59 => 144 | 3 => 3 | 5 => 5 | 46 => 177 | 146 => 231 | 51 => 217 | n => n, fun | 1 => 0 | n => n⟩
theorem Tryz.lays145 : Go.Proofs.Lays.n145 Tryz.prog Tryz.lays145_ren := {
 mixed := by kernel_rfl
 f145 := Tryz.func110.trans (congrArg some (by kernel_rfl))
 f217 := Tryz.func192.trans (congrArg some (by kernel_rfl))
 f219 := Tryz.func169.trans (congrArg some (by kernel_rfl))
 f220 := Tryz.func149.trans (congrArg some (by kernel_rfl))
 f224 := Tryz.func194.trans (congrArg some (by kernel_rfl))
 f225 := Tryz.func193.trans (congrArg some (by kernel_rfl))
 f266 := Tryz.func209.trans (congrArg some (by kernel_rfl))
 f267 := Tryz.func195.trans (congrArg some (by kernel_rfl))
 f314 := Tryz.func210.trans (congrArg some (by kernel_rfl))
 t3 := Tryz.underlying3
 a3 := Tryz.isAgg3
 z3 := Tryz.sizeOf3
 v3 := Tryz.zeroValue3
 t4 := Tryz.underlying4
 a4 := Tryz.isAgg4
 z4 := Tryz.sizeOf4
 v4 := Tryz.zeroValue4
 t5 := Tryz.underlying5
 a5 := Tryz.isAgg5
 z5 := Tryz.sizeOf5
 v5 := Tryz.zeroValue5
 t9 := Tryz.underlying9
 a9 := Tryz.isAgg9
 z9 := Tryz.sizeOf9
 v9 := Tryz.zeroValue9
 t46 := Tryz.underlying177
 a46 := Tryz.isAgg177
 z46 := Tryz.sizeOf177
 v46 := Tryz.zeroValue177
 t51 := Tryz.underlying217
 a51 := Tryz.isAgg217
 z51 := Tryz.sizeOf217
 v51 := Tryz.zeroValue217
 t59 := Tryz.underlying144
 a59 := Tryz.isAgg144
 z59 := Tryz.sizeOf144
 v59 := Tryz.zeroValue144
 t146 := Tryz.underlying231
 a146 := Tryz.isAgg231
 z146 := Tryz.sizeOf231
 v146 := Tryz.zeroValue231
 g1 := by kernel_rfl }
def Tryz.laysM145_ren : Go.Shelf.Ren := ⟨fun | 145 => 110 | 220 => 149 | 219 => 169 | 217 => 192 | 225 => 193 | 224 => 194 | 267 => 195 | 266 => 209 | 314 => 210 | n => n, fun | 9 => 9 | 4 => 4 | 59 => 144 | 3 => 3 | 5 => 5 | 46 => 177 | 146 => 231 | 51 => 217 | n => n, fun | 1 => 0 | n => n⟩
theorem Tryz.laysM145 : Go.Proofs.LaysM.n145 Tryz.prog Tryz.laysM145_ren := {
 mixed := by kernel_rfl
 f145 := Tryz.func110.trans (congrArg some (by kernel_rfl))
 f217 := Tryz.func192.trans (congrArg some (by kernel_rfl))
 f219 := Tryz.func169.trans (congrArg some (by kernel_rfl))
 f220 := Tryz.func149.trans (congrArg some (by kernel_rfl))
 f224 := Tryz.func194.trans (congrArg some (by kernel_rfl))
 f225 := Tryz.func193.trans (congrArg some (by kernel_rfl))
 f266 := Tryz.func209.trans (congrArg some (by kernel_rfl))
 f267 := Tryz.func195.trans (congrArg some (by kernel_rfl))
 f314 := Tryz.func210.trans (congrArg some (by kernel_rfl))
 t3 := Tryz.underlying3
 a3 := Tryz.isAgg3
 z3 := Tryz.sizeOf3
 v3 := Tryz.zeroValue3
 t4 := Tryz.underlying4
 a4 := Tryz.isAgg4
 z4 := Tryz.sizeOf4
 v4 := Tryz.zeroValue4
 t5 := Tryz.underlying5
 a5 := Tryz.isAgg5
 z5 := Tryz.sizeOf5
 v5 := Tryz.zeroValue5
 t9 := Tryz.underlying9
 a9 := Tryz.isAgg9
 z9 := Tryz.sizeOf9
 v9 := Tryz.zeroValue9
 t46 := Tryz.underlying177
 a46 := Tryz.isAgg177
 z46 := Tryz.sizeOf177
 v46 := Tryz.zeroValue177
 t51 := Tryz.underlying217
 a51 := Tryz.isAgg217
 z51 := Tryz.sizeOf217
 v51 := Tryz.zeroValue217
 t59 := Tryz.underlying144
 a59 := Tryz.isAgg144
 z59 := Tryz.sizeOf144
 v59 := Tryz.zeroValue144
 t146 := Tryz.underlying231
 a146 := Tryz.isAgg231
 z146 := Tryz.sizeOf231
 v146 := Tryz.zeroValue231
 g1 := by kernel_rfl
 i3 := by kernel_rfl
 i4 := by kernel_rfl
 i5 := by kernel_rfl
 i9 := by kernel_rfl
 i46 := by kernel_rfl
 i51 := by kernel_rfl
 i59 := by kernel_rfl
 i146 := by kernel_rfl
 m1 := by kernel_rfl
 s1_3 := fun w h => Go.Proofs.cell_of_shapedOpen_int (zero := #[.int .i64 0]) (t := 3) h (of_decide_eq_true (by kernel_rfl)) (by kernel_rfl) rfl (by kernel_rfl) (by kernel_rfl) Tryz.underlying3 }
def Tryz.lays144_ren : Go.Shelf.Ren := ⟨fun | 144 => 164 | 143 => 142 | 219 => 169 | 217 => 192 | 225 => 193 | 224 => 194 | 267 => 195 | 266 => 209 | 314 => 210 | n => n, fun | 9 => 9 | 4 => 4 | 3 => 3 | 5 => 5 | 46 => 177 | 146 => 231 | 51 => 217 | n => n, fun | 1 => 0 | n => n⟩
theorem Tryz.lays144 : Go.Proofs.Lays.n144 Tryz.prog Tryz.lays144_ren := {
 mixed := by kernel_rfl
 f143 := Tryz.func142.trans (congrArg some (by kernel_rfl))
 f144 := Tryz.func164.trans (congrArg some (by kernel_rfl))
 f217 := Tryz.func192.trans (congrArg some (by kernel_rfl))
 f219 := Tryz.func169.trans (congrArg some (by kernel_rfl))
 f224 := Tryz.func194.trans (congrArg some (by kernel_rfl))
 f225 := Tryz.func193.trans (congrArg some (by kernel_rfl))
 f266 := Tryz.func209.trans (congrArg some (by kernel_rfl))
 f267 := Tryz.func195.trans (congrArg some (by kernel_rfl))
 f314 := Tryz.func210.trans (congrArg some (by kernel_rfl))
 t3 := Tryz.underlying3
 a3 := Tryz.isAgg3
 z3 := Tryz.sizeOf3
 v3 := Tryz.zeroValue3
 t4 := Tryz.underlying4
 a4 := Tryz.isAgg4
 z4 := Tryz.sizeOf4
 v4 := Tryz.zeroValue4
 t5 := Tryz.underlying5
 a5 := Tryz.isAgg5
 z5 := Tryz.sizeOf5
 v5 := Tryz.zeroValue5
 t9 := Tryz.underlying9
 a9 := Tryz.isAgg9
 z9 := Tryz.sizeOf9
 v9 := Tryz.zeroValue9
 t46 := Tryz.underlying177
 a46 := Tryz.isAgg177
 z46 := Tryz.sizeOf177
 v46 := Tryz.zeroValue177
 t51 := Tryz.underlying217
 a51 := Tryz.isAgg217
 z51 := Tryz.sizeOf217
 v51 := Tryz.zeroValue217
 t146 := Tryz.underlying231
 a146 := Tryz.isAgg231
 z146 := Tryz.sizeOf231
 v146 := Tryz.zeroValue231
 g1 := by kernel_rfl }
def Tryz.lays150_ren : Go.Shelf.Ren := ⟨fun | 150 => 127 | 153 => 157 | 152 => 180 | 226 => 181 | 227 => 182 | 228 => 183 | 137 => 204 | 119 => 205 | 224 => 194 | 225 => 193 | 217 => 192 | 266 => 209 | n => n, fun | 9 => 9 | 4 => 4 | 3 => 3 | 5 => 5 | 21 => 21 | 117 => 204 | 116 => 203 | 0 => 0 | 46 => 177 | 124 => 221 | n => n, fun | n => n⟩
theorem Tryz.lays150 : Go.Proofs.Lays.n150 Tryz.prog Tryz.lays150_ren := {
 mixed := by kernel_rfl
 f119 := Tryz.func205.trans (congrArg some (by kernel_rfl))
 f137 := Tryz.func204.trans (congrArg some (by kernel_rfl))
 f150 := Tryz.func127.trans (congrArg some (by kernel_rfl))
 f152 := Tryz.func180.trans (congrArg some (by kernel_rfl))
 f153 := Tryz.func157.trans (congrArg some (by kernel_rfl))
 f217 := Tryz.func192.trans (congrArg some (by kernel_rfl))
 f224 := Tryz.func194.trans (congrArg some (by kernel_rfl))
 f225 := Tryz.func193.trans (congrArg some (by kernel_rfl))
 f226 := Tryz.func181.trans (congrArg some (by kernel_rfl))
 f227 := Tryz.func182.trans (congrArg some (by kernel_rfl))
 f228 := Tryz.func183.trans (congrArg some (by kernel_rfl))
 f266 := Tryz.func209.trans (congrArg some (by kernel_rfl))
 t0 := Tryz.underlying0
 a0 := Tryz.isAgg0
 z0 := Tryz.sizeOf0
 v0 := Tryz.zeroValue0
 t3 := Tryz.underlying3
 a3 := Tryz.isAgg3
 z3 := Tryz.sizeOf3
 v3 := Tryz.zeroValue3
 t4 := Tryz.underlying4
 a4 := Tryz.isAgg4
 z4 := Tryz.sizeOf4
 v4 := Tryz.zeroValue4
 t5 := Tryz.underlying5
 a5 := Tryz.isAgg5
 z5 := Tryz.sizeOf5
 v5 := Tryz.zeroValue5
 t9 := Tryz.underlying9
 a9 := Tryz.isAgg9
 z9 := Tryz.sizeOf9
 v9 := Tryz.zeroValue9
 t21 := Tryz.underlying21
 a21 := Tryz.isAgg21
 z21 := Tryz.sizeOf21
 v21 := Tryz.zeroValue21
 t46 := Tryz.underlying177
 a46 := Tryz.isAgg177
 z46 := Tryz.sizeOf177
 v46 := Tryz.zeroValue177
 t116 := Tryz.underlying203
 a116 := Tryz.isAgg203
 z116 := Tryz.sizeOf203
 t117 := Tryz.underlying204
 a117 := Tryz.isAgg204
 z117 := Tryz.sizeOf204
 v117 := Tryz.zeroValue204
 t124 := Tryz.underlying221
 a124 := Tryz.isAgg221
 z124 := Tryz.sizeOf221
 v124 := Tryz.zeroValue221 }
def Tryz.laysM171_ren : Go.Shelf.Ren := ⟨fun | 171 => 61 | 243 => 104 | 246 => 146 | 283 => 173 | 284 => 174 | 285 => 175 | 286 => 176 | 129 => 199 | 317 => 198 | 318 => 200 | 319 => 201 | 320 => 202 | 337 => 211 | 338 => 212 | n => n, fun | 3 => 3 | 9 => 9 | 2 => 2 | 4 => 4 | 171 => 193 | 0 => 0 | 53 => 88 | 37 => 52 | 5 => 5 | 173 => 196 | 212 => 216 | 51 => 217 | 20 => 20 | 213 => 218 | 46 => 177 | 232 => 239 | 233 => 240 | n => n, fun | 17 => 1 | 18 => 6 | 19 => 7 | n => n⟩
theorem Tryz.laysM171 : Go.Proofs.LaysM.n171 Tryz.prog Tryz.laysM171_ren := {
 mixed := by kernel_rfl
 f129 := Tryz.func199.trans (congrArg some (by kernel_rfl))
 f171 := Tryz.func61.trans (congrArg some (by kernel_rfl))
 f243 := Tryz.func104.trans (congrArg some (by kernel_rfl))
 f246 := Tryz.func146.trans (congrArg some (by kernel_rfl))
 f283 := Tryz.func173.trans (congrArg some (by kernel_rfl))
 f284 := Tryz.func174.trans (congrArg some (by kernel_rfl))
 f285 := Tryz.func175.trans (congrArg some (by kernel_rfl))
 f286 := Tryz.func176.trans (congrArg some (by kernel_rfl))
 f317 := Tryz.func198.trans (congrArg some (by kernel_rfl))
 f318 := Tryz.func200.trans (congrArg some (by kernel_rfl))
 f319 := Tryz.func201.trans (congrArg some (by kernel_rfl))
 f320 := Tryz.func202.trans (congrArg some (by kernel_rfl))
 f337 := Tryz.func211.trans (congrArg some (by kernel_rfl))
 f338 := Tryz.func212.trans (congrArg some (by kernel_rfl))
 t0 := Tryz.underlying0
 a0 := Tryz.isAgg0
 z0 := Tryz.sizeOf0
 v0 := Tryz.zeroValue0
 t2 := Tryz.underlying2
 a2 := Tryz.isAgg2
 z2 := Tryz.sizeOf2
 v2 := Tryz.zeroValue2
 t3 := Tryz.underlying3
 a3 := Tryz.isAgg3
 z3 := Tryz.sizeOf3
 v3 := Tryz.zeroValue3
 t4 := Tryz.underlying4
 a4 := Tryz.isAgg4
 z4 := Tryz.sizeOf4
 v4 := Tryz.zeroValue4
 t5 := Tryz.underlying5
 a5 := Tryz.isAgg5
 z5 := Tryz.sizeOf5
 v5 := Tryz.zeroValue5
 t9 := Tryz.underlying9
 a9 := Tryz.isAgg9
 z9 := Tryz.sizeOf9
 v9 := Tryz.zeroValue9
 t20 := Tryz.underlying20
 a20 := Tryz.isAgg20
 z20 := Tryz.sizeOf20
 v20 := Tryz.zeroValue20
 t37 := Tryz.underlying52
 a37 := Tryz.isAgg52
 z37 := Tryz.sizeOf52
 v37 := Tryz.zeroValue52
 t46 := Tryz.underlying177
 a46 := Tryz.isAgg177
 z46 := Tryz.sizeOf177
 v46 := Tryz.zeroValue177
 t51 := Tryz.underlying217
 a51 := Tryz.isAgg217
 z51 := Tryz.sizeOf217
 v51 := Tryz.zeroValue217
 t53 := Tryz.underlying88
 a53 := Tryz.isAgg88
 z53 := Tryz.sizeOf88
 v53 := Tryz.zeroValue88
 t171 := Tryz.underlying193
 a171 := Tryz.isAgg193
 z171 := Tryz.sizeOf193
 v171 := Tryz.zeroValue193
 t173 := Tryz.underlying196
 a173 := Tryz.isAgg196
 z173 := Tryz.sizeOf196
 v173 := Tryz.zeroValue196
 t212 := Tryz.underlying216
 a212 := Tryz.isAgg216
 z212 := Tryz.sizeOf216
 v212 := Tryz.zeroValue216
 t213 := Tryz.underlying218
 a213 := Tryz.isAgg218
 z213 := Tryz.sizeOf218
 t232 := Tryz.underlying239
 a232 := Tryz.isAgg239
 z232 := Tryz.sizeOf239
 v232 := Tryz.zeroValue239
 t233 := Tryz.underlying240
 a233 := Tryz.isAgg240
 z233 := Tryz.sizeOf240
 v233 := Tryz.zeroValue240
 g17 := by kernel_rfl
 g18 := by kernel_rfl
 g19 := by kernel_rfl
 i0 := by kernel_rfl
 i2 := by kernel_rfl
 i3 := by kernel_rfl
 i4 := by kernel_rfl
 i5 := by kernel_rfl
 i9 := by kernel_rfl
 i20 := by kernel_rfl
 i37 := by kernel_rfl
 i46 := by kernel_rfl
 i51 := by kernel_rfl
 i53 := by kernel_rfl
 i171 := by kernel_rfl
 i173 := by kernel_rfl
 i212 := by kernel_rfl
 i232 := by kernel_rfl
 i233 := by kernel_rfl
 m17 := by kernel_rfl
 m18 := by kernel_rfl
 m19 := by kernel_rfl }
def Tryz.lays146_ren : Go.Shelf.Ren := ⟨fun | 146 => 55 | 221 => 96 | 268 => 140 | 138 => 141 | 143 => 142 | 195 => 166 | 197 => 167 | 218 => 168 | 219 => 169 | 260 => 191 | 217 => 192 | 225 => 193 | 224 => 194 | 267 => 195 | 266 => 209 | 314 => 210 | n => n, fun | 9 => 9 | 31 => 47 | 3 => 3 | 4 => 4 | 0 => 0 | 105 => 188 | 21 => 21 | 5 => 5 | 46 => 177 | 119 => 227 | 139 => 230 | 138 => 229 | 146 => 231 | 51 => 217 | n => n, fun | 1 => 0 | 3 => 4 | 4 => 5 | n => n⟩
theorem Tryz.lays146 : Go.Proofs.Lays.n146 Tryz.prog Tryz.lays146_ren := {
 mixed := by kernel_rfl
 f138 := Tryz.func141.trans (congrArg some (by kernel_rfl))
 f143 := Tryz.func142.trans (congrArg some (by kernel_rfl))
 f146 := Tryz.func55.trans (congrArg some (by kernel_rfl))
 f195 := Tryz.func166.trans (congrArg some (by kernel_rfl))
 f197 := Tryz.func167.trans (congrArg some (by kernel_rfl))
 f217 := Tryz.func192.trans (congrArg some (by kernel_rfl))
 f218 := Tryz.func168.trans (congrArg some (by kernel_rfl))
 f219 := Tryz.func169.trans (congrArg some (by kernel_rfl))
 f221 := Tryz.func96.trans (congrArg some (by kernel_rfl))
 f224 := Tryz.func194.trans (congrArg some (by kernel_rfl))
 f225 := Tryz.func193.trans (congrArg some (by kernel_rfl))
 f260 := Tryz.func191.trans (congrArg some (by kernel_rfl))
 f266 := Tryz.func209.trans (congrArg some (by kernel_rfl))
 f267 := Tryz.func195.trans (congrArg some (by kernel_rfl))
 f268 := Tryz.func140.trans (congrArg some (by kernel_rfl))
 f314 := Tryz.func210.trans (congrArg some (by kernel_rfl))
 t0 := Tryz.underlying0
 a0 := Tryz.isAgg0
 z0 := Tryz.sizeOf0
 v0 := Tryz.zeroValue0
 t3 := Tryz.underlying3
 a3 := Tryz.isAgg3
 z3 := Tryz.sizeOf3
 v3 := Tryz.zeroValue3
 t4 := Tryz.underlying4
 a4 := Tryz.isAgg4
 z4 := Tryz.sizeOf4
 v4 := Tryz.zeroValue4
 t5 := Tryz.underlying5
 a5 := Tryz.isAgg5
 z5 := Tryz.sizeOf5
 v5 := Tryz.zeroValue5
 t9 := Tryz.underlying9
 a9 := Tryz.isAgg9
 z9 := Tryz.sizeOf9
 v9 := Tryz.zeroValue9
 t21 := Tryz.underlying21
 a21 := Tryz.isAgg21
 z21 := Tryz.sizeOf21
 v21 := Tryz.zeroValue21
 t31 := Tryz.underlying47
 a31 := Tryz.isAgg47
 z31 := Tryz.sizeOf47
 v31 := Tryz.zeroValue47
 t46 := Tryz.underlying177
 a46 := Tryz.isAgg177
 z46 := Tryz.sizeOf177
 v46 := Tryz.zeroValue177
 t51 := Tryz.underlying217
 a51 := Tryz.isAgg217
 z51 := Tryz.sizeOf217
 v51 := Tryz.zeroValue217
 t105 := Tryz.underlying188
 a105 := Tryz.isAgg188
 z105 := Tryz.sizeOf188
 v105 := Tryz.zeroValue188
 t119 := Tryz.underlying227
 a119 := Tryz.isAgg227
 z119 := Tryz.sizeOf227
 t138 := Tryz.underlying229
 a138 := Tryz.isAgg229
 z138 := Tryz.sizeOf229
 v138 := Tryz.zeroValue229
 t139 := Tryz.underlying230
 a139 := Tryz.isAgg230
 z139 := Tryz.sizeOf230
 v139 := Tryz.zeroValue230
 t146 := Tryz.underlying231
 a146 := Tryz.isAgg231
 z146 := Tryz.sizeOf231
 v146 := Tryz.zeroValue231
 g1 := by kernel_rfl
 g3 := by kernel_rfl
 g4 := by kernel_rfl }
def Tryz.lays156_ren : Go.Shelf.Ren := ⟨fun | 156 => 62 | 165 => 105 | 166 => 106 | 169 => 107 | 240 => 147 | 241 => 148 | 276 => 177 | 277 => 178 | n => n, fun | 31 => 47 | 9 => 9 | 3 => 3 | 4 => 4 | 0 => 0 | 20 => 20 | 72 => 137 | 76 => 141 | 70 => 135 | 37 => 52 | 75 => 140 | 127 => 179 | 164 => 198 | 5 => 5 | 80 => 143 | n => n, fun | n => n⟩
theorem Tryz.lays156 : Go.Proofs.Lays.n156 Tryz.prog Tryz.lays156_ren := {
 mixed := by kernel_rfl
 f156 := Tryz.func62.trans (congrArg some (by kernel_rfl))
 f165 := Tryz.func105.trans (congrArg some (by kernel_rfl))
 f166 := Tryz.func106.trans (congrArg some (by kernel_rfl))
 f169 := Tryz.func107.trans (congrArg some (by kernel_rfl))
 f240 := Tryz.func147.trans (congrArg some (by kernel_rfl))
 f241 := Tryz.func148.trans (congrArg some (by kernel_rfl))
 f276 := Tryz.func177.trans (congrArg some (by kernel_rfl))
 f277 := Tryz.func178.trans (congrArg some (by kernel_rfl))
 t0 := Tryz.underlying0
 a0 := Tryz.isAgg0
 z0 := Tryz.sizeOf0
 v0 := Tryz.zeroValue0
 t3 := Tryz.underlying3
 a3 := Tryz.isAgg3
 z3 := Tryz.sizeOf3
 v3 := Tryz.zeroValue3
 t4 := Tryz.underlying4
 a4 := Tryz.isAgg4
 z4 := Tryz.sizeOf4
 v4 := Tryz.zeroValue4
 t9 := Tryz.underlying9
 a9 := Tryz.isAgg9
 z9 := Tryz.sizeOf9
 v9 := Tryz.zeroValue9
 t20 := Tryz.underlying20
 a20 := Tryz.isAgg20
 z20 := Tryz.sizeOf20
 v20 := Tryz.zeroValue20
 t31 := Tryz.underlying47
 a31 := Tryz.isAgg47
 z31 := Tryz.sizeOf47
 v31 := Tryz.zeroValue47
 t37 := Tryz.underlying52
 a37 := Tryz.isAgg52
 z37 := Tryz.sizeOf52
 v37 := Tryz.zeroValue52
 t70 := Tryz.underlying135
 a70 := Tryz.isAgg135
 z70 := Tryz.sizeOf135
 v70 := Tryz.zeroValue135
 t72 := Tryz.underlying137
 a72 := Tryz.isAgg137
 z72 := Tryz.sizeOf137
 v72 := Tryz.zeroValue137
 t75 := Tryz.underlying140
 a75 := Tryz.isAgg140
 z75 := Tryz.sizeOf140
 v75 := Tryz.zeroValue140
 t76 := Tryz.underlying141
 a76 := Tryz.isAgg141
 z76 := Tryz.sizeOf141
 v76 := Tryz.zeroValue141
 t127 := Tryz.underlying179
 a127 := Tryz.isAgg179
 z127 := Tryz.sizeOf179
 v127 := Tryz.zeroValue179
 t164 := Tryz.underlying198
 a164 := Tryz.isAgg198
 z164 := Tryz.sizeOf198
 v164 := Tryz.zeroValue198 }
def Tryz.lays172_ren : Go.Shelf.Ren := ⟨fun | 172 => 128 | 244 => 158 | 245 => 159 | 247 => 184 | 279 => 185 | 280 => 186 | 281 => 187 | 282 => 188 | 287 => 206 | 316 => 207 | 171 => 61 | 205 => 208 | 321 => 213 | 322 => 214 | 243 => 104 | 246 => 146 | 283 => 173 | 284 => 174 | 285 => 175 | 286 => 176 | 129 => 199 | 317 => 198 | 318 => 200 | 319 => 201 | 320 => 202 | 337 => 211 | 338 => 212 | n => n, fun | 9 => 9 | 3 => 3 | 75 => 140 | 76 => 141 | 4 => 4 | 5 => 5 | 167 => 207 | 37 => 52 | 0 => 0 | 85 => 208 | 2 => 2 | 168 => 210 | 53 => 88 | 175 => 222 | 46 => 177 | 210 => 225 | 127 => 179 | 145 => 238 | 143 => 236 | 21 => 21 | 171 => 193 | 173 => 196 | 212 => 216 | 51 => 217 | 20 => 20 | 213 => 218 | 232 => 239 | 233 => 240 | 80 => 143 | n => n, fun | 15 => 2 | 16 => 3 | 17 => 1 | 18 => 6 | 19 => 7 | n => n⟩
theorem Tryz.lays172 : Go.Proofs.Lays.n172 Tryz.prog Tryz.lays172_ren := {
 mixed := by kernel_rfl
 f129 := Tryz.func199.trans (congrArg some (by kernel_rfl))
 f171 := Tryz.func61.trans (congrArg some (by kernel_rfl))
 f172 := Tryz.func128.trans (congrArg some (by kernel_rfl))
 f205 := Tryz.func208.trans (congrArg some (by kernel_rfl))
 f243 := Tryz.func104.trans (congrArg some (by kernel_rfl))
 f244 := Tryz.func158.trans (congrArg some (by kernel_rfl))
 f245 := Tryz.func159.trans (congrArg some (by kernel_rfl))
 f246 := Tryz.func146.trans (congrArg some (by kernel_rfl))
 f247 := Tryz.func184.trans (congrArg some (by kernel_rfl))
 f279 := Tryz.func185.trans (congrArg some (by kernel_rfl))
 f280 := Tryz.func186.trans (congrArg some (by kernel_rfl))
 f281 := Tryz.func187.trans (congrArg some (by kernel_rfl))
 f282 := Tryz.func188.trans (congrArg some (by kernel_rfl))
 f283 := Tryz.func173.trans (congrArg some (by kernel_rfl))
 f284 := Tryz.func174.trans (congrArg some (by kernel_rfl))
 f285 := Tryz.func175.trans (congrArg some (by kernel_rfl))
 f286 := Tryz.func176.trans (congrArg some (by kernel_rfl))
 f287 := Tryz.func206.trans (congrArg some (by kernel_rfl))
 f316 := Tryz.func207.trans (congrArg some (by kernel_rfl))
 f317 := Tryz.func198.trans (congrArg some (by kernel_rfl))
 f318 := Tryz.func200.trans (congrArg some (by kernel_rfl))
 f319 := Tryz.func201.trans (congrArg some (by kernel_rfl))
 f320 := Tryz.func202.trans (congrArg some (by kernel_rfl))
 f321 := Tryz.func213.trans (congrArg some (by kernel_rfl))
 f322 := Tryz.func214.trans (congrArg some (by kernel_rfl))
 f337 := Tryz.func211.trans (congrArg some (by kernel_rfl))
 f338 := Tryz.func212.trans (congrArg some (by kernel_rfl))
 t0 := Tryz.underlying0
 a0 := Tryz.isAgg0
 z0 := Tryz.sizeOf0
 v0 := Tryz.zeroValue0
 t2 := Tryz.underlying2
 a2 := Tryz.isAgg2
 z2 := Tryz.sizeOf2
 v2 := Tryz.zeroValue2
 t3 := Tryz.underlying3
 a3 := Tryz.isAgg3
 z3 := Tryz.sizeOf3
 v3 := Tryz.zeroValue3
 t4 := Tryz.underlying4
 a4 := Tryz.isAgg4
 z4 := Tryz.sizeOf4
 v4 := Tryz.zeroValue4
 t5 := Tryz.underlying5
 a5 := Tryz.isAgg5
 z5 := Tryz.sizeOf5
 v5 := Tryz.zeroValue5
 t9 := Tryz.underlying9
 a9 := Tryz.isAgg9
 z9 := Tryz.sizeOf9
 v9 := Tryz.zeroValue9
 t20 := Tryz.underlying20
 a20 := Tryz.isAgg20
 z20 := Tryz.sizeOf20
 v20 := Tryz.zeroValue20
 t21 := Tryz.underlying21
 a21 := Tryz.isAgg21
 z21 := Tryz.sizeOf21
 v21 := Tryz.zeroValue21
 t37 := Tryz.underlying52
 a37 := Tryz.isAgg52
 z37 := Tryz.sizeOf52
 v37 := Tryz.zeroValue52
 t46 := Tryz.underlying177
 a46 := Tryz.isAgg177
 z46 := Tryz.sizeOf177
 v46 := Tryz.zeroValue177
 t51 := Tryz.underlying217
 a51 := Tryz.isAgg217
 z51 := Tryz.sizeOf217
 v51 := Tryz.zeroValue217
 t53 := Tryz.underlying88
 a53 := Tryz.isAgg88
 z53 := Tryz.sizeOf88
 v53 := Tryz.zeroValue88
 t75 := Tryz.underlying140
 a75 := Tryz.isAgg140
 z75 := Tryz.sizeOf140
 v75 := Tryz.zeroValue140
 t76 := Tryz.underlying141
 a76 := Tryz.isAgg141
 z76 := Tryz.sizeOf141
 v76 := Tryz.zeroValue141
 t85 := Tryz.underlying208
 a85 := Tryz.isAgg208
 z85 := Tryz.sizeOf208
 v85 := Tryz.zeroValue208
 t127 := Tryz.underlying179
 a127 := Tryz.isAgg179
 z127 := Tryz.sizeOf179
 v127 := Tryz.zeroValue179
 t143 := Tryz.underlying236
 a143 := Tryz.isAgg236
 z143 := Tryz.sizeOf236
 v143 := Tryz.zeroValue236
 t145 := Tryz.underlying238
 a145 := Tryz.isAgg238
 z145 := Tryz.sizeOf238
 v145 := Tryz.zeroValue238
 t167 := Tryz.underlying207
 a167 := Tryz.isAgg207
 z167 := Tryz.sizeOf207
 v167 := Tryz.zeroValue207
 t168 := Tryz.underlying210
 a168 := Tryz.isAgg210
 z168 := Tryz.sizeOf210
 v168 := Tryz.zeroValue210
 t171 := Tryz.underlying193
 a171 := Tryz.isAgg193
 z171 := Tryz.sizeOf193
 v171 := Tryz.zeroValue193
 t173 := Tryz.underlying196
 a173 := Tryz.isAgg196
 z173 := Tryz.sizeOf196
 v173 := Tryz.zeroValue196
 t175 := Tryz.underlying222
 a175 := Tryz.isAgg222
 z175 := Tryz.sizeOf222
 v175 := Tryz.zeroValue222
 t210 := Tryz.underlying225
 a210 := Tryz.isAgg225
 z210 := Tryz.sizeOf225
 v210 := Tryz.zeroValue225
 t212 := Tryz.underlying216
 a212 := Tryz.isAgg216
 z212 := Tryz.sizeOf216
 v212 := Tryz.zeroValue216
 t213 := Tryz.underlying218
 a213 := Tryz.isAgg218
 z213 := Tryz.sizeOf218
 t232 := Tryz.underlying239
 a232 := Tryz.isAgg239
 z232 := Tryz.sizeOf239
 v232 := Tryz.zeroValue239
 t233 := Tryz.underlying240
 a233 := Tryz.isAgg240
 z233 := Tryz.sizeOf240
 v233 := Tryz.zeroValue240
 g15 := by kernel_rfl
 g16 := by kernel_rfl
 g17 := by kernel_rfl
 g18 := by kernel_rfl
 g19 := by kernel_rfl }
def Tryz.laysC172_ren : Go.Shelf.Ren := ⟨fun | 172 => 128 | 244 => 158 | 245 => 159 | 247 => 184 | 279 => 185 | 280 => 186 | 281 => 187 | 282 => 188 | 287 => 206 | 316 => 207 | 171 => 61 | 205 => 208 | 321 => 213 | 322 => 214 | 243 => 104 | 246 => 146 | 283 => 173 | 284 => 174 | 285 => 175 | 286 => 176 | 129 => 199 | 317 => 198 | 318 => 200 | 319 => 201 | 320 => 202 | 337 => 211 | 338 => 212 | n => n, fun | 9 => 9 | 3 => 3 | 75 => 140 | 76 => 141 | 4 => 4 | 5 => 5 | 167 => 207 | 37 => 52 | 0 => 0 | 85 => 208 | 2 => 2 | 168 => 210 | 53 => 88 | 175 => 222 | 46 => 177 | 210 => 225 | 127 => 179 | 145 => 238 | 143 => 236 | 21 => 21 | 171 => 193 | 173 => 196 | 212 => 216 | 51 => 217 | 20 => 20 | 213 => 218 | 232 => 239 | 233 => 240 | 80 => 143 | n => n, fun | 15 => 2 | 16 => 3 | 17 => 1 | 18 => 6 | 19 => 7 | n => n⟩
theorem Tryz.laysC172 : Go.Proofs.LaysC.n172 Tryz.prog Tryz.laysC172_ren := {
 mixed := by kernel_rfl
 f129 := Tryz.func199.trans (congrArg some (by kernel_rfl))
 f171 := Tryz.func61.trans (congrArg some (by kernel_rfl))
 f172 := Tryz.func128.trans (congrArg some (by kernel_rfl))
 f205 := Tryz.func208.trans (congrArg some (by kernel_rfl))
 f243 := Tryz.func104.trans (congrArg some (by kernel_rfl))
 f244 := Tryz.func158.trans (congrArg some (by kernel_rfl))
 f245 := Tryz.func159.trans (congrArg some (by kernel_rfl))
 f246 := Tryz.func146.trans (congrArg some (by kernel_rfl))
 f247 := Tryz.func184.trans (congrArg some (by kernel_rfl))
 f279 := Tryz.func185.trans (congrArg some (by kernel_rfl))
 f280 := Tryz.func186.trans (congrArg some (by kernel_rfl))
 f281 := Tryz.func187.trans (congrArg some (by kernel_rfl))
 f282 := Tryz.func188.trans (congrArg some (by kernel_rfl))
 f283 := Tryz.func173.trans (congrArg some (by kernel_rfl))
 f284 := Tryz.func174.trans (congrArg some (by kernel_rfl))
 f285 := Tryz.func175.trans (congrArg some (by kernel_rfl))
 f286 := Tryz.func176.trans (congrArg some (by kernel_rfl))
 f287 := Tryz.func206.trans (congrArg some (by kernel_rfl))
 f316 := Tryz.func207.trans (congrArg some (by kernel_rfl))
 f317 := Tryz.func198.trans (congrArg some (by kernel_rfl))
 f318 := Tryz.func200.trans (congrArg some (by kernel_rfl))
 f319 := Tryz.func201.trans (congrArg some (by kernel_rfl))
 f320 := Tryz.func202.trans (congrArg some (by kernel_rfl))
 f321 := Tryz.func213.trans (congrArg some (by kernel_rfl))
 f322 := Tryz.func214.trans (congrArg some (by kernel_rfl))
 f337 := Tryz.func211.trans (congrArg some (by kernel_rfl))
 f338 := Tryz.func212.trans (congrArg some (by kernel_rfl))
 t0 := Tryz.underlying0
 a0 := Tryz.isAgg0
 z0 := Tryz.sizeOf0
 v0 := Tryz.zeroValue0
 t2 := Tryz.underlying2
 a2 := Tryz.isAgg2
 z2 := Tryz.sizeOf2
 v2 := Tryz.zeroValue2
 t3 := Tryz.underlying3
 a3 := Tryz.isAgg3
 z3 := Tryz.sizeOf3
 v3 := Tryz.zeroValue3
 t4 := Tryz.underlying4
 a4 := Tryz.isAgg4
 z4 := Tryz.sizeOf4
 v4 := Tryz.zeroValue4
 t5 := Tryz.underlying5
 a5 := Tryz.isAgg5
 z5 := Tryz.sizeOf5
 v5 := Tryz.zeroValue5
 t9 := Tryz.underlying9
 a9 := Tryz.isAgg9
 z9 := Tryz.sizeOf9
 v9 := Tryz.zeroValue9
 t20 := Tryz.underlying20
 a20 := Tryz.isAgg20
 z20 := Tryz.sizeOf20
 v20 := Tryz.zeroValue20
 t21 := Tryz.underlying21
 a21 := Tryz.isAgg21
 z21 := Tryz.sizeOf21
 v21 := Tryz.zeroValue21
 t37 := Tryz.underlying52
 a37 := Tryz.isAgg52
 z37 := Tryz.sizeOf52
 v37 := Tryz.zeroValue52
 t46 := Tryz.underlying177
 a46 := Tryz.isAgg177
 z46 := Tryz.sizeOf177
 v46 := Tryz.zeroValue177
 t51 := Tryz.underlying217
 a51 := Tryz.isAgg217
 z51 := Tryz.sizeOf217
 v51 := Tryz.zeroValue217
 t53 := Tryz.underlying88
 a53 := Tryz.isAgg88
 z53 := Tryz.sizeOf88
 v53 := Tryz.zeroValue88
 t75 := Tryz.underlying140
 a75 := Tryz.isAgg140
 z75 := Tryz.sizeOf140
 v75 := Tryz.zeroValue140
 t76 := Tryz.underlying141
 a76 := Tryz.isAgg141
 z76 := Tryz.sizeOf141
 v76 := Tryz.zeroValue141
 t85 := Tryz.underlying208
 a85 := Tryz.isAgg208
 z85 := Tryz.sizeOf208
 v85 := Tryz.zeroValue208
 t127 := Tryz.underlying179
 a127 := Tryz.isAgg179
 z127 := Tryz.sizeOf179
 v127 := Tryz.zeroValue179
 t143 := Tryz.underlying236
 a143 := Tryz.isAgg236
 z143 := Tryz.sizeOf236
 v143 := Tryz.zeroValue236
 t145 := Tryz.underlying238
 a145 := Tryz.isAgg238
 z145 := Tryz.sizeOf238
 v145 := Tryz.zeroValue238
 t167 := Tryz.underlying207
 a167 := Tryz.isAgg207
 z167 := Tryz.sizeOf207
 v167 := Tryz.zeroValue207
 t168 := Tryz.underlying210
 a168 := Tryz.isAgg210
 z168 := Tryz.sizeOf210
 v168 := Tryz.zeroValue210
 t171 := Tryz.underlying193
 a171 := Tryz.isAgg193
 z171 := Tryz.sizeOf193
 v171 := Tryz.zeroValue193
 t173 := Tryz.underlying196
 a173 := Tryz.isAgg196
 z173 := Tryz.sizeOf196
 v173 := Tryz.zeroValue196
 t175 := Tryz.underlying222
 a175 := Tryz.isAgg222
 z175 := Tryz.sizeOf222
 v175 := Tryz.zeroValue222
 t210 := Tryz.underlying225
 a210 := Tryz.isAgg225
 z210 := Tryz.sizeOf225
 v210 := Tryz.zeroValue225
 t212 := Tryz.underlying216
 a212 := Tryz.isAgg216
 z212 := Tryz.sizeOf216
 v212 := Tryz.zeroValue216
 t213 := Tryz.underlying218
 a213 := Tryz.isAgg218
 z213 := Tryz.sizeOf218
 t232 := Tryz.underlying239
 a232 := Tryz.isAgg239
 z232 := Tryz.sizeOf239
 v232 := Tryz.zeroValue239
 t233 := Tryz.underlying240
 a233 := Tryz.isAgg240
 z233 := Tryz.sizeOf240
 v233 := Tryz.zeroValue240
 g15 := by kernel_rfl
 g16 := by kernel_rfl
 g17 := by kernel_rfl
 g18 := by kernel_rfl
 g19 := by kernel_rfl
 t80 := Tryz.underlying143
 a80 := Tryz.isAgg143
 z80 := Tryz.sizeOf143
 v80 := Tryz.zeroValue143
 i0 := by kernel_rfl
 i2 := by kernel_rfl
 i3 := by kernel_rfl
 i4 := by kernel_rfl
 i5 := by kernel_rfl
 i9 := by kernel_rfl
 i20 := by kernel_rfl
 i21 := by kernel_rfl
 i37 := by kernel_rfl
 i46 := by kernel_rfl
 i51 := by kernel_rfl
 i53 := by kernel_rfl
 i75 := by kernel_rfl
 i76 := by kernel_rfl
 i80 := by kernel_rfl
 i85 := by kernel_rfl
 i127 := by kernel_rfl
 i143 := by kernel_rfl
 i145 := by kernel_rfl
 i167 := by kernel_rfl
 i168 := by kernel_rfl
 i171 := by kernel_rfl
 i173 := by kernel_rfl
 i175 := by kernel_rfl
 i210 := by kernel_rfl
 i212 := by kernel_rfl
 i232 := by kernel_rfl
 i233 := by kernel_rfl
 m15 := by kernel_rfl
 m16 := by kernel_rfl
 m17 := by kernel_rfl
 m18 := by kernel_rfl
 m19 := by kernel_rfl
 c0 := by kernel_rfl
 c2 := by kernel_rfl
 c3 := by kernel_rfl
 c4 := by kernel_rfl
 c5 := by kernel_rfl
 c9 := by kernel_rfl
 c20 := by kernel_rfl
 c21 := by kernel_rfl
 c37 := by kernel_rfl
 c46 := by kernel_rfl
 c51 := by kernel_rfl
 c53 := by kernel_rfl
 c75 := by kernel_rfl
 c76 := by kernel_rfl
 c80 := by kernel_rfl
 c85 := by kernel_rfl
 c127 := by kernel_rfl
 c143 := by kernel_rfl
 c145 := by kernel_rfl
 c167 := by kernel_rfl
 c168 := by kernel_rfl
 c171 := by kernel_rfl
 c173 := by kernel_rfl
 c175 := by kernel_rfl
 c210 := by kernel_rfl
 c212 := by kernel_rfl
 c213 := by kernel_rfl
 c232 := by kernel_rfl
 c233 := by kernel_rfl }
theorem Tryz.Builder_Extra_156 : Builder.Extra Tryz.prog Tryz.lays156_ren := {
 sizeBuilder := by kernel_rfl
 liesBuilder := by kernel_rfl
 t5 := Tryz.underlying5
 a5 := Tryz.isAgg5
 z5 := Tryz.sizeOf5
 v5 := Tryz.zeroValue5
 infoByte := by kernel_rfl
 cellsByte := by kernel_rfl
 sizeByte := by kernel_rfl
 neB5 := by decide }
end Go.Proofs
namespace Go.Proofs.YtaobinhdnklojaaGreatDoor
open Go.RowKit

theorem wi {x : Int} (h1 : -9223372036854775808 ≤ x) (h2 : x ≤ 9223372036854775807) : w64 x = x := by
 show IntKind.i64.wrap x = x
 rw [IntKind.wrap_i64]; omega
theorem wn {k : Nat} (h : k < 4611686018427387904) : w64 ((k : Int) + 1) = ((k + 1 : Nat) : Int) := by
 rw [wi (by omega) (by omega)]; omega
theorem gp1 {α : Type} {p : Prop} [Decidable p] {x : Option α} (h : p) : grd p x = x := if_pos h
theorem cd1 {α : Type} {p : Prop} [Decidable p] {x y : α} (h : p) : cond (decide p) x y = x := by rw [decide_eq_true h]; rfl
theorem cd {α : Type} {p : Prop} [Decidable p] {x y : α} (h : ¬ p) : cond (decide p) x y = y := by rw [decide_eq_false h]; rfl
theorem cn {α : Type} {p : Prop} [Decidable p] {x y : α} (h : p) : cond (!decide p) x y = y := by rw [decide_eq_true h]; rfl
theorem cn1 {α : Type} {p : Prop} [Decidable p] {x y : α} (h : ¬ p) : cond (!decide p) x y = x := by rw [decide_eq_false h]; rfl
theorem gDe {α : Type} (l : List α) (k : Nat) (d : α) (h : k < l.length) : l.getD k d = l[k] := by simp [h]

theorem iter_rel {S S' R R' : Type} {f : S → Option (Lp S R)} {g : S' → Option (Lp S' R')} (I : Nat → S → S' → Prop) (Q : R → R' → Prop) (n : Nat)
  (h : ∀ k s t, k < n → I k s t → (∃ s' t', f s = some (.go s') ∧ g t = some (.go t') ∧ I (k + 1) s' t') ∨ ∃ r r', f s = some (.out r) ∧ g t = some (.out r') ∧ Q r r')
  (h' : ∀ s t, I n s t → ∃ r r', f s = some (.out r) ∧ g t = some (.out r') ∧ Q r r') {s : S} {t : S'} (h0 : I 0 s t) :
  ∃ r r', iter f s = some r ∧ iter g t = some r' ∧ Q r r' := by
 have key : ∀ d k s t, k + d = n → I k s t → ∃ r r', iter f s = some r ∧ iter g t = some r' ∧ Q r r' := by
  intro d
  induction d with
  | zero =>
    intro k s t hk hI
    obtain rfl : k = n := by omega
    obtain ⟨r, r', a, b, q⟩ := h' s t hI
    exact ⟨r, r', io a, io b, q⟩
  | succ d ih =>
    intro k s t hk hI
    rcases h k s t (by omega) hI with ⟨s', t', a, b, hI'⟩ | ⟨r, r', a, b, q⟩
    ·obtain ⟨r, r', e1, e2, q⟩ := ih (k + 1) s' t' (by omega) hI'
     exact ⟨r, r', (ig a).trans e1, (ig b).trans e2, q⟩
    ·exact ⟨r, r', io a, io b, q⟩
 exact key n 0 s t (by omega) h0

theorem if1 {S R : Type} {f : S → Option (Lp S R)} {r : R} (n : Nat) (st : Nat → S)
  (h : ∀ k, k < n → f (st k) = some (.go (st (k + 1)))) (h' : f (st n) = some (.out r)) {s : S} (h0 : s = st 0) : iter f s = some r := by
 have key : ∀ d k, k + d = n → iter f (st k) = some r := by
  intro d
  induction d with
  | zero => intro k hk; obtain rfl : k = n := by omega
            exact io h'
  | succ d ih => intro k hk; exact (ig (h k (by omega))).trans (ih (k + 1) (by omega))
 rw [h0]; exact key n 0 (by omega)

theorem iter_all {α S R : Type} {f : S → Option (Lp S R)} {good bad : R} (l : List α) (p : α → Bool) (d : α) (st : Nat → S)
  (h : ∀ k, k < l.length → f (st k) = some (if p (l.getD k d) then .go (st (k + 1)) else .out bad)) (h' : f (st l.length) = some (.out good)) {s : S} (h0 : s = st 0) :
  iter f s = some (if l.all p then good else bad) := by
 have key : ∀ e k, k + e = l.length → iter f (st k) = some (if (l.drop k).all p then good else bad) := by
  intro e
  induction e with
  | zero => intro k hk
            obtain rfl : k = l.length := by omega
            rw [io h']; simp
  | succ e ih =>
    intro k hk
    have hk' : k < l.length := by omega
    have hh := h k hk'
    rw [List.drop_eq_getElem_cons hk', List.all_cons]
    rw [gDe l k d hk'] at hh
    cases hp : p l[k] with
    | true => rw [hp, if_pos rfl] at hh; rw [ig hh, ih (k + 1) (by omega)]; simp
    | false => rw [hp] at hh; rw [io hh]; simp
 have := key l.length 0 (by omega)
 rw [h0, this]; simp

theorem iaN {S R : Type} {f : S → Option (Lp S R)} {good bad : R} (n : Nat) (p : Nat → Bool) (st : Nat → S)
  (h : ∀ k, k < n → f (st k) = some (if p k then .go (st (k + 1)) else .out bad)) (h' : f (st n) = some (.out good)) {s : S} (h0 : s = st 0) :
  iter f s = some (if (List.range n).all p then good else bad) := by
 refine iter_all (List.range n) p 0 st (fun k hk => ?_) (by simpa using h') h0
 have hk : k < n := by simpa using hk
 rw [h k hk, gDe _ _ _ (by simpa using hk)]
 simp
theorem ie1 {S R : Type} {f : S → Option (Lp S R)} {miss : R} (n : Nat) (p : Nat → Bool) (hit : Nat → R) (st : Nat → S)
  (h : ∀ k, k < n → f (st k) = some (if p k then .out (hit k) else .go (st (k + 1)))) (h' : f (st n) = some (.out miss)) {s : S} (h0 : s = st 0) :
  ∃ r, iter f s = some r ∧ ((∃ k, k < n ∧ p k = true ∧ (∀ j, j < k → p j = false) ∧ r = hit k) ∨ ((∀ k, k < n → p k = false) ∧ r = miss)) := by
 have key : ∀ e k, k + e = n → (∀ j, j < k → p j = false) → ∃ r, iter f (st k) = some r ∧ ((∃ k, k < n ∧ p k = true ∧ (∀ j, j < k → p j = false) ∧ r = hit k) ∨ ((∀ k, k < n → p k = false) ∧ r = miss)) := by
  intro e
  induction e with
  | zero => intro k hk hj
            obtain rfl : k = n := by omega
            exact ⟨miss, io h', .inr ⟨hj, rfl⟩⟩
  | succ e ih =>
    intro k hk hj
    have hh := h k (by omega)
    cases hp : p k with
    | true => rw [hp, if_pos rfl] at hh; exact ⟨hit k, io hh, .inl ⟨k, by omega, hp, hj, rfl⟩⟩
    | false =>
      rw [hp] at hh
      obtain ⟨r, hr, hq⟩ := ih (k + 1) (by omega) (fun j hj' => by
       rcases Nat.lt_or_ge j k with h1 | h1
       ·exact hj j h1
       ·obtain rfl : j = k := by omega
        exact hp)
      exact ⟨r, (ig hh).trans hr, hq⟩
 rw [h0]; exact key n 0 (by omega) (fun j hj => by omega)

end Go.Proofs.YtaobinhdnklojaaGreatDoor
namespace Go.Proofs.YtaobinhdnklojaaGreatDoor
open Go.RowKit

theorem set_mid {α : Type} : ∀ (pre : List α) (x y : α) (post : List α), (pre ++ x :: post).set pre.length y = pre ++ y :: post
 | [], x, y, post => rfl
 | a :: pre, x, y, post => by simp
end Go.Proofs.YtaobinhdnklojaaGreatDoor
namespace Go.Proofs.YtaobinhdnklojaaGreatDoor
open Go.RowKit

abbrev bs (l : List UInt8) : ByteArray := ⟨l.toArray⟩
theorem bs_list (s : ByteArray) : bs s.data.toList = s := by cases s; rfl
theorem lb1 (l : List UInt8) : (bs l).data.toList = l := by simp
theorem bs1 (l : List UInt8) : (bs l).size = l.length := by simp [ByteArray.size]
theorem ba (a b : List UInt8) : bs a ++ bs b = bs (a ++ b) := by
 apply ByteArray.ext
 simp [bs]
theorem bi {a b : List UInt8} : bs a = bs b ↔ a = b := by
 constructor
 ·intro h
  have := congrArg (fun s => s.data.toList) h
  simpa [bs] using this
 ·rintro rfl; rfl
theorem bs_ex (s : ByteArray) : ∃ l, s = bs l := ⟨_, (bs_list s).symm⟩
theorem bb (l : List UInt8) (i j : Int) : bsub (bs l) i j = bs ((l.drop i.toNat).take (j.toNat - i.toNat)) := by
 have := Lib.extract_eq (bs l) i.toNat j.toNat
 rw [lb1] at this
 exact this
theorem bAb (l : List UInt8) (i : Int) : bAt (bs l) i = ((l.getD i.toNat 0).toNat : Int) := by simp [bAt]

def bef (c : UInt8) : List UInt8 → List UInt8
 | [] => []
 | b :: l => if b = c then [] else b :: bef c l
theorem bn (c : UInt8) : ∀ l, c ∉ bef c l
 | [] => by simp [bef]
 | b :: l => by
   unfold bef
   split
   ·simp
   ·rename_i h
    simp only [List.mem_cons, not_or]
    exact ⟨fun e => h e.symm, bn c l⟩
theorem bef_all (c : UInt8) : ∀ l, c ∉ l → bef c l = l
 | [], _ => rfl
 | b :: l, h => by
   simp only [List.mem_cons, not_or] at h
   unfold bef
   rw [if_neg (fun e => h.1 e.symm), bef_all c l h.2]
theorem bs4 (c : UInt8) : ∀ l, c ∈ l → ∃ r, l = bef c l ++ c :: r
 | [], h => by simp at h
 | b :: l, h => by
   unfold bef
   by_cases e : b = c
   ·rw [if_pos e, e]; exact ⟨l, rfl⟩
   ·rw [if_neg e]
    obtain ⟨r, hr⟩ := bs4 c l (by
     rcases List.mem_cons.1 h with h | h
     ·exact absurd h.symm e
     ·exact h)
    exact ⟨r, by rw [List.cons_append, ← hr]⟩
theorem ba1 (c : UInt8) : ∀ (a r : List UInt8), c ∉ a → bef c (a ++ c :: r) = a
 | [], r, _ => by simp [bef]
 | b :: a, r, h => by
   simp only [List.mem_cons, not_or] at h
   rw [List.cons_append]
   unfold bef
   rw [if_neg (fun e => h.1 e.symm), ba1 c a r h.2]
theorem bl1 (c : UInt8) : ∀ l, (bef c l).length ≤ l.length
 | [] => by simp [bef]
 | b :: l => by
   unfold bef
   have := bl1 c l
   split <;> simp <;> omega
theorem bef_lt (c : UInt8) (l : List UInt8) (h : c ∈ l) : (bef c l).length < l.length := by
 obtain ⟨r, e⟩ := bs4 c l h
 have := congrArg List.length e
 simp at this; omega
theorem bef_take (c : UInt8) : ∀ l, l.take (bef c l).length = bef c l
 | [] => by simp [bef]
 | b :: l => by
   unfold bef
   split
   ·simp
   ·simp [bef_take c l]

theorem io1 (c : UInt8) : ∀ l, Lib.index l [c] = if c ∈ l then ((bef c l).length : Int) else -1
 | [] => by simp [Lib.index]
 | b :: l => by
   unfold Lib.index
   by_cases e : b = c
   ·subst e
    simp [bef]
   ·have e2 : ([c].isPrefixOf (b :: l)) = false := by
     simp [List.isPrefixOf]
     exact fun h => e h.symm
    rw [e2, io1 c l]
    by_cases h : c ∈ l
    ·rw [if_pos h, if_pos (List.mem_cons_of_mem _ h)]
     have : bef c (b :: l) = b :: bef c l := by conv => lhs; unfold bef; rw [if_neg e]
     rw [this]
     have h2 : (((bef c l).length : Int) == -1) = false := by
      rw [beq_eq_false_iff_ne]; omega
     simp [h2]
    ·have h3 : c ∉ b :: l := by simp only [List.mem_cons, not_or]; exact ⟨fun h => e h.symm, h⟩
     rw [if_neg h, if_neg h3]
     simp
theorem contains_one (c : UInt8) (l : List UInt8) : Lib.contains l [c] = decide (c ∈ l) := by
 unfold Lib.contains
 rw [io1]
 by_cases h : c ∈ l
 ·rw [if_pos h]; simp [h]
 ·rw [if_neg h]; simp [h]
theorem cut_yes (c : UInt8) (a r : List UInt8) (h : c ∉ a) : Lib.cut (a ++ c :: r) [c] = (a, r, true) := by
 unfold Lib.cut
 have hm : c ∈ a ++ c :: r := by simp
 rw [io1, if_pos hm, ba1 c a r h, if_pos (by omega)]
 simp
theorem cut_no (c : UInt8) (l : List UInt8) (h : c ∉ l) : Lib.cut l [c] = (l, [], false) := by
 unfold Lib.cut
 rw [io1, if_neg h, if_neg (by omega)]
theorem cut_eq (c : UInt8) (l : List UInt8) : Lib.cut l [c] = (bef c l, if c ∈ l then l.drop ((bef c l).length + 1) else [], decide (c ∈ l)) := by
 by_cases h : c ∈ l
 ·obtain ⟨r, e⟩ := bs4 c l h
  have := cut_yes c (bef c l) r (bn c l)
  rw [← e] at this
  rw [this, if_pos h]
  simp only [h, decide_true, Prod.mk.injEq, true_and, and_true]
  conv => rhs; rw [e]
  rw [ba1 c _ _ (bn c l)]
  simp
 ·rw [cut_no c l h, if_neg h, bef_all c l h]
  simp [h]
theorem cAi (cs : List UInt8) : ∀ l, Lib.containsAny l cs = l.any fun b => cs.contains b
 | [] => by simp [Lib.containsAny, Lib.indexAny]
 | b :: l => by
   have ih := cAi cs l
   have hge := Lib.indexAny_ge cs l
   unfold Lib.containsAny at ih ⊢
   unfold Lib.indexAny
   rw [List.any_cons, ← ih]
   by_cases h : cs.contains b = true
   ·rw [if_pos h, h]; simp
   ·have h0 : cs.contains b = false := by simpa using h
    rw [if_neg h, h0, Bool.false_or]
    by_cases h2 : Lib.indexAny l cs = -1
    ·rw [h2]; simp
    ·have h3 : (Lib.indexAny l cs == -1) = false := by simpa using h2
     rw [h3]
     simp only [Bool.false_eq_true, if_false]
     congr 1
     apply propext
     constructor <;> intro <;> omega

def spl (c : UInt8) : List UInt8 → List (List UInt8)
 | [] => [[]]
 | b :: l => if b = c then [] :: spl c l else match spl c l with
   | x :: xs => (b :: x) :: xs
   | [] => [[b]]
def preF (p : List UInt8) : List (List UInt8) → List (List UInt8)
 | x :: xs => (p ++ x) :: xs
 | [] => [p]
theorem sn (c : UInt8) : ∀ l, spl c l ≠ []
 | [] => by simp [spl]
 | b :: l => by
   unfold spl
   split
   ·simp
   ·split <;> simp
theorem preF_snoc (c b : UInt8) (p l : List UInt8) (h : b ≠ c) : preF p (spl c (b :: l)) = preF (p ++ [b]) (spl c l) := by
 have e : spl c (b :: l) = match spl c l with
  | x :: xs => (b :: x) :: xs
  | [] => [[b]] := by conv => lhs; unfold spl; rw [if_neg h]
 rw [e]
 cases hs : spl c l with
 | nil => exact absurd hs (sn c l)
 | cons x xs => simp [preF]
theorem preF_hit (c : UInt8) (p l : List UInt8) : preF p (spl c (c :: l)) = p :: spl c l := by
 have e : spl c (c :: l) = [] :: spl c l := by conv => lhs; unfold spl; rw [if_pos rfl]
 rw [e]; simp [preF]
theorem preF_nil (c : UInt8) (p : List UInt8) : preF p (spl c []) = [p] := by simp [spl, preF]
theorem preF_zero (c : UInt8) (l : List UInt8) : preF [] (spl c l) = spl c l := by
 cases hs : spl c l with
 | nil => exact absurd hs (sn c l)
 | cons x xs => simp [preF]
theorem sh1 (c : UInt8) : ∀ l d, (spl c l).getD 0 d = bef c l
 | [], d => by simp [spl, bef]
 | b :: l, d => by
   have ih := sh1 c l d
   unfold spl bef
   by_cases h : b = c
   ·rw [if_pos h, if_pos h]; simp
   ·rw [if_neg h, if_neg h]
    cases hs : spl c l with
    | nil => exact absurd hs (sn c l)
    | cons x xs => rw [hs] at ih; simp at ih; simp [ih]
theorem spl_two (c : UInt8) : ∀ l, 2 ≤ (spl c l).length ↔ c ∈ l
 | [] => by simp [spl]
 | b :: l => by
   have ih := spl_two c l
   unfold spl
   by_cases h : b = c
   ·rw [if_pos h]
    subst h
    have : (spl b l).length ≠ 0 := fun e => sn b l (List.length_eq_zero_iff.1 e)
    simp; omega
   ·rw [if_neg h]
    have hm : c ∈ b :: l ↔ c ∈ l := by simp only [List.mem_cons]; exact ⟨fun e => e.elim (fun e => absurd e.symm h) id, .inr⟩
    rw [hm, ← ih]
    cases hs : spl c l with
    | nil => exact absurd hs (sn c l)
    | cons x xs => simp
theorem sl2 (c : UInt8) : ∀ l, (spl c l).length ≤ l.length + 1
 | [] => by simp [spl]
 | b :: l => by
   have ih := sl2 c l
   unfold spl
   by_cases h : b = c
   ·rw [if_pos h]; simp; omega
   ·rw [if_neg h]
    cases hs : spl c l with
    | nil => simp
    | cons x xs => rw [hs] at ih; simp at ih ⊢; omega

theorem dl2 : ∀ u : Nat, 0 < (Lib.decDigits u).length := by
 intro u
 unfold Lib.decDigits
 split <;> simp
theorem dl1 : ∀ (k u : Nat), u < 10 ^ (k + 1) → (Lib.decDigits u).length ≤ k + 1
 | 0, u, h => by
   unfold Lib.decDigits
   rw [dif_pos (by simpa using h)]; simp
 | k + 1, u, h => by
   unfold Lib.decDigits
   split
   ·simp
   ·have : u / 10 < 10 ^ (k + 1) := by
     rw [Nat.div_lt_iff_lt_mul (by omega)]
     rw [Nat.pow_succ] at h; exact h
    have := dl1 k (u / 10) this
    simp; omega
theorem dec_mem : ∀ (u : Nat) (b : UInt8), b ∈ Lib.decDigits u → 48 ≤ b.toNat ∧ b.toNat ≤ 57 := by
 intro u
 induction u using Nat.strongRecOn with
 | ind u ih =>
   intro b hb
   unfold Lib.decDigits at hb
   have key : ∀ d : Nat, d < 10 → (UInt8.ofNat (48 + d)).toNat = 48 + d := fun d hd => by
    simp only [UInt8.toNat_ofNat']; omega
   split at hb
   ·rename_i h
    simp only [List.mem_singleton] at hb
    subst hb
    rw [key u h]; omega
   ·simp only [List.mem_append, List.mem_singleton] at hb
    rcases hb with hb | hb
    ·exact ih (u / 10) (by omega) b hb
    ·subst hb
     rw [key _ (by omega)]; omega
def sumF (h : Int) : List UInt8 → Int
 | [] => h
 | b :: l => sumF ((41 * h + b.toNat + 1) % 999979) l
theorem sFr : ∀ (l : List UInt8) (h : Int), 0 ≤ h → h < 999979 → 0 ≤ sumF h l ∧ sumF h l < 999979
 | [], h, h0, h1 => ⟨h0, h1⟩
 | b :: l, h, h0, h1 => sFr l _ (Int.emod_nonneg _ (by omega)) (Int.emod_lt_of_pos _ (by omega))
theorem sFs : ∀ (l : List UInt8) (h : Int) (b : UInt8), sumF h (l ++ [b]) = (41 * sumF h l + b.toNat + 1) % 999979
 | [], _, _ => rfl
 | _ :: l, _, b => sFs l _ b
end Go.Proofs.YtaobinhdnklojaaGreatDoor
namespace Go.Proofs.YtaobinhdnklojaaGreatDoor
open Go.RowKit

def cutA (s p : ByteArray) : ByteArray := ⟨(Lib.cut s.data.toList p.data.toList).1.toArray⟩
def cutB (s p : ByteArray) : ByteArray := ⟨(Lib.cut s.data.toList p.data.toList).2.1.toArray⟩
def cutF (s p : ByteArray) : Bool := (Lib.cut s.data.toList p.data.toList).2.2
def anyOf (s p : ByteArray) : Bool := Lib.containsAny s.data.toList p.data.toList
def asciiB (s : ByteArray) : Bool := s.data.toList.all fun b => decide (b.toNat < 128)
def itoaB (n : Int) : ByteArray := ⟨(Lib.itoa n).toArray⟩
theorem asciiB_out {s : ByteArray} (h : asciiB s = true) : ∀ (j : Nat) b, s.data.toList[j]? = some b → b.toNat < 128 := fun j b e => by
 have := List.all_eq_true.1 h b (List.mem_of_getElem? e)
 simpa using this
theorem esC1 (a0 a1 : ByteArray) (h : a0.size < 4294967281) : Spec Tryz.prog 110 [.v (.string a0), .v (.string a1)] [] (.tup [.v (.string (cutA a0 a1)), .v (.string (cutB a0 a1)), .bl (cutF a0 a1)]) [] :=
 se1 (vs := [.string a0, .string a1]) fun w GB hL hB => by
  obtain ⟨⟨_, m, hm⟩, _⟩ := hL
  refine (Any.strings_Cut Tryz.lays145 a0 a1 m w h hm).mono ?_
  rintro e w' ⟨rfl, n, rfl⟩
  refine ⟨_, rfl, fun w S => ?_, below_draw w n⟩
  refine rt_tup (vs := [.string (cutA a0 a1), .string (cutB a0 a1), .bool (cutF a0 a1)]) rfl fun i c x e1 e2 => ?_
  match i with
  | 0 => cases e1; cases e2; exact .v _
  | 1 => cases e1; cases e2; exact .v _
  | 2 => cases e1; cases e2; exact .bl _
  | i + 3 => cases e1
theorem esC (a0 a1 : ByteArray) (h : a0.size < 4294967281) : Spec Tryz.prog 164 [.v (.string a0), .v (.string a1)] [] (.bl (Lib.contains a0.data.toList a1.data.toList)) [] :=
 se1 (vs := [.string a0, .string a1]) fun w GB hL hB => by
  obtain ⟨⟨_, m, hm⟩, _⟩ := hL
  refine (Any.strings_Contains Tryz.lays144 a0 a1 m w h hm).mono ?_
  rintro e w' ⟨rfl, rfl⟩
  exact ⟨_, rfl, fun w S => .bl _, Below.refl _ _⟩
theorem esCA (a0 a1 : ByteArray) (h : a0.size < 4294967281 ∧ a1.size < 4294967281 ∧ asciiB a0 = true ∧ asciiB a1 = true) : Spec Tryz.prog 127 [.v (.string a0), .v (.string a1)] [] (.bl (anyOf a0 a1)) [] :=
 se1 (vs := [.string a0, .string a1]) fun w GB hL hB => by
  refine (Any.strings_ContainsAny_laid Tryz.lays150 (by kernel_rfl) a0 a1 w h.1 h.2.1 (asciiB_out h.2.2.1) (asciiB_out h.2.2.2)).mono ?_
  rintro e w' ⟨rfl, hb⟩
  exact ⟨_, rfl, fun w S => .bl _, hb⟩
theorem esI (a0 : Int) (h : -9223372036854775808 ≤ a0 ∧ a0 ≤ 9223372036854775807) : Spec Tryz.prog 61 [.v (.int .i64 a0)] [] (.v (.string (itoaB a0))) [] :=
 se1 (vs := [.int .i64 a0]) fun w GB hL hB => by
  obtain ⟨_, _, t, fr, ht⟩ := hL
  refine (Any.strconv_Itoa Tryz.laysM171 a0 h.1 h.2 w (by
   unfold Lib.TabIs World.var?
   rw [Tryz.laysM171.m17]
   rw [Option.bind_some]
   show (match w.heap[1]? with | some (Obj.cells cs _ _) => some cs | _ => none) = _
   rw [ht])).mono ?_
  rintro e w' ⟨rfl, k, os, rfl⟩
  exact ⟨_, rfl, fun w S => .v _, below_grow w k os⟩
end Go.Proofs.YtaobinhdnklojaaGreatDoor
namespace Go.Proofs
open Go.Shelf
end Go.Proofs
namespace Go.Proofs.YtaobinhdnklojaaGreatDoor
open Go.RowKit

def joinB (xs : List ByteArray) (sep : ByteArray) : ByteArray := ⟨(Lib.join (xs.map (·.data.toList)) sep.data.toList).toArray⟩
theorem lsoc {w : World} {b o : Nat} {x : Value} (h : w.cell? ⟨b, o, none⟩ = some x) : b < w.heap.size := by
 rcases Nat.lt_or_ge b w.heap.size with h1 | h1
 ·exact h1
 ·exfalso
  unfold World.cell? at h
  rw [Array.getElem?_eq_none h1] at h
  simp at h
theorem spec_ext2 {P : Program} {f : FuncId} {az : List AV} {r : AV}
  (hc : ∀ (w : World) (GB : Nat → Prop) (S : Nat → Prop) (V : Nat → Info) (vs : Array Value), Lw GB w → (∀ b, GB b → b < w.heap.size) → vs.size = az.length → (∀ (i : Nat) (c : AV) (x : Value), az[i]? = some c → vs[i]? = some x → R w S V 0 c x) →
   Calls P f vs w fun e w' => ∃ x, e = .returned x ∧ (∀ w S, Rt w S r x) ∧ Below w.heap.size w w') :
  Spec P f az [] r [] := by
 intro w GB V S0 args hLw hGB hHR hsz hargs
 refine (hc w GB _ V args hLw (fun b hb => (hGB b hb).1) hsz hargs).mono ?_
 rintro e w' ⟨x, rfl, hx, hb⟩
 refine ⟨x, V, rfl, (Kept.refl _ w).below hb, Nat.le_refl _, fun _ _ => rfl, ?_, .imm _ _ (hx _ _)⟩
 exact ⟨fun i j li lj e => by simp at e, fun id lb e => by simp at e, fun id lb e => by simp at e⟩
theorem two_args {vs : Array Value} {x y : Value} (h : vs.size = 2) (h0 : vs[0]? = some x) (h1 : vs[1]? = some y) : vs = #[x, y] := by
 apply Array.ext'
 apply List.ext_getElem?
 intro i
 match i with
 | 0 => simpa using h0
 | 1 => simpa using h1
 | i + 2 => rw [Array.getElem?_toList, Array.getElem?_eq_none (by omega)]; rfl
theorem esJ (xs : List ByteArray) (sep : ByteArray) (h : (joinB xs sep).size ≤ 140737488355328) : Spec Tryz.prog 62 [.tree .str xs, .v (.string sep)] [] (.v (.string (joinB xs sep))) [] :=
 spec_ext2 fun w GB S V vs hL hB hsz hargs => by
  have hsz : vs.size = 2 := hsz
  obtain ⟨x0, h0⟩ : ∃ x, vs[0]? = some x := ⟨_, Array.getElem?_eq_getElem (by omega)⟩
  obtain ⟨x1, h1⟩ : ∃ x, vs[1]? = some x := ⟨_, Array.getElem?_eq_getElem (by omega)⟩
  have r0 := (hargs 0 _ _ rfl h0).tree_inv
  have r1 := (hargs 1 _ _ rfl h1).v_inv
  rw [r1] at h1
  cases r0 with
  | tree _ _ a len cap b o X hlen hb hc hm ha hx hh =>
    subst hlen
    rw [two_args hsz h0 h1]
    rcases Nat.eq_zero_or_pos xs.length with hz | hz
    ·obtain rfl := List.length_eq_zero_iff.1 hz
     refine (Any.strings_Join_none Tryz.lays156 Tryz.Builder_Extra_156 a cap sep w).mono ?_
     rintro e w' ⟨rfl, rfl⟩
     exact ⟨_, rfl, fun w S => .v _, Below.refl _ _⟩
    ·obtain ⟨rfl, hS⟩ := ha hz
     have cells : ∀ (j : Nat) x, xs[j]? = some x → w.cell? ⟨b, o + j, none⟩ = some (.string x) := fun j x e => by
      obtain ⟨hj, ej⟩ := List.getElem?_eq_some_iff.1 e
      have e0 : (rowT .str xs j)[0]? = some (.v (.string x)) := by
       have e1 : ∀ d : ByteArray, xs.getD j d = x := fun d => by rw [List.getD_eq_getElem?_getD, e]; rfl
       exact congrArg (fun z => some (AV.v (.string z))) (e1 _)
      have q1 := (hx j 0 _ hj e0).1
      have q2 := hh j 0 _ hj e0
      generalize X j 0 = y at q1 q2
      cases q2
      simpa [Ty.n] using q1
     have hbk : b < w.heap.size := lsoc (cells 0 xs[0] (List.getElem?_eq_getElem hz))
     refine (Any.strings_Join Tryz.lays156 Tryz.Builder_Extra_156 b o cap xs sep w cells hbk hb hc (by simpa [joinB, ByteArray.size] using h)).mono ?_
     rintro e w' ⟨rfl, hbel⟩
     exact ⟨_, rfl, fun w S => .v _, hbel⟩
end Go.Proofs.YtaobinhdnklojaaGreatDoor
namespace Go.Proofs.YtaobinhdnklojaaGreatDoor
open Go.RowKit

def splitB (s sep : ByteArray) : List ByteArray := Lib.splitB sep 0 (Lib.countB s sep) s
theorem splitB_pos (s sep : ByteArray) (h : 1 ≤ sep.size) : (splitB s sep).length = Lib.countB s sep + 1 := Lib.splitB_all sep h 0 _ s rfl
theorem spec_ext_strs {P : Program} {f : FuncId} {vs : List Value} {ty : TypeId} (xs : List ByteArray) (hl : xs.length ≤ bL)
  (hc : ∀ (w : World) (GB : Nat → Prop), Lw GB w → (∀ b, GB b → b < w.heap.size) → Calls P f vs.toArray w fun e w' => e = .returned (.slice (some ⟨w.heap.size, 0, none⟩) xs.length xs.length) ∧ w' = w.alloc (.cells (xs.map Value.string).toArray ty)) :
  Spec P f (vs.map AV.v) [] (.own 0) [some (.arr ty .str xs)] := by
 intro w GB V S0 args hLw hGB hHR hsz hargs
 have e : args = vs.toArray := by
  apply Array.ext'
  apply List.ext_getElem?
  intro i
  simp only [Array.getElem?_toList]
  rcases Nat.lt_or_ge i args.size with h | h
  ·have e1 : args[i]? = some args[i] := Array.getElem?_eq_getElem h
   have h2 : i < vs.length := by rw [hsz, List.length_map] at h; exact h
   have e2 : (vs.map AV.v)[i]? = some (.v vs[i]) := by simp [h2]
   rw [e1, (hargs i _ _ e2 e1).v_inv]
   simp [h2]
  ·rw [Array.getElem?_eq_none h]
   rw [hsz, List.length_map] at h
   simp [h]
 subst e
 refine (hc w GB hLw (fun b hb => (hGB b hb).1)).mono ?_
 rintro e w' ⟨rfl, rfl⟩
 have hbel : Below w.heap.size w (w.alloc (.cells (xs.map Value.string).toArray ty)) := (Below.refl _ _).alloc (Nat.le_refl _) _
 refine ⟨_, fun _ => ⟨w.heap.size, 1, xs.length, .slice (some ⟨w.heap.size, 0, none⟩) xs.length xs.length⟩, rfl, (Kept.refl _ w).below hbel, by simp, fun i hi => by simp at hi, ⟨?_, ?_, ?_⟩, ?_⟩
 ·intro i j li lj h1 h2 hij
  match i, j with
  | 0, 0 => exact absurd rfl hij
  | 0, j + 1 => simp at h2
  | i + 1, _ => simp at h1
 ·intro id lb h1
  match id with
  | id + 1 => simp at h1
  | 0 =>
    cases h1
    refine ⟨_, BlkR.newArr (cap := xs.length) (ty := ty) (t := .str) (xs := xs) (L := xs.map Value.string) (heap_alloc_new w _) rfl (Nat.le_refl _) (Nat.le_trans hl (by decide)) (by simp [Ty.n]) hl (by simp only [Ty.n, Nat.mul_one]; exact List.take_of_length_le (by simp only [List.length_map]; exact Nat.le_refl _)) fun k j c hk hj => ?_⟩
    have hj : ([AV.v (.string (List.getD xs k (Ty.dflt .str)))] : List AV)[j]? = some c := hj
    have hk : k < xs.length := hk
    match j, hj with
    | j + 1, hj => simp at hj
    | 0, hj =>
      have hj : AV.v (.string (List.getD xs k (Ty.dflt .str))) = c := Option.some.inj hj
      have e1 : List.getD xs k (Ty.dflt .str) = xs[k] := gDe xs k _ hk
      rw [e1] at hj
      subst hj
      refine ⟨.string xs[k], ?_, rfl, .v _⟩
      simp only [Ty.n, Nat.mul_one, Nat.add_zero]
      rw [List.getElem?_map, List.getElem?_eq_getElem hk]; rfl
 ·intro id lb h1 h2
  exact absurd h2 (Nat.lt_irrefl _)
 ·exact R.own 0 (by simp)
theorem esS (a0 a1 : ByteArray) (h : a0.size < 4294967281 ∧ 1 ≤ a1.size) : Spec Tryz.prog 55 [.v (.string a0), .v (.string a1)] [] (.own 0) [some (.arr 9 .str (splitB a0 a1))] := by
 have hle := Lib.countB_le a1 h.2 a0.size a0 (Nat.le_refl _)
 have hlen := splitB_pos a0 a1 h.2
 refine spec_ext_strs (vs := [.string a0, .string a1]) (splitB a0 a1) (by rw [hlen]; show _ ≤ 140737488355328; omega) fun w GB hL hB => ?_
 obtain ⟨⟨_, m, hm⟩, _⟩ := hL
 rw [hlen]
 exact Any.strings_Split Tryz.lays146 (by kernel_rfl) a0 a1 m w h.1 hm h.2

def pI (s : ByteArray) : Int × Bool :=
 if s.size ≤ 7 then
  match Lib.atoi s.data.toList with
  | some n => if (-999999 ≤ n ∧ n ≤ 999999) ∧ itoaB n = s then (n, true) else (0, false)
  | none => (0, false)
 else (0, false)
theorem tab_of {w : World} {t : TypeId} {fr : Nat × Nat} (ht : w.heap[1]? = some (.cells (Lib.pow10Tab.map fun z => Value.int .u64 z).toArray t fr)) : Lib.TabIs Tryz.prog w "internal/strconv.uint64pow10" .u64 Lib.pow10Tab := by
 unfold Lib.TabIs World.var?
 rw [Tryz.laysM171.m17]
 rw [Option.bind_some]
 show (match w.heap[1]? with | some (Obj.cells cs _ _) => some cs | _ => none) = _
 rw [ht]
theorem tl (a : ByteArray) : a.toList = a.data.toList := by
 have key : ∀ (n i : Nat) (r : List UInt8), a.size - i = n → ByteArray.toList.loop a i r = r.reverse ++ a.data.toList.drop i := by
  intro n
  induction n with
  | zero =>
    intro i r h
    unfold ByteArray.toList.loop
    have hl : a.data.toList.length = a.size := Array.length_toList
    rw [if_neg (by omega), List.drop_of_length_le (by omega)]; simp
  | succ n ih =>
    intro i r h
    unfold ByteArray.toList.loop
    have hl : a.data.toList.length = a.size := Array.length_toList
    have hi : i < a.data.toList.length := by omega
    rw [if_pos (by omega), ih (i + 1) _ (by omega), List.drop_eq_getElem_cons hi]
    have hg : a.get! i = a.data.toList[i] := by
     show a.data[i]! = _
     rw [getElem!_pos a.data i (by simpa using hi), Array.getElem_toList]
    rw [hg]; simp
 unfold ByteArray.toList
 rw [key _ 0 [] rfl]; simp
theorem tab_bytes {w : World} (hT : Lib.TabIs Tryz.prog w "internal/strconv.uint64pow10" .u64 Lib.pow10Tab) (hg : 1 < w.heap.size) (t : TypeId) {s : ByteArray} : Lib.TabIs Tryz.prog (Lib.bytesWorld w t s) "internal/strconv.uint64pow10" .u64 Lib.pow10Tab := by
 unfold Lib.TabIs World.var? at hT ⊢
 rw [Tryz.laysM171.m17] at hT ⊢
 rw [Option.bind_some] at hT ⊢
 rw [← hT]
 exact congrArg (fun x => match x with | some (Obj.cells cs _ _) => some cs | _ => none) (Lib.bytesWorld_at_old w t s _ hg)
set_option maxHeartbeats 4000000 in
set_option maxRecDepth 100000 in
theorem cPI (a0 : ByteArray) (w : World) (hT : Lib.TabIs Tryz.prog w "internal/strconv.uint64pow10" .u64 Lib.pow10Tab) (hg : 1 < w.heap.size) (ev : Value) (hev : w.cell? ⟨2, 0, none⟩ = some ev) (hei : ev = .nilIface ∨ ∃ te pe, ev = .iface te pe) :
  Calls Tryz.prog 87 #[.string a0] w fun e w' => e = .returned (.tuple #[.int .i64 (pI a0).1, .bool (pI a0).2]) ∧ Below w.heap.size w w' := by
 by_cases hs : a0.size ≤ 7
 ·cases ha : Lib.atoi a0.data.toList with
  | none =>
    have hp : pI a0 = (0, false) := by unfold pI; rw [if_pos hs, ha]
    rw [hp]
    go_enter Tryz.func87, Tryz.ntmps87
    go_wp2_with (first | (go_at_call 128; refine (Any.strconv_Atoi_err Tryz.laysC172 a0 (by omega) ha ev _ hev hei).mono ?_; rintro e w1 ⟨N, rfl, h1, h2, h3⟩))
    all_goals (first | (go_ret2; exact ⟨rfl, h3⟩) | (go_ret2; exact ⟨rfl, Below.refl _ _⟩) | trace_state)
  | some n =>
    have hv : pI a0 = if (-999999 ≤ n ∧ n ≤ 999999) ∧ itoaB n = a0 then (n, true) else (0, false) := by unfold pI; rw [if_pos hs, ha]
    have hb := Lib.atoi_bound ha (by rw [Array.length_toList]; exact Nat.le_trans hs (by decide))
    go_enter Tryz.func87, Tryz.ntmps87
    go_wp2_with (first
     | (go_at_call 128; refine (Any.strconv_Atoi Tryz.lays172 a0 n (by omega) ha _).mono ?_; rintro e w1 ⟨rfl, tt, rfl⟩)
     | (go_at_call 61; fail)
     | (go_at_call 70; go_in))
    ·refine (Any.strconv_Itoa Tryz.laysM171 n (by omega) (by omega) _ (tab_bytes hT hg _)).mono ?_
     rintro e w2 ⟨rfl, k, os, rfl⟩
     have hbel : ∀ z, Below w.heap.size w (Sort.grow ((Lib.bytesWorld w (Tryz.lays172_ren.t 5) z).drewN k) os) := fun z => (Lib.bytesWorld_below _ _ _).trans ((below_grow _ k os).mono (Lib.bytesWorld_below _ _ _).size)
     go_wp2
     ·rename_i hr1 hr2 hne
      rw [tl] at hne
      rw [hv, if_neg (fun h => by rw [← h.2] at hne; simp [itoaB] at hne)]
      go_ret2
      exact ⟨rfl, hbel _⟩
     ·rename_i hr1 hr2 hne
      rw [tl] at hne
      rw [hv, if_pos ⟨⟨hr1, hr2⟩, by
       have e : Lib.itoa n = a0.data.toList := by simpa using hne
       unfold itoaB
       rw [e]⟩]
      go_ret2
      exact ⟨rfl, hbel _⟩
    ·rename_i hr1 hr2
     try rw [hv, if_neg (fun h => by omega)]
     go_ret2
     exact ⟨rfl, Lib.bytesWorld_below _ _ _⟩
    ·rename_i hr1
     try rw [hv, if_neg (fun h => by omega)]
     go_ret2
     exact ⟨rfl, Lib.bytesWorld_below _ _ _⟩
 ·have hp : pI a0 = (0, false) := by unfold pI; rw [if_neg hs]
  rw [hp]
  go_enter Tryz.func87, Tryz.ntmps87
  go_wp2_with (exfalso; omega)
  go_ret2
  exact ⟨rfl, Below.refl _ _⟩
theorem eiPI (a0 : ByteArray) : Spec Tryz.prog 87 [.v (.string a0)] [] (.tup [.v (.int .i64 (pI a0).1), .bl (pI a0).2]) [] :=
 se1 (vs := [.string a0]) fun w GB hL hB => by
  obtain ⟨⟨⟨_, _, te, pe, hev⟩, _⟩, hg, t, fr, ht⟩ := hL
  refine (cPI a0 w (tab_of ht) (hB _ hg) _ hev (.inr ⟨te, pe, rfl⟩)).mono ?_
  rintro e w' ⟨rfl, hb⟩
  refine ⟨_, rfl, fun w S => ?_, hb⟩
  refine rt_tup (vs := [.int .i64 (pI a0).1, .bool (pI a0).2]) rfl fun i c x e1 e2 => ?_
  match i with
  | 0 => cases e1; cases e2; exact .v _
  | 1 => cases e1; cases e2; exact .bl _
  | i + 2 => cases e1
end Go.Proofs.YtaobinhdnklojaaGreatDoor

namespace Go.Proofs.YtaobinhdnklojaaGreatDoor
open Go.RowKit
attribute [local irreducible] Ob l5 Sub Spec Fin Again CallW CutC KOb iter

end Go.Proofs.YtaobinhdnklojaaGreatDoor
namespace Go.Proofs.YtaobinhdnklojaaGreatDoor
open Go.RowKit
set_option maxHeartbeats 100000000
set_option maxRecDepth 100000
attribute [local irreducible] Ob l5 Sub Spec Fin Again CallW CutC KOb iter

noncomputable def slO2 (a0 : R1) : Option (R1) :=
 (grd (([] : List Slot).length + a0.2.1.length ≤ 140737488355328 / 24 ∧ ([] : List Slot).length + a0.2.1.length ≤ 140737488355328) ((some (a0.1, (([] : List Slot) ++ a0.2.1), a0.2.2.1, a0.2.2.2.1, a0.2.2.2.2.1, ()))))
def slO2.res (_ : R1) (y : R1) : AV := (.agg [(.v (.int .i64 y.1)), (.own 0), (.v (.int .i64 y.2.2.1)), (.v (.int .i64 y.2.2.2.1)), (.v (.int .i64 y.2.2.2.2.1))])
def slO2.out (_ : R1) (y : R1) : List (Option LB) := [some (.arr 96 tS y.2.1)]
def slO2.S (ar : List AV) (h : List (Option LB)) (r : AV) (h1 : List (Option LB)) : Prop := ∃ a0 y, slO2 a0 = some y ∧ leL ar [(.agg [(.v (.int .i64 a0.1)), (.tree tS a0.2.1), (.v (.int .i64 a0.2.2.1)), (.v (.int .i64 a0.2.2.2.1)), (.v (.int .i64 a0.2.2.2.2.1))])] ∧ leH h [] ∧ r = slO2.res a0 y ∧ h1 = slO2.out a0 y
theorem slO2.call {ar h a0 y} (H : slO2 a0 = some y) (h0 : leLk ar [(.agg [(.v (.int .i64 a0.1)), (.tree tS a0.2.1), (.v (.int .i64 a0.2.2.1)), (.v (.int .i64 a0.2.2.2.1)), (.v (.int .i64 a0.2.2.2.2.1))])] (leHk h [])) : slO2.S ar h (slO2.res a0 y) (slO2.out a0 y) := ⟨a0, y, H, (ao h0).1, (ao h0).2, rfl, rfl⟩
theorem slO2.spec (a0 y) (H : slO2 a0 = some y) : Spec Tryz.prog 75 [(.agg [(.v (.int .i64 a0.1)), (.tree tS a0.2.1), (.v (.int .i64 a0.2.2.1)), (.v (.int .i64 a0.2.2.2.1)), (.v (.int .i64 a0.2.2.2.2.1))])] [] (slO2.res a0 y) (slO2.out a0 y) := by
 refine si (G0_ok.at tok []) (ct := []) Tryz.func75 rfl (by kernel_rfl) (by kernel_rfl) rfl ?_
 repeat' first
  | ((with_reducible refine eqg ?_); exact rfl)
  | ((with_reducible refine KOb.mk ?_); kernel_rfl)
  | ((with_reducible intro h); (repeat first | replace H := grd_k H | replace H := os1 H ‹_›); first | replace H := ct1 h H | replace H := cf1 h H | exact absurd h (by decide) | skip)
  | ((with_reducible refine Ob.mk ?_); first | (with_reducible rfl) | (first | ((repeat (first | (with_reducible exact grd_p H) | replace H := grd_k H | replace H := os1 H ‹_›)); done) | rfl | ((repeat (first | exact grd_p H | (have hp := grd_p H; exact hp) | replace H := grd_k H | replace H := os1 H ‹_› | (replace H := bind_some H; obtain ⟨_, _, H⟩ := H))); done) | (repeat (first | exact grd_p H | replace H := grd_k H | replace H := os1 H ‹_›))))
  | (with_reducible exact True.intro)
  | ((conv => whnf); first
      | (with_reducible refine And.intro ?_ ?_)
      | (with_reducible exact True.intro)
      | (with_reducible refine (?_ : Ob _))
      | ((with_reducible refine fm ?_); (repeat first | replace H := grd_k H | replace H := os1 H ‹_›); have H := Option.some.inj H; subst H))
  | constructor
def G10 : Env := G0.add 75 [] slO2.S
theorem G10_ok : EnvOk Tryz.prog G10 := G0_ok.add ent_75 fun ar h r h1 ⟨a0, y, hy, e1, e2, e3, e4⟩ => by
 subst e3 e4; exact (slO2.spec a0 y hy).le e1 e2
attribute [local irreducible] slO2

noncomputable def slO3 (a0 : C1) : Option (C1) :=
 ((slO2 (a0.1.1, a0.1.2.1, a0.1.2.2.1, a0.1.2.2.2.1, a0.1.2.2.2.2.1, ())).bind fun y1 => (some ((y1.1, y1.2.1, y1.2.2.1, y1.2.2.2.1, y1.2.2.2.2.1, ()), (a0.2.1.1, a0.2.1.2.1, a0.2.1.2.2.1, ()), ())))
def slO3.res (_ : C1) (y : C1) : AV := (.agg [(.v (.int .i64 y.1.1)), (.own 0), (.v (.int .i64 y.1.2.2.1)), (.v (.int .i64 y.1.2.2.2.1)), (.v (.int .i64 y.1.2.2.2.2.1)), (.v (.string y.2.1.1)), (.v (.string y.2.1.2.1)), (.v (.int .i64 y.2.1.2.2.1))])
def slO3.out (_ : C1) (y : C1) : List (Option LB) := [some (.arr 96 tS y.1.2.1)]
def slO3.S (ar : List AV) (h : List (Option LB)) (r : AV) (h1 : List (Option LB)) : Prop := ∃ a0 y, slO3 a0 = some y ∧ leL ar [(.agg [(.v (.int .i64 a0.1.1)), (.tree tS a0.1.2.1), (.v (.int .i64 a0.1.2.2.1)), (.v (.int .i64 a0.1.2.2.2.1)), (.v (.int .i64 a0.1.2.2.2.2.1)), (.v (.string a0.2.1.1)), (.v (.string a0.2.1.2.1)), (.v (.int .i64 a0.2.1.2.2.1))])] ∧ leH h [] ∧ r = slO3.res a0 y ∧ h1 = slO3.out a0 y
theorem slO3.call {ar h a0 y} (H : slO3 a0 = some y) (h0 : leLk ar [(.agg [(.v (.int .i64 a0.1.1)), (.tree tS a0.1.2.1), (.v (.int .i64 a0.1.2.2.1)), (.v (.int .i64 a0.1.2.2.2.1)), (.v (.int .i64 a0.1.2.2.2.2.1)), (.v (.string a0.2.1.1)), (.v (.string a0.2.1.2.1)), (.v (.int .i64 a0.2.1.2.2.1))])] (leHk h [])) : slO3.S ar h (slO3.res a0 y) (slO3.out a0 y) := ⟨a0, y, H, (ao h0).1, (ao h0).2, rfl, rfl⟩
theorem slO3.spec (a0 y) (H : slO3 a0 = some y) : Spec Tryz.prog 39 [(.agg [(.v (.int .i64 a0.1.1)), (.tree tS a0.1.2.1), (.v (.int .i64 a0.1.2.2.1)), (.v (.int .i64 a0.1.2.2.2.1)), (.v (.int .i64 a0.1.2.2.2.2.1)), (.v (.string a0.2.1.1)), (.v (.string a0.2.1.2.1)), (.v (.int .i64 a0.2.1.2.2.1))])] [] (slO3.res a0 y) (slO3.out a0 y) := by
 refine si (G10_ok.at tok []) (ct := []) Tryz.func39 rfl (by kernel_rfl) (by kernel_rfl) rfl ?_
 repeat' first
  | ((with_reducible refine eqg ?_); exact rfl)
  | ((with_reducible refine KOb.mk ?_); kernel_rfl)
  | ((with_reducible intro h); (repeat first | replace H := grd_k H | replace H := os1 H ‹_›); first | replace H := ct1 h H | replace H := cf1 h H | exact absurd h (by decide) | skip)
  | ((with_reducible refine Ob.mk ?_); first | (with_reducible rfl) | (first | ((repeat (first | (with_reducible exact grd_p H) | replace H := grd_k H | replace H := os1 H ‹_›)); done) | rfl | ((repeat (first | exact grd_p H | (have hp := grd_p H; exact hp) | replace H := grd_k H | replace H := os1 H ‹_› | (replace H := bind_some H; obtain ⟨_, _, H⟩ := H))); done) | (repeat (first | exact grd_p H | replace H := grd_k H | replace H := os1 H ‹_›))))
  | (with_reducible exact True.intro)
  | ((conv => whnf); first
      | (with_reducible refine And.intro ?_ ?_)
      | (with_reducible exact True.intro)
      | (with_reducible refine (?_ : Ob _))
      | ((with_reducible refine CallW.mk ?_); (repeat first | replace H := grd_k H | replace H := os1 H ‹_›); replace H := bind_some H; obtain ⟨y, hy, H⟩ := H; first | ((with_reducible have hz : slO2 _ = some y := hy); clear hz; refine ⟨_, _, slO2.call hy ?_, rfl, rfl, ?_⟩))
      | ((with_reducible refine fm ?_); (repeat first | replace H := grd_k H | replace H := os1 H ‹_›); have H := Option.some.inj H; subst H))
  | constructor
def G11 : Env := G10.add 39 [] slO3.S
theorem G11_ok : EnvOk Tryz.prog G11 := G10_ok.add ent_39 fun ar h r h1 ⟨a0, y, hy, e1, e2, e3, e4⟩ => by
 subst e3 e4; exact (slO3.spec a0 y hy).le e1 e2
attribute [local irreducible] slO3

noncomputable def slI (a0 : Int) (a1 : Int) (a2 : Int) : Option (Bool) :=
 (cond (decide (a1 ≤ a0)) ((some (decide (a0 ≤ a2)))) ((some false)))
def slI.res (_ : Int) (_ : Int) (_ : Int) (y : Bool) : AV := (.bl y)
def slI.out (_ : Int) (_ : Int) (_ : Int) (_ : Bool) : List (Option LB) := []
def slI.S (ar : List AV) (h : List (Option LB)) (r : AV) (h1 : List (Option LB)) : Prop := ∃ a0 a1 a2 y, slI a0 a1 a2 = some y ∧ leL ar [(.v (.int .i64 a0)), (.v (.int .i64 a1)), (.v (.int .i64 a2))] ∧ leH h [] ∧ r = slI.res a0 a1 a2 y ∧ h1 = slI.out a0 a1 a2 y
theorem slI.call {ar h a0 a1 a2 y} (H : slI a0 a1 a2 = some y) (h0 : leLk ar [(.v (.int .i64 a0)), (.v (.int .i64 a1)), (.v (.int .i64 a2))] (leHk h [])) : slI.S ar h (slI.res a0 a1 a2 y) (slI.out a0 a1 a2 y) := ⟨a0, a1, a2, y, H, (ao h0).1, (ao h0).2, rfl, rfl⟩
theorem slI.spec (a0 a1 a2 y) (H : slI a0 a1 a2 = some y) : Spec Tryz.prog 108 [(.v (.int .i64 a0)), (.v (.int .i64 a1)), (.v (.int .i64 a2))] [] (slI.res a0 a1 a2 y) (slI.out a0 a1 a2 y) := by
 refine si (G11_ok.at tok []) (ct := []) Tryz.func108 rfl (by kernel_rfl) (by kernel_rfl) rfl ?_
 repeat' first
  | ((with_reducible refine eqg ?_); exact rfl)
  | ((with_reducible refine KOb.mk ?_); kernel_rfl)
  | ((with_reducible intro h); (repeat first | replace H := grd_k H | replace H := os1 H ‹_›); first | replace H := ct1 h H | replace H := cf1 h H | exact absurd h (by decide) | skip)
  | ((with_reducible refine Ob.mk ?_); first | (with_reducible rfl) | (first | ((repeat (first | (with_reducible exact grd_p H) | replace H := grd_k H | replace H := os1 H ‹_›)); done) | rfl | ((repeat (first | exact grd_p H | (have hp := grd_p H; exact hp) | replace H := grd_k H | replace H := os1 H ‹_› | (replace H := bind_some H; obtain ⟨_, _, H⟩ := H))); done) | (repeat (first | exact grd_p H | replace H := grd_k H | replace H := os1 H ‹_›))))
  | (with_reducible exact True.intro)
  | ((conv => whnf); first
      | (with_reducible refine And.intro ?_ ?_)
      | (with_reducible exact True.intro)
      | (with_reducible refine (?_ : Ob _))
      | ((with_reducible refine fm ?_); (repeat first | replace H := grd_k H | replace H := os1 H ‹_›); have H := Option.some.inj H; subst H))
  | constructor
def G12 : Env := G11.add 108 [] slI.S
theorem G12_ok : EnvOk Tryz.prog G12 := G11_ok.add ent_108 fun ar h r h1 ⟨a0, a1, a2, y, hy, e1, e2, e3, e4⟩ => by
 subst e3 e4; exact (slI.spec a0 a1 a2 y hy).le e1 e2
attribute [local irreducible] slI

end Go.Proofs.YtaobinhdnklojaaGreatDoor
namespace Go.Proofs.YtaobinhdnklojaaGreatDoor
open Go.RowKit
set_option maxHeartbeats 100000000
set_option maxRecDepth 100000
attribute [local irreducible] Ob l5 Sub Spec Fin Again CallW CutC KOb iter

attribute [local irreducible] slI

noncomputable def slSl3 (a0 : R1) (a1 : Int) (v4 : Int) : Option (Lp (Int) ((Unit) ⊕ (Unit))) :=
 (cond (decide (v4 < a1)) (grd (0 ≤ v4 ∧ v4 < (a0.2.1.length : Int)) (cond (decide (((a0.2.1.getD v4.toNat dS).1) = ((a0.2.1.getD a1.toNat dS).1))) ((some (.out (Sum.inl ())))) (some (.go (w64 (v4 + (1 : Int))))))) ((some (.out (Sum.inr ())))))
noncomputable def slS5 (a0 : R1) (a1 : Int) : Option (Bool) :=
 (grd (0 ≤ a1 ∧ a1 < (a0.2.1.length : Int)) ((slI ((a0.2.1.getD a1.toNat dS).1) (0 : Int) (20 : Int)).bind fun y1 => (cond (!y1) ((some false)) ((slI ((a0.2.1.getD a1.toNat dS).2.2.1) (0 : Int) (8 : Int)).bind fun y2 => (cond (!y2) ((some false)) (cond (decide (((a0.2.1.getD a1.toNat dS).1) = (0 : Int))) (cond (!((a0.2.1.getD a1.toNat dS).2.1)) ((some (decide (((a0.2.1.getD a1.toNat dS).2.2.1) = (0 : Int))))) ((some false))) ((iter (fun s => slSl3 a0 a1 s) (0 : Int)).bind (Sum.elim (fun _ => (some false)) (fun _ => (grd ((a0.2.1.length : Int) ≠ 0) (grd (0 ≤ (Int.tmod (w64 (a1 + (1 : Int))) (a0.2.1.length : Int)) ∧ (Int.tmod (w64 (a1 + (1 : Int))) (a0.2.1.length : Int)) < (a0.2.1.length : Int)) (cond (!decide (((a0.2.1.getD ((Int.tmod (w64 (a1 + (1 : Int))) (a0.2.1.length : Int)).toNat) dS).1) = (0 : Int))) ((some false)) (cond (!((a0.2.1.getD a1.toNat dS).2.1)) ((some true)) (cond (decide (a1 = (0 : Int))) ((some true)) (grd ((2 : Int) ≠ 0) ((some (decide (a1 = (w64 (Int.tdiv (a0.2.1.length : Int) (2 : Int))))))))))))))))))))))
def slS5.res (_ : R1) (_ : Int) (y : Bool) : AV := (.bl y)
def slS5.out (_ : R1) (_ : Int) (_ : Bool) : List (Option LB) := []
def slS5.S (ar : List AV) (h : List (Option LB)) (r : AV) (h1 : List (Option LB)) : Prop := ∃ a0 a1 y, slS5 a0 a1 = some y ∧ leL ar [(.agg [(.v (.int .i64 a0.1)), (.tree tS a0.2.1), (.v (.int .i64 a0.2.2.1)), (.v (.int .i64 a0.2.2.2.1)), (.v (.int .i64 a0.2.2.2.2.1))]), (.v (.int .i64 a1))] ∧ leH h [] ∧ r = slS5.res a0 a1 y ∧ h1 = slS5.out a0 a1 y
theorem slS5.call {ar h a0 a1 y} (H : slS5 a0 a1 = some y) (h0 : leLk ar [(.agg [(.v (.int .i64 a0.1)), (.tree tS a0.2.1), (.v (.int .i64 a0.2.2.1)), (.v (.int .i64 a0.2.2.2.1)), (.v (.int .i64 a0.2.2.2.2.1))]), (.v (.int .i64 a1))] (leHk h [])) : slS5.S ar h (slS5.res a0 a1 y) (slS5.out a0 a1 y) := ⟨a0, a1, y, H, (ao h0).1, (ao h0).2, rfl, rfl⟩
theorem slS5.spec (a0 a1 y) (H : slS5 a0 a1 = some y) : Spec Tryz.prog 113 [(.agg [(.v (.int .i64 a0.1)), (.tree tS a0.2.1), (.v (.int .i64 a0.2.2.1)), (.v (.int .i64 a0.2.2.2.1)), (.v (.int .i64 a0.2.2.2.2.1))]), (.v (.int .i64 a1))] [] (slS5.res a0 a1 y) (slS5.out a0 a1 y) := by
 refine si (G12_ok.at tok []) (ct := [(3, some [1, 2, 5, 21, 29, 30, 31, 63, 64, 67, 68, 69, 70, 71, 72]), (7, some [1, 2, 5, 6, 63, 64, 67, 68, 69, 70, 71, 72]), (12, some [1, 2, 5, 58, 63, 64, 67, 68, 69, 70, 71, 72])]) Tryz.func113 rfl (by kernel_rfl) (by kernel_rfl) rfl ?_
 repeat' first
  | ((with_reducible refine eqg ?_); exact rfl)
  | ((with_reducible refine KOb.mk ?_); kernel_rfl)
  | ((with_reducible intro h); (repeat first | replace H := grd_k H | replace H := os1 H ‹_›); first | replace H := ct1 h H | replace H := cf1 h H | exact absurd h (by decide) | skip)
  | ((with_reducible refine Ob.mk ?_); first | (with_reducible rfl) | (first | ((repeat (first | (with_reducible exact grd_p H) | replace H := grd_k H | replace H := os1 H ‹_›)); done) | rfl | ((repeat (first | exact grd_p H | (have hp := grd_p H; exact hp) | replace H := grd_k H | replace H := os1 H ‹_› | (replace H := bind_some H; obtain ⟨_, _, H⟩ := H))); done) | (repeat (first | exact grd_p H | replace H := grd_k H | replace H := os1 H ‹_›))))
  | (with_reducible exact True.intro)
  | ((conv => whnf); first
      | (with_reducible refine And.intro ?_ ?_)
      | (with_reducible exact True.intro)
      | (with_reducible refine (?_ : Ob _))
      | ((with_reducible refine CallW.mk ?_); (repeat first | replace H := grd_k H | replace H := os1 H ‹_›); replace H := bind_some H; obtain ⟨y, hy, H⟩ := H; first | ((with_reducible have hz : slI _ _ _ = some y := hy); clear hz; refine ⟨_, _, slI.call hy ?_, rfl, rfl, ?_⟩))
      | ((repeat first | replace H := grd_k H | replace H := os1 H ‹_›); refine li1 (G12_ok.at tok []) (ct := [(3, some [1, 2, 5, 21, 29, 30, 31, 63, 64, 67, 68, 69, 70, 71, 72]), (7, some [1, 2, 5, 6, 63, 64, 67, 68, 69, 70, 71, 72]), (12, some [1, 2, 5, 58, 63, 64, 67, 68, 69, 70, 71, 72])]) (F := (fun s1 : Int => ⟨sl [(1, (.v (.int .i64 a1))), (2, (.loc 0 0 0)), (5, (.loc 1 0 0)), (6, (.v (.int .i64 s1)))], [some (.box 38 [(.v (.int .i64 a0.1)), (.tree tS a0.2.1), (.v (.int .i64 a0.2.2.1)), (.v (.int .i64 a0.2.2.2.1)), (.v (.int .i64 a0.2.2.2.2.1))]), some (.box 96 [(.v (.int .i64 ((a0.2.1.getD a1.toNat dS).1))), (.bl ((a0.2.1.getD a1.toNat dS).2.1)), (.v (.int .i64 ((a0.2.1.getD a1.toNat dS).2.2.1)))])]⟩)) (step := (fun s : Int => slSl3 _ _ s)) _ H (by kernel_rfl) (sa ?_) ?_; rotate_left; (intro s1 r v hr H); rotate_right)
      | ((repeat first | replace H := grd_k H | replace H := os1 H ‹_›); refine as1 H (by assumption) (sa ?_))
      | ((with_reducible refine fm ?_); (repeat first | replace H := grd_k H | replace H := os1 H ‹_›); have H := Option.some.inj H; subst H))
  | constructor
def G13 : Env := G12.add 113 [] slS5.S
theorem G13_ok : EnvOk Tryz.prog G13 := G12_ok.add ent_113 fun ar h r h1 ⟨a0, a1, y, hy, e1, e2, e3, e4⟩ => by
 subst e3 e4; exact (slS5.spec a0 a1 y hy).le e1 e2
attribute [local irreducible] slS5

noncomputable def slGl (a0 : R1) (v9 : Int) : Option (Lp (Int) ((Unit) ⊕ (Unit))) :=
 (cond (decide (v9 < (a0.2.1.length : Int))) ((slS5 (a0.1, a0.2.1, a0.2.2.1, a0.2.2.2.1, a0.2.2.2.2.1, ()) v9).bind fun y10 => (cond (!y10) ((some (.out (Sum.inl ())))) (some (.go (w64 (v9 + (1 : Int))))))) ((some (.out (Sum.inr ())))))
noncomputable def slG (a0 : R1) : Option (Bool) :=
 ((slI a0.1 (0 : Int) (3 : Int)).bind fun y1 => (cond (!y1) ((some false)) ((slI (a0.2.1.length : Int) (4 : Int) (10 : Int)).bind fun y2 => (cond (!y2) ((some false)) (grd ((2 : Int) ≠ 0) (cond (!decide ((Int.tmod (a0.2.1.length : Int) (2 : Int)) = (0 : Int))) ((some false)) ((slI a0.2.2.1 (0 : Int) (500 : Int)).bind fun y3 => (cond (!y3) ((some false)) ((slI a0.2.2.2.1 (0 : Int) (500 : Int)).bind fun y4 => (cond (!y4) ((some false)) ((slI a0.2.2.2.2.1 (0 : Int) (500 : Int)).bind fun y5 => (cond (!y5) ((some false)) ((iter (fun s => slGl a0 s) (0 : Int)).bind (Sum.elim (fun _ => (some false)) (fun _ => (some true))))))))))))))))
def slG.res (_ : R1) (y : Bool) : AV := (.bl y)
def slG.out (_ : R1) (_ : Bool) : List (Option LB) := []
def slG.S (ar : List AV) (h : List (Option LB)) (r : AV) (h1 : List (Option LB)) : Prop := ∃ a0 y, slG a0 = some y ∧ leL ar [(.agg [(.v (.int .i64 a0.1)), (.tree tS a0.2.1), (.v (.int .i64 a0.2.2.1)), (.v (.int .i64 a0.2.2.2.1)), (.v (.int .i64 a0.2.2.2.2.1))])] ∧ leH h [] ∧ r = slG.res a0 y ∧ h1 = slG.out a0 y
theorem slG.call {ar h a0 y} (H : slG a0 = some y) (h0 : leLk ar [(.agg [(.v (.int .i64 a0.1)), (.tree tS a0.2.1), (.v (.int .i64 a0.2.2.1)), (.v (.int .i64 a0.2.2.2.1)), (.v (.int .i64 a0.2.2.2.2.1))])] (leHk h [])) : slG.S ar h (slG.res a0 y) (slG.out a0 y) := ⟨a0, y, H, (ao h0).1, (ao h0).2, rfl, rfl⟩
theorem slG.spec (a0 y) (H : slG a0 = some y) : Spec Tryz.prog 76 [(.agg [(.v (.int .i64 a0.1)), (.tree tS a0.2.1), (.v (.int .i64 a0.2.2.1)), (.v (.int .i64 a0.2.2.2.1)), (.v (.int .i64 a0.2.2.2.2.1))])] [] (slG.res a0 y) (slG.out a0 y) := by
 refine si (G13_ok.at tok []) (ct := [(3, some [1, 3, 39])]) Tryz.func76 rfl (by kernel_rfl) (by kernel_rfl) rfl ?_
 repeat' first
  | ((with_reducible refine eqg ?_); exact rfl)
  | ((with_reducible refine KOb.mk ?_); kernel_rfl)
  | ((with_reducible intro h); (repeat first | replace H := grd_k H | replace H := os1 H ‹_›); first | replace H := ct1 h H | replace H := cf1 h H | exact absurd h (by decide) | skip)
  | ((with_reducible refine Ob.mk ?_); first | (with_reducible rfl) | (first | ((repeat (first | (with_reducible exact grd_p H) | replace H := grd_k H | replace H := os1 H ‹_›)); done) | rfl | ((repeat (first | exact grd_p H | (have hp := grd_p H; exact hp) | replace H := grd_k H | replace H := os1 H ‹_› | (replace H := bind_some H; obtain ⟨_, _, H⟩ := H))); done) | (repeat (first | exact grd_p H | replace H := grd_k H | replace H := os1 H ‹_›))))
  | (with_reducible exact True.intro)
  | ((conv => whnf); first
      | (with_reducible refine And.intro ?_ ?_)
      | (with_reducible exact True.intro)
      | (with_reducible refine (?_ : Ob _))
      | ((with_reducible refine CallW.mk ?_); (repeat first | replace H := grd_k H | replace H := os1 H ‹_›); replace H := bind_some H; obtain ⟨y, hy, H⟩ := H; first | ((with_reducible have hz : slI _ _ _ = some y := hy); clear hz; refine ⟨_, _, slI.call hy ?_, rfl, rfl, ?_⟩) | ((with_reducible have hz : slS5 _ _ = some y := hy); clear hz; refine ⟨_, _, slS5.call hy ?_, rfl, rfl, ?_⟩))
      | ((repeat first | replace H := grd_k H | replace H := os1 H ‹_›); refine li1 (G13_ok.at tok []) (ct := [(3, some [1, 3, 39])]) (F := (fun s1 : Int => ⟨sl [(1, (.loc 0 0 0)), (3, (.v (.int .i64 (a0.2.1.length : Int)))), (4, (.v (.int .i64 s1)))], [some (.box 38 [(.v (.int .i64 a0.1)), (.tree tS a0.2.1), (.v (.int .i64 a0.2.2.1)), (.v (.int .i64 a0.2.2.2.1)), (.v (.int .i64 a0.2.2.2.2.1))])]⟩)) (step := (fun s : Int => slGl _ s)) _ H (by kernel_rfl) (sa ?_) ?_; rotate_left; (intro s1 r v hr H); rotate_right)
      | ((repeat first | replace H := grd_k H | replace H := os1 H ‹_›); refine as1 H (by assumption) (sa ?_))
      | ((with_reducible refine fm ?_); (repeat first | replace H := grd_k H | replace H := os1 H ‹_›); have H := Option.some.inj H; subst H))
  | constructor
def G14 : Env := G13.add 76 [] slG.S
theorem G14_ok : EnvOk Tryz.prog G14 := G13_ok.add ent_76 fun ar h r h1 ⟨a0, y, hy, e1, e2, e3, e4⟩ => by
 subst e3 e4; exact (slG.spec a0 y hy).le e1 e2
attribute [local irreducible] slG

noncomputable def slSl (a0 : ByteArray) (a1 : Int) (v4 : Int) (v5 : Int) (v6 : (List ByteArray)) : Option (Lp (Int × Int × (List ByteArray)) ((Int × (List ByteArray)))) :=
 (cond (decide (v5 < (a0.size : Int))) (grd (0 ≤ v5 ∧ v5 < (a0.size : Int)) (cond (decide ((bAt a0 v5) = a1)) (grd (0 ≤ v4 ∧ v4 ≤ v5 ∧ v5 ≤ (a0.size : Int)) (grd (v6.length + [(bsub a0 v4 v5)].length ≤ 140737488355328 / 16 ∧ v6.length + [(bsub a0 v4 v5)].length ≤ 140737488355328) (some (.go ((w64 (v5 + (1 : Int))), (w64 (v5 + (1 : Int))), (v6 ++ [(bsub a0 v4 v5)])))))) (some (.go (v4, (w64 (v5 + (1 : Int))), v6))))) ((some (.out (v4, v6)))))
noncomputable def slS (a0 : ByteArray) (a1 : Int) : Option ((List ByteArray)) :=
 ((iter (fun s => slSl a0 a1 s.1 s.2.1 s.2.2) ((0 : Int), (0 : Int), ([] : List ByteArray))).bind (fun r7 => (grd (0 ≤ r7.1 ∧ r7.1 ≤ (a0.size : Int) ∧ (a0.size : Int) ≤ (a0.size : Int)) (grd (r7.2.length + [(bsub a0 r7.1 (a0.size : Int))].length ≤ 140737488355328 / 16 ∧ r7.2.length + [(bsub a0 r7.1 (a0.size : Int))].length ≤ 140737488355328) ((some (r7.2 ++ [(bsub a0 r7.1 (a0.size : Int))])))))))
def slS.res (_ : ByteArray) (_ : Int) (_ : (List ByteArray)) : AV := (.own 0)
def slS.out (_ : ByteArray) (_ : Int) (y : (List ByteArray)) : List (Option LB) := [some (.arr 9 .str y)]
def slS.S (ar : List AV) (h : List (Option LB)) (r : AV) (h1 : List (Option LB)) : Prop := ∃ a0 a1 y, slS a0 a1 = some y ∧ leL ar [(.v (.string a0)), (.v (.int .u8 a1))] ∧ leH h [] ∧ r = slS.res a0 a1 y ∧ h1 = slS.out a0 a1 y
theorem slS.call {ar h a0 a1 y} (H : slS a0 a1 = some y) (h0 : leLk ar [(.v (.string a0)), (.v (.int .u8 a1))] (leHk h [])) : slS.S ar h (slS.res a0 a1 y) (slS.out a0 a1 y) := ⟨a0, a1, y, H, (ao h0).1, (ao h0).2, rfl, rfl⟩
theorem slS.spec (a0 a1 y) (H : slS a0 a1 = some y) : Spec Tryz.prog 54 [(.v (.string a0)), (.v (.int .u8 a1))] [] (slS.res a0 a1 y) (slS.out a0 a1 y) := by
 refine si (G14_ok.at tok []) (ct := [(8, some [0, 1, 5, 7])]) Tryz.func54 rfl (by kernel_rfl) (by kernel_rfl) rfl ?_
 repeat' first
  | ((with_reducible refine eqg ?_); exact rfl)
  | ((with_reducible refine KOb.mk ?_); kernel_rfl)
  | ((with_reducible intro h); (repeat first | replace H := grd_k H | replace H := os1 H ‹_›); first | replace H := ct1 h H | replace H := cf1 h H | exact absurd h (by decide) | skip)
  | ((with_reducible refine Ob.mk ?_); first | (with_reducible rfl) | (first | ((repeat (first | (with_reducible exact grd_p H) | replace H := grd_k H | replace H := os1 H ‹_›)); done) | rfl | ((repeat (first | exact grd_p H | (have hp := grd_p H; exact hp) | replace H := grd_k H | replace H := os1 H ‹_› | (replace H := bind_some H; obtain ⟨_, _, H⟩ := H))); done) | (repeat (first | exact grd_p H | replace H := grd_k H | replace H := os1 H ‹_›))))
  | (with_reducible exact True.intro)
  | ((conv => whnf); first
      | (with_reducible refine And.intro ?_ ?_)
      | (with_reducible exact True.intro)
      | (with_reducible refine (?_ : Ob _))
      | ((repeat first | replace H := grd_k H | replace H := os1 H ‹_›); refine li1 (G14_ok.at tok []) (ct := [(8, some [0, 1, 5, 7])]) (F := (fun s1 : Int × Int × (List ByteArray) => ⟨sl [(0, (.v (.string a0))), (1, (.v (.int .u8 a1))), (5, (.own 0)), (6, (.v (.int .i64 s1.1))), (7, (.v (.int .i64 s1.2.1)))], [some (.arr 9 .str s1.2.2)]⟩)) (step := (fun s : Int × Int × (List ByteArray) => slSl _ _ s.1 s.2.1 s.2.2)) _ H (by kernel_rfl) (sa ?_) ?_; rotate_left; (intro s1 r v hr H); rotate_right)
      | ((repeat first | replace H := grd_k H | replace H := os1 H ‹_›); refine as1 H (by assumption) (sa ?_))
      | ((with_reducible refine fm ?_); (repeat first | replace H := grd_k H | replace H := os1 H ‹_›); have H := Option.some.inj H; subst H))
  | constructor
def G15 : Env := G14.add 54 [] slS.S
theorem G15_ok : EnvOk Tryz.prog G15 := G14_ok.add ent_54 fun ar h r h1 ⟨a0, a1, y, hy, e1, e2, e3, e4⟩ => by
 subst e3 e4; exact (slS.spec a0 a1 y hy).le e1 e2
attribute [local irreducible] slS

noncomputable def slNf : Nat → Int → Option (ByteArray)
 | 0, _ => none
 | k + 1, a0 => (cond (decide (a0 < (0 : Int))) ((slNf k (w64 (0 - a0))).bind fun y1 => (grd ((ByteArray.mk #[45]).size + y1.size ≤ 9223372036854775807) ((some ((ByteArray.mk #[45]) ++ y1))))) (cond (decide (a0 < (10 : Int))) (grd (0 ≤ a0 ∧ a0 ≤ (w64 (a0 + (1 : Int))) ∧ (w64 (a0 + (1 : Int))) ≤ ((ByteArray.mk #[48, 49, 50, 51, 52, 53, 54, 55, 56, 57]).size : Int)) ((some (bsub (ByteArray.mk #[48, 49, 50, 51, 52, 53, 54, 55, 56, 57]) a0 (w64 (a0 + (1 : Int))))))) (grd ((10 : Int) ≠ 0) ((slNf k (w64 (Int.tdiv a0 (10 : Int)))).bind fun y2 => (grd ((10 : Int) ≠ 0) (grd ((10 : Int) ≠ 0) (grd (0 ≤ (Int.tmod a0 (10 : Int)) ∧ (Int.tmod a0 (10 : Int)) ≤ (w64 ((Int.tmod a0 (10 : Int)) + (1 : Int))) ∧ (w64 ((Int.tmod a0 (10 : Int)) + (1 : Int))) ≤ ((ByteArray.mk #[48, 49, 50, 51, 52, 53, 54, 55, 56, 57]).size : Int)) (grd (y2.size + (bsub (ByteArray.mk #[48, 49, 50, 51, 52, 53, 54, 55, 56, 57]) (Int.tmod a0 (10 : Int)) (w64 ((Int.tmod a0 (10 : Int)) + (1 : Int)))).size ≤ 9223372036854775807) ((some (y2 ++ (bsub (ByteArray.mk #[48, 49, 50, 51, 52, 53, 54, 55, 56, 57]) (Int.tmod a0 (10 : Int)) (w64 ((Int.tmod a0 (10 : Int)) + (1 : Int)))))))))))))))
theorem slNf1 (k : Nat) (a0 : Int) : slNf (k + 1) a0 = (cond (decide (a0 < (0 : Int))) ((slNf k (w64 (0 - a0))).bind fun y1 => (grd ((ByteArray.mk #[45]).size + y1.size ≤ 9223372036854775807) ((some ((ByteArray.mk #[45]) ++ y1))))) (cond (decide (a0 < (10 : Int))) (grd (0 ≤ a0 ∧ a0 ≤ (w64 (a0 + (1 : Int))) ∧ (w64 (a0 + (1 : Int))) ≤ ((ByteArray.mk #[48, 49, 50, 51, 52, 53, 54, 55, 56, 57]).size : Int)) ((some (bsub (ByteArray.mk #[48, 49, 50, 51, 52, 53, 54, 55, 56, 57]) a0 (w64 (a0 + (1 : Int))))))) (grd ((10 : Int) ≠ 0) ((slNf k (w64 (Int.tdiv a0 (10 : Int)))).bind fun y2 => (grd ((10 : Int) ≠ 0) (grd ((10 : Int) ≠ 0) (grd (0 ≤ (Int.tmod a0 (10 : Int)) ∧ (Int.tmod a0 (10 : Int)) ≤ (w64 ((Int.tmod a0 (10 : Int)) + (1 : Int))) ∧ (w64 ((Int.tmod a0 (10 : Int)) + (1 : Int))) ≤ ((ByteArray.mk #[48, 49, 50, 51, 52, 53, 54, 55, 56, 57]).size : Int)) (grd (y2.size + (bsub (ByteArray.mk #[48, 49, 50, 51, 52, 53, 54, 55, 56, 57]) (Int.tmod a0 (10 : Int)) (w64 ((Int.tmod a0 (10 : Int)) + (1 : Int)))).size ≤ 9223372036854775807) ((some (y2 ++ (bsub (ByteArray.mk #[48, 49, 50, 51, 52, 53, 54, 55, 56, 57]) (Int.tmod a0 (10 : Int)) (w64 ((Int.tmod a0 (10 : Int)) + (1 : Int))))))))))))))) := rfl
attribute [local irreducible] slNf
noncomputable def slN (a0 : Int) : Option (ByteArray) := slNf 64 a0
def slN.res (_ : Int) (y : ByteArray) : AV := (.v (.string y))
def slN.out (_ : Int) (_ : ByteArray) : List (Option LB) := []
def slN.S (ar : List AV) (h : List (Option LB)) (r : AV) (h1 : List (Option LB)) : Prop := ∃ a0 y, slN a0 = some y ∧ leL ar [(.v (.int .i64 a0))] ∧ leH h [] ∧ r = slN.res a0 y ∧ h1 = slN.out a0 y
theorem slN.call {ar h a0 y} (H : slN a0 = some y) (h0 : leLk ar [(.v (.int .i64 a0))] (leHk h [])) : slN.S ar h (slN.res a0 y) (slN.out a0 y) := ⟨a0, y, H, (ao h0).1, (ao h0).2, rfl, rfl⟩
def slNf.S (k : Nat) (ar : List AV) (h : List (Option LB)) (r : AV) (h1 : List (Option LB)) : Prop := ∃ a0 y, slNf k a0 = some y ∧ leL ar [(.v (.int .i64 a0))] ∧ leH h [] ∧ r = slN.res a0 y ∧ h1 = slN.out a0 y
theorem slNf.call {k : Nat} {ar : List AV} {h : List (Option LB)} {a0 : Int} {y : ByteArray} (H : slNf k a0 = some y) (h0 : leLk ar [(.v (.int .i64 a0))] (leHk h [])) : slNf.S k ar h (slN.res a0 y) (slN.out a0 y) := ⟨a0, y, H, (ao h0).1, (ao h0).2, rfl, rfl⟩
theorem slNf.spec (k : Nat) : ∀ (a0 : Int) (y : ByteArray) (_ : slNf k a0 = some y), Spec Tryz.prog 63 [(.v (.int .i64 a0))] [] (slN.res a0 y) (slN.out a0 y) := by
 induction k with
 | zero => intro a0 y H; unfold slNf at H; cases H
 | succ k IH =>
 intro a0 y H
 have H := (slNf1 k a0).symm.trans H
 have hG : EnvOk Tryz.prog (G15.add 63 [] (slNf.S k)) := G15_ok.add ent_63 fun ar h r h1 ⟨a0, y, hy, e1, e2, e3, e4⟩ => by
  subst e3 e4; exact (IH a0 y hy).le e1 e2
 clear IH
 refine si (hG.at tok []) (ct := [(5, some [0])]) Tryz.func63 rfl (by kernel_rfl) (by kernel_rfl) rfl ?_
 repeat' first
  | ((with_reducible refine eqg ?_); exact rfl)
  | ((with_reducible refine KOb.mk ?_); kernel_rfl)
  | ((with_reducible intro h); (repeat first | replace H := grd_k H | replace H := os1 H ‹_›); first | replace H := ct1 h H | replace H := cf1 h H | exact absurd h (by decide) | skip)
  | ((with_reducible refine Ob.mk ?_); first | (with_reducible rfl) | (first | ((repeat (first | (with_reducible exact grd_p H) | replace H := grd_k H | replace H := os1 H ‹_›)); done) | rfl | ((repeat (first | exact grd_p H | (have hp := grd_p H; exact hp) | replace H := grd_k H | replace H := os1 H ‹_› | (replace H := bind_some H; obtain ⟨_, _, H⟩ := H))); done) | (repeat (first | exact grd_p H | replace H := grd_k H | replace H := os1 H ‹_›))))
  | (with_reducible exact True.intro)
  | ((conv => whnf); first
      | (with_reducible refine And.intro ?_ ?_)
      | (with_reducible exact True.intro)
      | (with_reducible refine (?_ : Ob _))
      | ((with_reducible refine CallW.mk ?_); (repeat first | replace H := grd_k H | replace H := os1 H ‹_›); replace H := bind_some H; obtain ⟨y, hy, H⟩ := H; first | ((with_reducible have hz : slNf k _ = some y := hy); clear hz; refine ⟨_, _, slNf.call hy ?_, rfl, rfl, ?_⟩))
      | ((with_reducible refine fm ?_); (repeat first | replace H := grd_k H | replace H := os1 H ‹_›); have H := Option.some.inj H; subst H))
  | constructor
theorem slN.spec (a0 y) (H : slN a0 = some y) : Spec Tryz.prog 63 [(.v (.int .i64 a0))] [] (slN.res a0 y) (slN.out a0 y) := slNf.spec 64 a0 y H
def G16 : Env := G15.add 63 [] slN.S
theorem G16_ok : EnvOk Tryz.prog G16 := G15_ok.add ent_63 fun ar h r h1 ⟨a0, y, hy, e1, e2, e3, e4⟩ => by
 subst e3 e4; exact (slN.spec a0 y hy).le e1 e2
attribute [local irreducible] slN

noncomputable def slPl (a0 : ByteArray) (v5 : Int) : Option (Lp (Int) ((Unit) ⊕ (Unit))) :=
 (cond (decide (v5 < (a0.size : Int))) (grd (0 ≤ v5 ∧ v5 < (a0.size : Int)) ((slI (w64 (bAt a0 v5)) (32 : Int) (126 : Int)).bind fun y6 => (cond (!y6) ((some (.out (Sum.inl ())))) (grd (0 ≤ v5 ∧ v5 < (a0.size : Int)) (cond (decide ((bAt a0 v5) = (35 : Int))) ((some (.out (Sum.inl ())))) (some (.go (w64 (v5 + (1 : Int)))))))))) ((some (.out (Sum.inr ())))))
noncomputable def slP1 (a0 : ByteArray) (a1 : Int) : Option (Bool) :=
 ((iter (fun s => slPl a0 s) (0 : Int)).bind (Sum.elim (fun _ => (some false)) (fun _ => (some (decide ((a0.size : Int) ≤ a1))))))
def slP1.res (_ : ByteArray) (_ : Int) (y : Bool) : AV := (.bl y)
def slP1.out (_ : ByteArray) (_ : Int) (_ : Bool) : List (Option LB) := []
def slP1.S (ar : List AV) (h : List (Option LB)) (r : AV) (h1 : List (Option LB)) : Prop := ∃ a0 a1 y, slP1 a0 a1 = some y ∧ leL ar [(.v (.string a0)), (.v (.int .i64 a1))] ∧ leH h [] ∧ r = slP1.res a0 a1 y ∧ h1 = slP1.out a0 a1 y
theorem slP1.call {ar h a0 a1 y} (H : slP1 a0 a1 = some y) (h0 : leLk ar [(.v (.string a0)), (.v (.int .i64 a1))] (leHk h [])) : slP1.S ar h (slP1.res a0 a1 y) (slP1.out a0 a1 y) := ⟨a0, a1, y, H, (ao h0).1, (ao h0).2, rfl, rfl⟩
theorem slP1.spec (a0 a1 y) (H : slP1 a0 a1 = some y) : Spec Tryz.prog 77 [(.v (.string a0)), (.v (.int .i64 a1))] [] (slP1.res a0 a1 y) (slP1.out a0 a1 y) := by
 refine si (G16_ok.at tok []) (ct := [(5, some [0, 1, 5, 19, 20, 21, 22, 23])]) Tryz.func77 rfl (by kernel_rfl) (by kernel_rfl) rfl ?_
 repeat' first
  | ((with_reducible refine eqg ?_); exact rfl)
  | ((with_reducible refine KOb.mk ?_); kernel_rfl)
  | ((with_reducible intro h); (repeat first | replace H := grd_k H | replace H := os1 H ‹_›); first | replace H := ct1 h H | replace H := cf1 h H | exact absurd h (by decide) | skip)
  | ((with_reducible refine Ob.mk ?_); first | (with_reducible rfl) | (first | ((repeat (first | (with_reducible exact grd_p H) | replace H := grd_k H | replace H := os1 H ‹_›)); done) | rfl | ((repeat (first | exact grd_p H | (have hp := grd_p H; exact hp) | replace H := grd_k H | replace H := os1 H ‹_› | (replace H := bind_some H; obtain ⟨_, _, H⟩ := H))); done) | (repeat (first | exact grd_p H | replace H := grd_k H | replace H := os1 H ‹_›))))
  | (with_reducible exact True.intro)
  | ((conv => whnf); first
      | (with_reducible refine And.intro ?_ ?_)
      | (with_reducible exact True.intro)
      | (with_reducible refine (?_ : Ob _))
      | ((with_reducible refine CallW.mk ?_); (repeat first | replace H := grd_k H | replace H := os1 H ‹_›); replace H := bind_some H; obtain ⟨y, hy, H⟩ := H; first | ((with_reducible have hz : slI _ _ _ = some y := hy); clear hz; refine ⟨_, _, slI.call hy ?_, rfl, rfl, ?_⟩))
      | ((repeat first | replace H := grd_k H | replace H := os1 H ‹_›); refine li1 (G16_ok.at tok []) (ct := [(5, some [0, 1, 5, 19, 20, 21, 22, 23])]) (F := (fun s1 : Int => ⟨sl [(0, (.v (.string a0))), (1, (.v (.int .i64 a1))), (5, (.v (.int .i64 s1)))], []⟩)) (step := (fun s : Int => slPl _ s)) _ H (by kernel_rfl) (sa ?_) ?_; rotate_left; (intro s1 r v hr H); rotate_right)
      | ((repeat first | replace H := grd_k H | replace H := os1 H ‹_›); refine as1 H (by assumption) (sa ?_))
      | ((with_reducible refine fm ?_); (repeat first | replace H := grd_k H | replace H := os1 H ‹_›); have H := Option.some.inj H; subst H))
  | constructor
def G17 : Env := G16.add 77 [] slP1.S
theorem G17_ok : EnvOk Tryz.prog G17 := G16_ok.add ent_77 fun ar h r h1 ⟨a0, a1, y, hy, e1, e2, e3, e4⟩ => by
 subst e3 e4; exact (slP1.spec a0 a1 y hy).le e1 e2
attribute [local irreducible] slP1

noncomputable def slSl2 (a0 : ByteArray) (a1 : Int) (v2 : Int) : Option (Lp (Int) ((Unit) ⊕ (Unit))) :=
 (cond (decide (v2 < (a0.size : Int))) (grd (0 ≤ v2 ∧ v2 < (a0.size : Int)) (cond (decide ((bAt a0 v2) = a1)) ((some (.out (Sum.inl ())))) (some (.go (w64 (v2 + (1 : Int))))))) ((some (.out (Sum.inr ())))))
noncomputable def slS2 (a0 : ByteArray) (a1 : Int) : Option (Bool) :=
 ((iter (fun s => slSl2 a0 a1 s) (0 : Int)).bind (Sum.elim (fun _ => (some true)) (fun _ => (some false))))
def slS2.res (_ : ByteArray) (_ : Int) (y : Bool) : AV := (.bl y)
def slS2.out (_ : ByteArray) (_ : Int) (_ : Bool) : List (Option LB) := []
def slS2.S (ar : List AV) (h : List (Option LB)) (r : AV) (h1 : List (Option LB)) : Prop := ∃ a0 a1 y, slS2 a0 a1 = some y ∧ leL ar [(.v (.string a0)), (.v (.int .u8 a1))] ∧ leH h [] ∧ r = slS2.res a0 a1 y ∧ h1 = slS2.out a0 a1 y
theorem slS2.call {ar h a0 a1 y} (H : slS2 a0 a1 = some y) (h0 : leLk ar [(.v (.string a0)), (.v (.int .u8 a1))] (leHk h [])) : slS2.S ar h (slS2.res a0 a1 y) (slS2.out a0 a1 y) := ⟨a0, a1, y, H, (ao h0).1, (ao h0).2, rfl, rfl⟩
theorem slS2.spec (a0 a1 y) (H : slS2 a0 a1 = some y) : Spec Tryz.prog 78 [(.v (.string a0)), (.v (.int .u8 a1))] [] (slS2.res a0 a1 y) (slS2.out a0 a1 y) := by
 refine si (G17_ok.at tok []) (ct := []) Tryz.func78 rfl (by kernel_rfl) (by kernel_rfl) rfl ?_
 repeat' first
  | ((with_reducible refine eqg ?_); exact rfl)
  | ((with_reducible refine KOb.mk ?_); kernel_rfl)
  | ((with_reducible intro h); (repeat first | replace H := grd_k H | replace H := os1 H ‹_›); first | replace H := ct1 h H | replace H := cf1 h H | exact absurd h (by decide) | skip)
  | ((with_reducible refine Ob.mk ?_); first | (with_reducible rfl) | (first | ((repeat (first | (with_reducible exact grd_p H) | replace H := grd_k H | replace H := os1 H ‹_›)); done) | rfl | ((repeat (first | exact grd_p H | (have hp := grd_p H; exact hp) | replace H := grd_k H | replace H := os1 H ‹_› | (replace H := bind_some H; obtain ⟨_, _, H⟩ := H))); done) | (repeat (first | exact grd_p H | replace H := grd_k H | replace H := os1 H ‹_›))))
  | (with_reducible exact True.intro)
  | ((conv => whnf); first
      | (with_reducible refine And.intro ?_ ?_)
      | (with_reducible exact True.intro)
      | (with_reducible refine (?_ : Ob _))
      | ((repeat first | replace H := grd_k H | replace H := os1 H ‹_›); refine li1 (G17_ok.at tok []) (ct := []) (F := (fun s1 : Int => ⟨sl [(0, (.v (.string a0))), (1, (.v (.int .u8 a1))), (5, (.v (.int .i64 s1)))], []⟩)) (step := (fun s : Int => slSl2 _ _ s)) _ H (by kernel_rfl) (sa ?_) ?_; rotate_left; (intro s1 r v hr H); rotate_right)
      | ((repeat first | replace H := grd_k H | replace H := os1 H ‹_›); refine as1 H (by assumption) (sa ?_))
      | ((with_reducible refine fm ?_); (repeat first | replace H := grd_k H | replace H := os1 H ‹_›); have H := Option.some.inj H; subst H))
  | constructor
def G18 : Env := G17.add 78 [] slS2.S
theorem G18_ok : EnvOk Tryz.prog G18 := G17_ok.add ent_78 fun ar h r h1 ⟨a0, a1, y, hy, e1, e2, e3, e4⟩ => by
 subst e3 e4; exact (slS2.spec a0 a1 y hy).le e1 e2
attribute [local irreducible] slS2

end Go.Proofs.YtaobinhdnklojaaGreatDoor
