/-
  Texts joined: Shelf Num Fmt SJoin NumB Cut.
-/
import Derived.Shelf.Strings.Builder1
import Derived.Shelf.Strings.Builder2
import Derived.Shelf.Strings.OnBuilder
import Derived.Shelf.Strconv.Atoi
import Derived.Shelf.Strconv.Itoa0
import Derived.Shelf.Strconv.Itoa1
import Derived.Shelf.LaysM
import Derived.Shelf.Strconv.Itoa2
import Derived.Shelf.Strconv.Itoa3
import Derived.Shelf.Strconv.AtoiErrFast
import Derived.Shelf.Strconv.ParseIntEmpty
import Derived.Shelf.Strconv.AtoiFail
import Derived.Shelf.Strconv.Clone
import Derived.Shelf.Strconv.SyntaxError
import Derived.Shelf.LaysC
import Derived.Shelf.Strconv.ToError
import Derived.Shelf.Strconv.Lower
import Derived.Shelf.Strconv.ParseUint10
import Derived.Shelf.Strconv.ParseUint10Empty
import Derived.Shelf.Strconv.ParseUint10Any
import Derived.Shelf.Strconv.ParseInt10
import Derived.Shelf.Strconv.AtoiLong
import Derived.Shelf.Strconv.AtoiInnerAll
import Derived.Shelf.Strconv.RangeError
import Derived.Shelf.Strconv.ToErrorRange
import Derived.Shelf.Strconv.AtoiAll
import Derived.Shelf.Strings.Search1
import Derived.Shelf.Strings.Search2
import Derived.Shelf.Strings.Search3
import Derived.Shelf.Strings.Count
import Derived.Shelf.Strings.Split
import Derived.Shelf.Strings.SplitShaped
import Derived.Test.YtdjcflnemnknaaaDoorProg
import Derived.Test.YtdjcflnemnknaaaDoorJA
import Derived.Test.YtdjcflnemnknaaaDoorJD
import Derived.Lib.AppendIntMem
import Derived.Lib.ItoaLen
import Derived.Test.YtdjcflnemnknaaaDoorKO
import Derived.Lib.Join
import Derived.Lib.AtoiAll
import Derived.Lib.AtoiAllCases
import Derived.Lib.Split
import Derived.Lib.SplitLaws
import Derived.Lib.IndexMore
import Derived.Lib.IndexLaws
namespace Go.Proofs
open Go.Shelf
def Tryd.lays169_ren : Go.Shelf.Ren := ⟨fun | 169 => 111 | n => n, fun | 70 => 116 | 9 => 9 | 0 => 0 | 72 => 118 | 37 => 96 | 127 => 136 | 3 => 3 | 5 => 5 | n => n, fun | n => n⟩
def Tryd.lays241_ren : Go.Shelf.Ren := ⟨fun | 241 => 127 | 277 => 140 | n => n, fun | 70 => 116 | 3 => 3 | 0 => 0 | 72 => 118 | 37 => 96 | 5 => 5 | n => n, fun | n => n⟩
def Tryd.lays165_ren : Go.Shelf.Ren := ⟨fun | 165 => 109 | 240 => 126 | 241 => 127 | 276 => 139 | 277 => 140 | n => n, fun | 70 => 116 | 3 => 3 | 0 => 0 | 4 => 4 | 9 => 9 | 20 => 20 | 72 => 118 | 37 => 96 | 164 => 147 | 5 => 5 | n => n, fun | n => n⟩
def Tryd.lays156_ren : Go.Shelf.Ren := ⟨fun | 156 => 87 | 165 => 109 | 166 => 110 | 169 => 111 | 240 => 126 | 241 => 127 | 276 => 139 | 277 => 140 | n => n, fun | 31 => 41 | 9 => 9 | 3 => 3 | 4 => 4 | 0 => 0 | 20 => 20 | 72 => 118 | 76 => 122 | 70 => 116 | 37 => 96 | 75 => 121 | 127 => 136 | 164 => 147 | 5 => 5 | 80 => 124 | n => n, fun | n => n⟩
def Tryd.lays244_ren : Go.Shelf.Ren := ⟨fun | 244 => 133 | 247 => 146 | 287 => 158 | 321 => 163 | 322 => 164 | n => n, fun | 9 => 9 | 3 => 3 | 75 => 121 | 4 => 4 | 5 => 5 | 167 => 152 | 37 => 96 | 0 => 0 | 85 => 153 | 2 => 2 | 53 => 142 | 175 => 169 | 46 => 151 | 21 => 21 | 80 => 124 | n => n, fun | n => n⟩
def Tryd.lays172_ren : Go.Shelf.Ren := ⟨fun | 172 => 117 | 244 => 133 | 245 => 134 | 247 => 146 | 279 => 147 | 280 => 148 | 281 => 149 | 282 => 150 | 287 => 158 | 316 => 159 | 171 => 74 | 205 => 160 | 321 => 163 | 322 => 164 | 243 => 100 | 246 => 122 | 283 => 135 | 284 => 136 | 285 => 137 | 286 => 138 | 129 => 152 | 317 => 151 | 318 => 153 | 319 => 154 | 320 => 155 | 337 => 161 | 338 => 162 | n => n, fun | 9 => 9 | 3 => 3 | 75 => 121 | 76 => 122 | 4 => 4 | 5 => 5 | 167 => 152 | 37 => 96 | 0 => 0 | 85 => 153 | 2 => 2 | 168 => 155 | 53 => 142 | 175 => 169 | 46 => 151 | 210 => 173 | 127 => 136 | 145 => 179 | 143 => 177 | 21 => 21 | 171 => 141 | 173 => 145 | 212 => 159 | 51 => 160 | 20 => 20 | 213 => 161 | 232 => 180 | 233 => 181 | 80 => 124 | n => n, fun | 15 => 4 | 16 => 5 | 17 => 1 | 18 => 6 | 19 => 7 | n => n⟩
def Tryd.lays129_ren : Go.Shelf.Ren := ⟨fun | 129 => 152 | n => n, fun | 53 => 142 | 3 => 3 | 4 => 4 | 46 => 151 | 5 => 5 | 9 => 9 | n => n, fun | n => n⟩
def Tryd.lays317_ren : Go.Shelf.Ren := ⟨fun | 317 => 151 | n => n, fun | 3 => 3 | 46 => 151 | n => n, fun | n => n⟩
def Tryd.lays318_ren : Go.Shelf.Ren := ⟨fun | 318 => 153 | n => n, fun | 3 => 3 | 4 => 4 | n => n, fun | n => n⟩
def Tryd.lays283_ren : Go.Shelf.Ren := ⟨fun | 283 => 135 | n => n, fun | 3 => 3 | 9 => 9 | 4 => 4 | n => n, fun | n => n⟩
def Tryd.laysM284_ren : Go.Shelf.Ren := ⟨fun | 284 => 136 | 129 => 152 | 317 => 151 | 318 => 153 | n => n, fun | 53 => 142 | 3 => 3 | 212 => 159 | 0 => 0 | 4 => 4 | 46 => 151 | 5 => 5 | 9 => 9 | n => n, fun | 17 => 1 | n => n⟩
def Tryd.lays285_ren : Go.Shelf.Ren := ⟨fun | 285 => 137 | n => n, fun | 37 => 96 | 53 => 142 | 3 => 3 | 4 => 4 | 51 => 160 | 9 => 9 | 5 => 5 | 0 => 0 | n => n, fun | n => n⟩
def Tryd.laysM246_ren : Go.Shelf.Ren := ⟨fun | 246 => 122 | 283 => 135 | 284 => 136 | 285 => 137 | 286 => 138 | 129 => 152 | 317 => 151 | 318 => 153 | 319 => 154 | 320 => 155 | 337 => 161 | 338 => 162 | n => n, fun | 2 => 2 | 3 => 3 | 9 => 9 | 4 => 4 | 171 => 141 | 0 => 0 | 53 => 142 | 37 => 96 | 5 => 5 | 173 => 145 | 212 => 159 | 51 => 160 | 20 => 20 | 213 => 161 | 46 => 151 | 232 => 180 | 233 => 181 | n => n, fun | 17 => 1 | 18 => 6 | 19 => 7 | n => n⟩
def Tryd.lays246_ren : Go.Shelf.Ren := ⟨fun | 246 => 122 | 283 => 135 | 284 => 136 | 285 => 137 | 286 => 138 | 129 => 152 | 317 => 151 | 318 => 153 | 319 => 154 | 320 => 155 | 337 => 161 | 338 => 162 | n => n, fun | 2 => 2 | 3 => 3 | 9 => 9 | 4 => 4 | 171 => 141 | 0 => 0 | 53 => 142 | 37 => 96 | 5 => 5 | 173 => 145 | 212 => 159 | 51 => 160 | 20 => 20 | 213 => 161 | 46 => 151 | 232 => 180 | 233 => 181 | n => n, fun | 17 => 1 | 18 => 6 | 19 => 7 | n => n⟩
def Tryd.laysM243_ren : Go.Shelf.Ren := ⟨fun | 243 => 100 | 246 => 122 | 283 => 135 | 284 => 136 | 285 => 137 | 286 => 138 | 129 => 152 | 317 => 151 | 318 => 153 | 319 => 154 | 320 => 155 | 337 => 161 | 338 => 162 | n => n, fun | 3 => 3 | 9 => 9 | 2 => 2 | 4 => 4 | 171 => 141 | 0 => 0 | 53 => 142 | 37 => 96 | 5 => 5 | 173 => 145 | 212 => 159 | 51 => 160 | 20 => 20 | 213 => 161 | 46 => 151 | 232 => 180 | 233 => 181 | n => n, fun | 17 => 1 | 18 => 6 | 19 => 7 | n => n⟩
def Tryd.lays243_ren : Go.Shelf.Ren := ⟨fun | 243 => 100 | 246 => 122 | 283 => 135 | 284 => 136 | 285 => 137 | 286 => 138 | 129 => 152 | 317 => 151 | 318 => 153 | 319 => 154 | 320 => 155 | 337 => 161 | 338 => 162 | n => n, fun | 3 => 3 | 9 => 9 | 2 => 2 | 4 => 4 | 171 => 141 | 0 => 0 | 53 => 142 | 37 => 96 | 5 => 5 | 173 => 145 | 212 => 159 | 51 => 160 | 20 => 20 | 213 => 161 | 46 => 151 | 232 => 180 | 233 => 181 | n => n, fun | 17 => 1 | 18 => 6 | 19 => 7 | n => n⟩
def Tryd.laysM171_ren : Go.Shelf.Ren := ⟨fun | 171 => 74 | 243 => 100 | 246 => 122 | 283 => 135 | 284 => 136 | 285 => 137 | 286 => 138 | 129 => 152 | 317 => 151 | 318 => 153 | 319 => 154 | 320 => 155 | 337 => 161 | 338 => 162 | n => n, fun | 3 => 3 | 9 => 9 | 2 => 2 | 4 => 4 | 171 => 141 | 0 => 0 | 53 => 142 | 37 => 96 | 5 => 5 | 173 => 145 | 212 => 159 | 51 => 160 | 20 => 20 | 213 => 161 | 46 => 151 | 232 => 180 | 233 => 181 | n => n, fun | 17 => 1 | 18 => 6 | 19 => 7 | n => n⟩
theorem Tryd.laysM171 : Go.Proofs.LaysM.n171 Tryd.prog Tryd.laysM171_ren := {
  mixed := by kernel_rfl
  f129 := Tryd.func152.trans (congrArg some (by kernel_rfl))
  f171 := Tryd.func74.trans (congrArg some (by kernel_rfl))
  f243 := Tryd.func100.trans (congrArg some (by kernel_rfl))
  f246 := Tryd.func122.trans (congrArg some (by kernel_rfl))
  f283 := Tryd.func135.trans (congrArg some (by kernel_rfl))
  f284 := Tryd.func136.trans (congrArg some (by kernel_rfl))
  f285 := Tryd.func137.trans (congrArg some (by kernel_rfl))
  f286 := Tryd.func138.trans (congrArg some (by kernel_rfl))
  f317 := Tryd.func151.trans (congrArg some (by kernel_rfl))
  f318 := Tryd.func153.trans (congrArg some (by kernel_rfl))
  f319 := Tryd.func154.trans (congrArg some (by kernel_rfl))
  f320 := Tryd.func155.trans (congrArg some (by kernel_rfl))
  f337 := Tryd.func161.trans (congrArg some (by kernel_rfl))
  f338 := Tryd.func162.trans (congrArg some (by kernel_rfl))
  t0 := Tryd.underlying0
  a0 := Tryd.isAgg0
  z0 := Tryd.sizeOf0
  v0 := Tryd.zeroValue0
  t2 := Tryd.underlying2
  a2 := Tryd.isAgg2
  z2 := Tryd.sizeOf2
  v2 := Tryd.zeroValue2
  t3 := Tryd.underlying3
  a3 := Tryd.isAgg3
  z3 := Tryd.sizeOf3
  v3 := Tryd.zeroValue3
  t4 := Tryd.underlying4
  a4 := Tryd.isAgg4
  z4 := Tryd.sizeOf4
  v4 := Tryd.zeroValue4
  t5 := Tryd.underlying5
  a5 := Tryd.isAgg5
  z5 := Tryd.sizeOf5
  v5 := Tryd.zeroValue5
  t9 := Tryd.underlying9
  a9 := Tryd.isAgg9
  z9 := Tryd.sizeOf9
  v9 := Tryd.zeroValue9
  t20 := Tryd.underlying20
  a20 := Tryd.isAgg20
  z20 := Tryd.sizeOf20
  v20 := Tryd.zeroValue20
  t37 := Tryd.underlying96
  a37 := Tryd.isAgg96
  z37 := Tryd.sizeOf96
  v37 := Tryd.zeroValue96
  t46 := Tryd.underlying151
  a46 := Tryd.isAgg151
  z46 := Tryd.sizeOf151
  v46 := Tryd.zeroValue151
  t51 := Tryd.underlying160
  a51 := Tryd.isAgg160
  z51 := Tryd.sizeOf160
  v51 := Tryd.zeroValue160
  t53 := Tryd.underlying142
  a53 := Tryd.isAgg142
  z53 := Tryd.sizeOf142
  v53 := Tryd.zeroValue142
  t171 := Tryd.underlying141
  a171 := Tryd.isAgg141
  z171 := Tryd.sizeOf141
  v171 := Tryd.zeroValue141
  t173 := Tryd.underlying145
  a173 := Tryd.isAgg145
  z173 := Tryd.sizeOf145
  v173 := Tryd.zeroValue145
  t212 := Tryd.underlying159
  a212 := Tryd.isAgg159
  z212 := Tryd.sizeOf159
  v212 := Tryd.zeroValue159
  t213 := Tryd.underlying161
  a213 := Tryd.isAgg161
  z213 := Tryd.sizeOf161
  t232 := Tryd.underlying180
  a232 := Tryd.isAgg180
  z232 := Tryd.sizeOf180
  v232 := Tryd.zeroValue180
  t233 := Tryd.underlying181
  a233 := Tryd.isAgg181
  z233 := Tryd.sizeOf181
  v233 := Tryd.zeroValue181
  g17 := by kernel_rfl
  g18 := by kernel_rfl
  g19 := by kernel_rfl
  i0 := by kernel_rfl
  i2 := by kernel_rfl
  i3 := by kernel_rfl
  i4 := by kernel_rfl
  i5 := by kernel_rfl
  i9 := by kernel_rfl
  i20 := by kernel_rfl
  i37 := by kernel_rfl
  i46 := by kernel_rfl
  i51 := by kernel_rfl
  i53 := by kernel_rfl
  i171 := by kernel_rfl
  i173 := by kernel_rfl
  i212 := by kernel_rfl
  i232 := by kernel_rfl
  i233 := by kernel_rfl
  m17 := by kernel_rfl
  m18 := by kernel_rfl
  m19 := by kernel_rfl }
open Go.RowKit Go.Sort Go.Lib in
/-- strconv.Itoa: "Itoa is equivalent to FormatInt(int64(i), 10).": i's DECIMAL NUMERAL ('Lib.itoa': a '-' where i is negative, then the digits), FOR EVERY int. The world behind the call: the world before it, new blocks behind the heap (the library's 'var a [24]byte'), draws. (LAID: no walk: one application.) -/
theorem Tryd.strconv_Itoa (n : Int) (h0 : -9223372036854775808 ≤ n) (h1 : n ≤ 9223372036854775807) (w : World) (htab : Lib.TabIs Tryd.prog w "internal/strconv.uint64pow10" .u64 Lib.pow10Tab) :
    Calls Tryd.prog 74 #[.int .i64 n] w fun e w' => e = .returned (.string ⟨(Lib.itoa n).toArray⟩) ∧ ∃ k os, w' = grow (w.drewN k) os := Any.strconv_Itoa Tryd.laysM171 n h0 h1 w htab
def Tryd.lays171_ren : Go.Shelf.Ren := ⟨fun | 171 => 74 | 243 => 100 | 246 => 122 | 283 => 135 | 284 => 136 | 285 => 137 | 286 => 138 | 129 => 152 | 317 => 151 | 318 => 153 | 319 => 154 | 320 => 155 | 337 => 161 | 338 => 162 | n => n, fun | 3 => 3 | 9 => 9 | 2 => 2 | 4 => 4 | 171 => 141 | 0 => 0 | 53 => 142 | 37 => 96 | 5 => 5 | 173 => 145 | 212 => 159 | 51 => 160 | 20 => 20 | 213 => 161 | 46 => 151 | 232 => 180 | 233 => 181 | n => n, fun | 17 => 1 | 18 => 6 | 19 => 7 | n => n⟩
def Tryd.lays247_ren : Go.Shelf.Ren := ⟨fun | 247 => 146 | 287 => 158 | 321 => 163 | 322 => 164 | n => n, fun | 9 => 9 | 3 => 3 | 2 => 2 | 75 => 121 | 4 => 4 | 167 => 152 | 5 => 5 | 53 => 142 | 175 => 169 | 46 => 151 | 37 => 96 | 0 => 0 | 21 => 21 | 80 => 124 | n => n, fun | n => n⟩
def Tryd.laysM316_ren : Go.Shelf.Ren := ⟨fun | 316 => 159 | n => n, fun | 9 => 9 | 3 => 3 | 4 => 4 | 37 => 96 | 0 => 0 | 127 => 136 | 5 => 5 | n => n, fun | n => n⟩
def Tryd.laysM279_ren : Go.Shelf.Ren := ⟨fun | 279 => 147 | 316 => 159 | n => n, fun | 9 => 9 | 168 => 155 | 75 => 121 | 210 => 173 | 3 => 3 | 4 => 4 | 37 => 96 | 0 => 0 | 127 => 136 | 80 => 124 | 5 => 5 | n => n, fun | 15 => 4 | n => n⟩
def Tryd.laysC245_ren : Go.Shelf.Ren := ⟨fun | 245 => 134 | 279 => 147 | 280 => 148 | 281 => 149 | 282 => 150 | 316 => 159 | 171 => 74 | 205 => 160 | 243 => 100 | 246 => 122 | 283 => 135 | 284 => 136 | 285 => 137 | 286 => 138 | 129 => 152 | 317 => 151 | 318 => 153 | 319 => 154 | 320 => 155 | 337 => 161 | 338 => 162 | n => n, fun | 9 => 9 | 3 => 3 | 75 => 121 | 167 => 152 | 4 => 4 | 168 => 155 | 210 => 173 | 37 => 96 | 0 => 0 | 127 => 136 | 145 => 179 | 143 => 177 | 2 => 2 | 171 => 141 | 53 => 142 | 5 => 5 | 173 => 145 | 212 => 159 | 51 => 160 | 20 => 20 | 213 => 161 | 46 => 151 | 232 => 180 | 233 => 181 | 80 => 124 | n => n, fun | 15 => 4 | 16 => 5 | 17 => 1 | 18 => 6 | 19 => 7 | n => n⟩
def Tryd.lays321_ren : Go.Shelf.Ren := ⟨fun | 321 => 163 | n => n, fun | 5 => 5 | n => n, fun | n => n⟩
def Tryd.lays287_ren : Go.Shelf.Ren := ⟨fun | 287 => 158 | 321 => 163 | 322 => 164 | n => n, fun | 9 => 9 | 3 => 3 | 53 => 142 | 75 => 121 | 4 => 4 | 167 => 152 | 5 => 5 | 46 => 151 | 37 => 96 | 0 => 0 | 21 => 21 | 80 => 124 | n => n, fun | n => n⟩
def Tryd.laysC247_ren : Go.Shelf.Ren := ⟨fun | 247 => 146 | 287 => 158 | 321 => 163 | 322 => 164 | n => n, fun | 9 => 9 | 3 => 3 | 2 => 2 | 75 => 121 | 4 => 4 | 167 => 152 | 5 => 5 | 53 => 142 | 175 => 169 | 46 => 151 | 37 => 96 | 0 => 0 | 21 => 21 | 80 => 124 | n => n, fun | n => n⟩
def Tryd.laysC244_ren : Go.Shelf.Ren := ⟨fun | 244 => 133 | 247 => 146 | 287 => 158 | 321 => 163 | 322 => 164 | n => n, fun | 9 => 9 | 3 => 3 | 75 => 121 | 4 => 4 | 5 => 5 | 167 => 152 | 37 => 96 | 0 => 0 | 85 => 153 | 2 => 2 | 53 => 142 | 175 => 169 | 46 => 151 | 21 => 21 | 80 => 124 | n => n, fun | n => n⟩
def Tryd.laysM280_ren : Go.Shelf.Ren := ⟨fun | 280 => 148 | 316 => 159 | n => n, fun | 9 => 9 | 168 => 155 | 75 => 121 | 210 => 173 | 3 => 3 | 4 => 4 | 37 => 96 | 0 => 0 | 127 => 136 | 80 => 124 | 5 => 5 | n => n, fun | 16 => 5 | n => n⟩
def Tryd.laysC172_ren : Go.Shelf.Ren := ⟨fun | 172 => 117 | 244 => 133 | 245 => 134 | 247 => 146 | 279 => 147 | 280 => 148 | 281 => 149 | 282 => 150 | 287 => 158 | 316 => 159 | 171 => 74 | 205 => 160 | 321 => 163 | 322 => 164 | 243 => 100 | 246 => 122 | 283 => 135 | 284 => 136 | 285 => 137 | 286 => 138 | 129 => 152 | 317 => 151 | 318 => 153 | 319 => 154 | 320 => 155 | 337 => 161 | 338 => 162 | n => n, fun | 9 => 9 | 3 => 3 | 75 => 121 | 76 => 122 | 4 => 4 | 5 => 5 | 167 => 152 | 37 => 96 | 0 => 0 | 85 => 153 | 2 => 2 | 168 => 155 | 53 => 142 | 175 => 169 | 46 => 151 | 210 => 173 | 127 => 136 | 145 => 179 | 143 => 177 | 21 => 21 | 171 => 141 | 173 => 145 | 212 => 159 | 51 => 160 | 20 => 20 | 213 => 161 | 232 => 180 | 233 => 181 | 80 => 124 | n => n, fun | 15 => 4 | 16 => 5 | 17 => 1 | 18 => 6 | 19 => 7 | n => n⟩
theorem Tryd.laysC172 : Go.Proofs.LaysC.n172 Tryd.prog Tryd.laysC172_ren := {
  mixed := by kernel_rfl
  f129 := Tryd.func152.trans (congrArg some (by kernel_rfl))
  f171 := Tryd.func74.trans (congrArg some (by kernel_rfl))
  f172 := Tryd.func117.trans (congrArg some (by kernel_rfl))
  f205 := Tryd.func160.trans (congrArg some (by kernel_rfl))
  f243 := Tryd.func100.trans (congrArg some (by kernel_rfl))
  f244 := Tryd.func133.trans (congrArg some (by kernel_rfl))
  f245 := Tryd.func134.trans (congrArg some (by kernel_rfl))
  f246 := Tryd.func122.trans (congrArg some (by kernel_rfl))
  f247 := Tryd.func146.trans (congrArg some (by kernel_rfl))
  f279 := Tryd.func147.trans (congrArg some (by kernel_rfl))
  f280 := Tryd.func148.trans (congrArg some (by kernel_rfl))
  f281 := Tryd.func149.trans (congrArg some (by kernel_rfl))
  f282 := Tryd.func150.trans (congrArg some (by kernel_rfl))
  f283 := Tryd.func135.trans (congrArg some (by kernel_rfl))
  f284 := Tryd.func136.trans (congrArg some (by kernel_rfl))
  f285 := Tryd.func137.trans (congrArg some (by kernel_rfl))
  f286 := Tryd.func138.trans (congrArg some (by kernel_rfl))
  f287 := Tryd.func158.trans (congrArg some (by kernel_rfl))
  f316 := Tryd.func159.trans (congrArg some (by kernel_rfl))
  f317 := Tryd.func151.trans (congrArg some (by kernel_rfl))
  f318 := Tryd.func153.trans (congrArg some (by kernel_rfl))
  f319 := Tryd.func154.trans (congrArg some (by kernel_rfl))
  f320 := Tryd.func155.trans (congrArg some (by kernel_rfl))
  f321 := Tryd.func163.trans (congrArg some (by kernel_rfl))
  f322 := Tryd.func164.trans (congrArg some (by kernel_rfl))
  f337 := Tryd.func161.trans (congrArg some (by kernel_rfl))
  f338 := Tryd.func162.trans (congrArg some (by kernel_rfl))
  t0 := Tryd.underlying0
  a0 := Tryd.isAgg0
  z0 := Tryd.sizeOf0
  v0 := Tryd.zeroValue0
  t2 := Tryd.underlying2
  a2 := Tryd.isAgg2
  z2 := Tryd.sizeOf2
  v2 := Tryd.zeroValue2
  t3 := Tryd.underlying3
  a3 := Tryd.isAgg3
  z3 := Tryd.sizeOf3
  v3 := Tryd.zeroValue3
  t4 := Tryd.underlying4
  a4 := Tryd.isAgg4
  z4 := Tryd.sizeOf4
  v4 := Tryd.zeroValue4
  t5 := Tryd.underlying5
  a5 := Tryd.isAgg5
  z5 := Tryd.sizeOf5
  v5 := Tryd.zeroValue5
  t9 := Tryd.underlying9
  a9 := Tryd.isAgg9
  z9 := Tryd.sizeOf9
  v9 := Tryd.zeroValue9
  t20 := Tryd.underlying20
  a20 := Tryd.isAgg20
  z20 := Tryd.sizeOf20
  v20 := Tryd.zeroValue20
  t21 := Tryd.underlying21
  a21 := Tryd.isAgg21
  z21 := Tryd.sizeOf21
  v21 := Tryd.zeroValue21
  t37 := Tryd.underlying96
  a37 := Tryd.isAgg96
  z37 := Tryd.sizeOf96
  v37 := Tryd.zeroValue96
  t46 := Tryd.underlying151
  a46 := Tryd.isAgg151
  z46 := Tryd.sizeOf151
  v46 := Tryd.zeroValue151
  t51 := Tryd.underlying160
  a51 := Tryd.isAgg160
  z51 := Tryd.sizeOf160
  v51 := Tryd.zeroValue160
  t53 := Tryd.underlying142
  a53 := Tryd.isAgg142
  z53 := Tryd.sizeOf142
  v53 := Tryd.zeroValue142
  t75 := Tryd.underlying121
  a75 := Tryd.isAgg121
  z75 := Tryd.sizeOf121
  v75 := Tryd.zeroValue121
  t76 := Tryd.underlying122
  a76 := Tryd.isAgg122
  z76 := Tryd.sizeOf122
  v76 := Tryd.zeroValue122
  t85 := Tryd.underlying153
  a85 := Tryd.isAgg153
  z85 := Tryd.sizeOf153
  v85 := Tryd.zeroValue153
  t127 := Tryd.underlying136
  a127 := Tryd.isAgg136
  z127 := Tryd.sizeOf136
  v127 := Tryd.zeroValue136
  t143 := Tryd.underlying177
  a143 := Tryd.isAgg177
  z143 := Tryd.sizeOf177
  v143 := Tryd.zeroValue177
  t145 := Tryd.underlying179
  a145 := Tryd.isAgg179
  z145 := Tryd.sizeOf179
  v145 := Tryd.zeroValue179
  t167 := Tryd.underlying152
  a167 := Tryd.isAgg152
  z167 := Tryd.sizeOf152
  v167 := Tryd.zeroValue152
  t168 := Tryd.underlying155
  a168 := Tryd.isAgg155
  z168 := Tryd.sizeOf155
  v168 := Tryd.zeroValue155
  t171 := Tryd.underlying141
  a171 := Tryd.isAgg141
  z171 := Tryd.sizeOf141
  v171 := Tryd.zeroValue141
  t173 := Tryd.underlying145
  a173 := Tryd.isAgg145
  z173 := Tryd.sizeOf145
  v173 := Tryd.zeroValue145
  t175 := Tryd.underlying169
  a175 := Tryd.isAgg169
  z175 := Tryd.sizeOf169
  v175 := Tryd.zeroValue169
  t210 := Tryd.underlying173
  a210 := Tryd.isAgg173
  z210 := Tryd.sizeOf173
  v210 := Tryd.zeroValue173
  t212 := Tryd.underlying159
  a212 := Tryd.isAgg159
  z212 := Tryd.sizeOf159
  v212 := Tryd.zeroValue159
  t213 := Tryd.underlying161
  a213 := Tryd.isAgg161
  z213 := Tryd.sizeOf161
  t232 := Tryd.underlying180
  a232 := Tryd.isAgg180
  z232 := Tryd.sizeOf180
  v232 := Tryd.zeroValue180
  t233 := Tryd.underlying181
  a233 := Tryd.isAgg181
  z233 := Tryd.sizeOf181
  v233 := Tryd.zeroValue181
  g15 := by kernel_rfl
  g16 := by kernel_rfl
  g17 := by kernel_rfl
  g18 := by kernel_rfl
  g19 := by kernel_rfl
  t80 := Tryd.underlying124
  a80 := Tryd.isAgg124
  z80 := Tryd.sizeOf124
  v80 := Tryd.zeroValue124
  i0 := by kernel_rfl
  i2 := by kernel_rfl
  i3 := by kernel_rfl
  i4 := by kernel_rfl
  i5 := by kernel_rfl
  i9 := by kernel_rfl
  i20 := by kernel_rfl
  i21 := by kernel_rfl
  i37 := by kernel_rfl
  i46 := by kernel_rfl
  i51 := by kernel_rfl
  i53 := by kernel_rfl
  i75 := by kernel_rfl
  i76 := by kernel_rfl
  i80 := by kernel_rfl
  i85 := by kernel_rfl
  i127 := by kernel_rfl
  i143 := by kernel_rfl
  i145 := by kernel_rfl
  i167 := by kernel_rfl
  i168 := by kernel_rfl
  i171 := by kernel_rfl
  i173 := by kernel_rfl
  i175 := by kernel_rfl
  i210 := by kernel_rfl
  i212 := by kernel_rfl
  i232 := by kernel_rfl
  i233 := by kernel_rfl
  m15 := by kernel_rfl
  m16 := by kernel_rfl
  m17 := by kernel_rfl
  m18 := by kernel_rfl
  m19 := by kernel_rfl
  c0 := by kernel_rfl
  c2 := by kernel_rfl
  c3 := by kernel_rfl
  c4 := by kernel_rfl
  c5 := by kernel_rfl
  c9 := by kernel_rfl
  c20 := by kernel_rfl
  c21 := by kernel_rfl
  c37 := by kernel_rfl
  c46 := by kernel_rfl
  c51 := by kernel_rfl
  c53 := by kernel_rfl
  c75 := by kernel_rfl
  c76 := by kernel_rfl
  c80 := by kernel_rfl
  c85 := by kernel_rfl
  c127 := by kernel_rfl
  c143 := by kernel_rfl
  c145 := by kernel_rfl
  c167 := by kernel_rfl
  c168 := by kernel_rfl
  c171 := by kernel_rfl
  c173 := by kernel_rfl
  c175 := by kernel_rfl
  c210 := by kernel_rfl
  c212 := by kernel_rfl
  c213 := by kernel_rfl
  c232 := by kernel_rfl
  c233 := by kernel_rfl }
open Go.RowKit in
/-- strconv.Atoi, AT EVERY STRING THAT SPELLS AN int ('Lib.atoiAll .. = .ok v'; of whatever length: leading zeros count): v, AND NO ERROR. The world: as it was, or with the one new row that '[]byte(..)' lays. (LAID: no walk: one application.) -/
theorem Tryd.strconv_Atoi_ok (s : ByteArray) (hmax : s.size ≤ 9223372036854775806) (v : Int) (h : Lib.atoiAll s.data.toList = .ok v) (w : World) :
    Calls Tryd.prog 117 #[.string s] w fun e w' => e = .returned (.tuple #[.int .i64 v, .nilIface]) ∧ (w' = w ∨ ∃ t, w' = Lib.bytesWorld w 5 t) := Any.strconv_Atoi_ok Tryd.laysC172 s hmax v h w
open Go.RowKit in
/-- strconv.Atoi, AT EVERY STRING THAT IS NO DECIMAL NUMERAL ('.syntax'): 0, AND AN ERROR THAT IS NOT nil: a *NumError in a new block N: {Func: "Atoi", Num: s's bytes, Err: what the variable ErrSyntax holds}. Of what was there nothing has turned. (LAID: no walk: one application.) -/
theorem Tryd.strconv_Atoi_syntax (s : ByteArray) (hlim : s.size ≤ 281474976710656) (h : Lib.atoiAll s.data.toList = .«syntax») (ev : Value) (w : World) (hv : w.cell? ⟨4, 0, none⟩ = some ev) (hev : ev = .nilIface ∨ ∃ te pe, ev = .iface te pe) :
    Calls Tryd.prog 117 #[.string s] w fun e w' => ∃ N, e = .returned (.tuple #[.int .i64 (0), .iface 155 (.pointer (some ⟨N, 0, none⟩))]) ∧ w.heap.size ≤ N ∧ w'.heap[N]? = some (.cells #[.string ⟨#[65, 116, 111, 105]⟩, .string s, ev] 173 (0, 0)) ∧ Below w.heap.size w w' := Any.strconv_Atoi_syntax Tryd.laysC172 s hlim h ev w hv hev
open Go.RowKit in
/-- strconv.Atoi, AT EVERY NUMERAL THAT NO int HOLDS ('.range'): THE GREATEST OR THE LEAST int, BY THE SIGN ('Lib.atoiSat'), AND AN ERROR THAT IS NOT nil: a *NumError in a new block N: {Func: "Atoi", Num: s's bytes, Err: what the variable ErrRange holds}. Of what was there nothing has turned. (LAID: no walk: one application.) -/
theorem Tryd.strconv_Atoi_range (s : ByteArray) (hlim : s.size ≤ 281474976710656) (h : Lib.atoiAll s.data.toList = .range) (ev : Value) (w : World) (hv : w.cell? ⟨5, 0, none⟩ = some ev) (hev : ev = .nilIface ∨ ∃ te pe, ev = .iface te pe) :
    Calls Tryd.prog 117 #[.string s] w fun e w' => ∃ N, e = .returned (.tuple #[.int .i64 (Lib.atoiSat s.data.toList), .iface 155 (.pointer (some ⟨N, 0, none⟩))]) ∧ w.heap.size ≤ N ∧ w'.heap[N]? = some (.cells #[.string ⟨#[65, 116, 111, 105]⟩, .string s, ev] 173 (0, 0)) ∧ Below w.heap.size w w' := Any.strconv_Atoi_range Tryd.laysC172 s hlim h ev w hv hev
def Tryd.lays217_ren : Go.Shelf.Ren := ⟨fun | 217 => 142 | 266 => 156 | n => n, fun | 9 => 9 | 5 => 5 | 3 => 3 | n => n, fun | n => n⟩
def Tryd.lays224_ren : Go.Shelf.Ren := ⟨fun | 224 => 144 | n => n, fun | 3 => 3 | n => n, fun | n => n⟩
def Tryd.lays314_ren : Go.Shelf.Ren := ⟨fun | 314 => 157 | n => n, fun | 9 => 9 | 51 => 160 | 3 => 3 | 4 => 4 | 5 => 5 | 46 => 151 | n => n, fun | n => n⟩
def Tryd.lays267_ren : Go.Shelf.Ren := ⟨fun | 267 => 145 | 314 => 157 | n => n, fun | 9 => 9 | 3 => 3 | 146 => 167 | 51 => 160 | 4 => 4 | 5 => 5 | 46 => 151 | n => n, fun | n => n⟩
def Tryd.lays219_ren : Go.Shelf.Ren := ⟨fun | 219 => 132 | 217 => 142 | 225 => 143 | 224 => 144 | 267 => 145 | 266 => 156 | 314 => 157 | n => n, fun | 9 => 9 | 3 => 3 | 4 => 4 | 5 => 5 | 46 => 151 | 146 => 167 | 51 => 160 | n => n, fun | 1 => 0 | n => n⟩
def Tryd.lays143_ren : Go.Shelf.Ren := ⟨fun | 143 => 116 | 219 => 132 | 217 => 142 | 225 => 143 | 224 => 144 | 267 => 145 | 266 => 156 | 314 => 157 | n => n, fun | 9 => 9 | 3 => 3 | 4 => 4 | 5 => 5 | 46 => 151 | 146 => 167 | 51 => 160 | n => n, fun | 1 => 0 | n => n⟩
def Tryd.lays138_ren : Go.Shelf.Ren := ⟨fun | 138 => 115 | 195 => 129 | 218 => 131 | 143 => 116 | 219 => 132 | 217 => 142 | 225 => 143 | 224 => 144 | 267 => 145 | 266 => 156 | 314 => 157 | n => n, fun | 9 => 9 | 3 => 3 | 4 => 4 | 5 => 5 | 0 => 0 | 46 => 151 | 146 => 167 | 51 => 160 | n => n, fun | 1 => 0 | n => n⟩
def Tryd.lays221_ren : Go.Shelf.Ren := ⟨fun | 221 => 90 | 268 => 114 | 138 => 115 | 143 => 116 | 195 => 129 | 197 => 130 | 218 => 131 | 219 => 132 | 260 => 141 | 217 => 142 | 225 => 143 | 224 => 144 | 267 => 145 | 266 => 156 | 314 => 157 | n => n, fun | 9 => 9 | 3 => 3 | 31 => 41 | 4 => 4 | 0 => 0 | 105 => 137 | 21 => 21 | 5 => 5 | 46 => 151 | 119 => 163 | 139 => 166 | 138 => 165 | 146 => 167 | 51 => 160 | n => n, fun | 1 => 0 | 3 => 2 | 4 => 3 | n => n⟩
def Tryd.lays146_ren : Go.Shelf.Ren := ⟨fun | 146 => 62 | 221 => 90 | 268 => 114 | 138 => 115 | 143 => 116 | 195 => 129 | 197 => 130 | 218 => 131 | 219 => 132 | 260 => 141 | 217 => 142 | 225 => 143 | 224 => 144 | 267 => 145 | 266 => 156 | 314 => 157 | n => n, fun | 9 => 9 | 31 => 41 | 3 => 3 | 4 => 4 | 0 => 0 | 105 => 137 | 21 => 21 | 5 => 5 | 46 => 151 | 119 => 163 | 139 => 166 | 138 => 165 | 146 => 167 | 51 => 160 | n => n, fun | 1 => 0 | 3 => 2 | 4 => 3 | n => n⟩
theorem Tryd.lays146 : Go.Proofs.Lays.n146 Tryd.prog Tryd.lays146_ren := {
  mixed := by kernel_rfl
  f138 := Tryd.func115.trans (congrArg some (by kernel_rfl))
  f143 := Tryd.func116.trans (congrArg some (by kernel_rfl))
  f146 := Tryd.func62.trans (congrArg some (by kernel_rfl))
  f195 := Tryd.func129.trans (congrArg some (by kernel_rfl))
  f197 := Tryd.func130.trans (congrArg some (by kernel_rfl))
  f217 := Tryd.func142.trans (congrArg some (by kernel_rfl))
  f218 := Tryd.func131.trans (congrArg some (by kernel_rfl))
  f219 := Tryd.func132.trans (congrArg some (by kernel_rfl))
  f221 := Tryd.func90.trans (congrArg some (by kernel_rfl))
  f224 := Tryd.func144.trans (congrArg some (by kernel_rfl))
  f225 := Tryd.func143.trans (congrArg some (by kernel_rfl))
  f260 := Tryd.func141.trans (congrArg some (by kernel_rfl))
  f266 := Tryd.func156.trans (congrArg some (by kernel_rfl))
  f267 := Tryd.func145.trans (congrArg some (by kernel_rfl))
  f268 := Tryd.func114.trans (congrArg some (by kernel_rfl))
  f314 := Tryd.func157.trans (congrArg some (by kernel_rfl))
  t0 := Tryd.underlying0
  a0 := Tryd.isAgg0
  z0 := Tryd.sizeOf0
  v0 := Tryd.zeroValue0
  t3 := Tryd.underlying3
  a3 := Tryd.isAgg3
  z3 := Tryd.sizeOf3
  v3 := Tryd.zeroValue3
  t4 := Tryd.underlying4
  a4 := Tryd.isAgg4
  z4 := Tryd.sizeOf4
  v4 := Tryd.zeroValue4
  t5 := Tryd.underlying5
  a5 := Tryd.isAgg5
  z5 := Tryd.sizeOf5
  v5 := Tryd.zeroValue5
  t9 := Tryd.underlying9
  a9 := Tryd.isAgg9
  z9 := Tryd.sizeOf9
  v9 := Tryd.zeroValue9
  t21 := Tryd.underlying21
  a21 := Tryd.isAgg21
  z21 := Tryd.sizeOf21
  v21 := Tryd.zeroValue21
  t31 := Tryd.underlying41
  a31 := Tryd.isAgg41
  z31 := Tryd.sizeOf41
  v31 := Tryd.zeroValue41
  t46 := Tryd.underlying151
  a46 := Tryd.isAgg151
  z46 := Tryd.sizeOf151
  v46 := Tryd.zeroValue151
  t51 := Tryd.underlying160
  a51 := Tryd.isAgg160
  z51 := Tryd.sizeOf160
  v51 := Tryd.zeroValue160
  t105 := Tryd.underlying137
  a105 := Tryd.isAgg137
  z105 := Tryd.sizeOf137
  v105 := Tryd.zeroValue137
  t119 := Tryd.underlying163
  a119 := Tryd.isAgg163
  z119 := Tryd.sizeOf163
  t138 := Tryd.underlying165
  a138 := Tryd.isAgg165
  z138 := Tryd.sizeOf165
  v138 := Tryd.zeroValue165
  t139 := Tryd.underlying166
  a139 := Tryd.isAgg166
  z139 := Tryd.sizeOf166
  v139 := Tryd.zeroValue166
  t146 := Tryd.underlying167
  a146 := Tryd.isAgg167
  z146 := Tryd.sizeOf167
  v146 := Tryd.zeroValue167
  g1 := by kernel_rfl
  g3 := by kernel_rfl
  g4 := by kernel_rfl }
open Go.RowKit Go.Lib in
/-- strings.Split. (LAID: no walk: one application.) -/
theorem Tryd.strings_Split (s sep : ByteArray) (m : Int) (w : World) (hs : s.size < 4294967281) (hm : w.cell? ⟨0, 0, none⟩ = some (.int .i64 m)) (h1 : 1 ≤ sep.size) :
    Calls Tryd.prog 62 #[.string s, .string sep] w fun e w' =>
      e = .returned (.slice (some ⟨w.heap.size, 0, none⟩) (Lib.countB s sep + 1) (Lib.countB s sep + 1)) ∧ w' = w.alloc (.cells ((Lib.splitB sep 0 (Lib.countB s sep) s).map Value.string).toArray 9) := Any.strings_Split Tryd.lays146 (by kernel_rfl) s sep m w hs hm h1
def Tryd.lays147_ren : Go.Shelf.Ren := ⟨fun | 147 => 56 | 221 => 90 | 268 => 114 | 138 => 115 | 143 => 116 | 195 => 129 | 197 => 130 | 218 => 131 | 219 => 132 | 260 => 141 | 217 => 142 | 225 => 143 | 224 => 144 | 267 => 145 | 266 => 156 | 314 => 157 | n => n, fun | 9 => 9 | 3 => 3 | 31 => 41 | 4 => 4 | 0 => 0 | 105 => 137 | 21 => 21 | 5 => 5 | 46 => 151 | 119 => 163 | 139 => 166 | 138 => 165 | 146 => 167 | 51 => 160 | n => n, fun | 1 => 0 | 3 => 2 | 4 => 3 | n => n⟩
def Tryd.laysM146_ren : Go.Shelf.Ren := ⟨fun | 146 => 62 | 221 => 90 | 268 => 114 | 138 => 115 | 143 => 116 | 195 => 129 | 197 => 130 | 218 => 131 | 219 => 132 | 260 => 141 | 217 => 142 | 225 => 143 | 224 => 144 | 267 => 145 | 266 => 156 | 314 => 157 | n => n, fun | 9 => 9 | 31 => 41 | 3 => 3 | 4 => 4 | 0 => 0 | 105 => 137 | 21 => 21 | 5 => 5 | 46 => 151 | 119 => 163 | 139 => 166 | 138 => 165 | 146 => 167 | 51 => 160 | n => n, fun | 1 => 0 | 3 => 2 | 4 => 3 | n => n⟩
def Tryd.laysM147_ren : Go.Shelf.Ren := ⟨fun | 147 => 56 | 221 => 90 | 268 => 114 | 138 => 115 | 143 => 116 | 195 => 129 | 197 => 130 | 218 => 131 | 219 => 132 | 260 => 141 | 217 => 142 | 225 => 143 | 224 => 144 | 267 => 145 | 266 => 156 | 314 => 157 | n => n, fun | 9 => 9 | 3 => 3 | 31 => 41 | 4 => 4 | 0 => 0 | 105 => 137 | 21 => 21 | 5 => 5 | 46 => 151 | 119 => 163 | 139 => 166 | 138 => 165 | 146 => 167 | 51 => 160 | n => n, fun | 1 => 0 | 3 => 2 | 4 => 3 | n => n⟩
end Go.Proofs

namespace Go.Proofs.YtdjcflnemnknaaaDoor
open Go.RowKit
set_option linter.unusedSimpArgs false
set_option linter.unusedVariables false
/-- The numeral of an int. -/
def fmtI (n : Int) : ByteArray := ⟨(Lib.itoa n).toArray⟩
theorem itoa_to {n : Int} (h0 : -9223372036854775808 ≤ n) (h1 : n ≤ 9223372036854775807) : CallsTo Tryd.prog 74 [li n] (.c false [.raw (.string (fmtI n))]) := to_retBT fun w vs hr ht => by
  obtain ⟨v, rfl, hv⟩ := rds1 hr
  obtain rfl := rd_leaf hv
  exact (Tryd.strconv_Itoa n h0 h1 w ht.pow).mono fun e w' ⟨he, k, os, hw⟩ => ⟨he, by subst hw; exact Lib.below_grow _ w (Nat.le_refl _) k os⟩
theorem dd_big {u : Nat} (h : ¬ u < 10) : Lib.decDigits u = Lib.decDigits (u / 10) ++ [UInt8.ofNat (48 + u % 10)] := by
  rw [Lib.decDigits, dif_neg h]
theorem dd_len {u : Nat} (h : u ≤ 9223372036854775808) : (Lib.decDigits u).length ≤ 21 := by
  by_cases h0 : u = 0
  · subst h0; rw [Lib.decDigits_one (by decide)]; decide
  · have := Lib.itoa_length_le (-(u : Int)) (by omega) (by omega)
    rw [Lib.itoa_neg u (by omega)] at this
    simp at this
    omega
/-- What spec.FormatInt keeps. -/
def FmtInv (n0 n : Int) (o : List UInt8) : Prop := n.natAbs ≤ n0.natAbs ∧ (0 ≤ n0 → 0 ≤ n) ∧ (n0 ≤ 0 → n ≤ 0) ∧ (if n = 0 then o = Lib.decDigits n0.natAbs else Lib.decDigits n.natAbs ++ o = Lib.decDigits n0.natAbs)
theorem FmtInv.start {n0 : Int} (h : n0 ≠ 0) : FmtInv n0 n0 [] := ⟨Nat.le_refl _, id, id, by rw [if_neg h, List.append_nil]⟩
theorem FmtInv.len {n0 n : Int} {o : List UInt8} (h : FmtInv n0 n o) (hb : n0.natAbs ≤ 9223372036854775808) : o.length ≤ 21 := by
  have hl := dd_len hb
  obtain ⟨_, _, _, h⟩ := h
  split at h
  · rw [h]; exact hl
  · rw [← h, List.length_append] at hl; omega
theorem tdiv_abs (n : Int) : (n.tdiv 10).natAbs = n.natAbs / 10 := by rw [Int.natAbs_tdiv]; rfl
theorem tdiv_sgn (n : Int) : (0 ≤ n → 0 ≤ n.tdiv 10) ∧ (n ≤ 0 → n.tdiv 10 ≤ 0) := by
  refine ⟨fun h => Int.tdiv_nonneg h (by decide), fun h => ?_⟩
  have := Int.tdiv_nonneg (a := -n) (b := 10) (by omega) (by decide)
  rw [Int.neg_tdiv] at this
  omega
theorem FmtInv.go {n0 n : Int} {o : List UInt8} (h : FmtInv n0 n o) (hn : n ≠ 0) : FmtInv n0 (n.tdiv 10) (UInt8.ofNat (48 + n.natAbs % 10) :: o) := by
  obtain ⟨h1, h2, h3, h4⟩ := h
  rw [if_neg hn] at h4
  have ha := tdiv_abs n
  have hsg := tdiv_sgn n
  refine ⟨by omega, fun hp => ?_, fun hp => ?_, ?_⟩
  · have := h2 hp; omega
  · have := h3 hp; omega
  · by_cases hs : n.natAbs < 10
    · have hz : n.tdiv 10 = 0 := by omega
      rw [if_pos hz, ← h4, Lib.decDigits_one hs, Nat.mod_eq_of_lt hs]
      rfl
    · have hz : n.tdiv 10 ≠ 0 := by omega
      rw [if_neg hz, ← h4, dd_big hs, ha]
      simp
theorem FmtInv.fin {n0 : Int} {o : List UInt8} (h : FmtInv n0 0 o) : o = Lib.decDigits n0.natAbs := by
  obtain ⟨_, _, _, h⟩ := h
  simpa using h
theorem fmtI_pos {n : Int} (h : 0 ≤ n) : fmtI n = ⟨(Lib.decDigits n.natAbs).toArray⟩ := by
  unfold fmtI Lib.itoa
  rw [if_neg (by omega)]
  have e : n.toNat = n.natAbs := by omega
  rw [e]
theorem fmtI_neg {n : Int} (h : n < 0) : fmtI n = ⟨(45 :: Lib.decDigits n.natAbs).toArray⟩ := by
  unfold fmtI Lib.itoa
  rw [if_pos h]
theorem ba_app (a b : List UInt8) : (⟨a.toArray⟩ : ByteArray) ++ ⟨b.toArray⟩ = ⟨(a ++ b).toArray⟩ := by
  apply ByteArray.ext
  simp
theorem u8_wrap {d : Int} (h0 : 0 ≤ d) (h1 : d ≤ 255) : IntKind.u8.wrap d = d := by
  simp [IntKind.wrap, IntKind.signed, IntKind.bits]
  omega
def ic_fmt_impl : IC := (.seq (.reg false [⟨(some 2), none, .mov (.k (.string ⟨#[]⟩))⟩]) (.seq (.reg false [⟨(some 3), none, .mov (.t 0)⟩, ⟨(some 4), none, .call 74 [(.t 3)]⟩, ⟨(some 2), none, .mov (.t 4)⟩]) .ret))
theorem ten0 {α : Type} {x y : α} : (if (10 : Int) = 0 then x else y) = y := if_neg (by decide)
def ic_fmt_spec : IC := (.seq (.reg false [⟨(some 2), none, .mov (.k (.string ⟨#[]⟩))⟩]) (.seq (.seq (.reg false [⟨(some 6), none, .mov (.t 0)⟩, ⟨(some 7), none, .bin .eql (.t 6) (.k (.int .i64 0))⟩]) (.cond (.t 7) (.seq (.reg false [⟨(some 2), none, .mov (.k (.string ⟨#[48]⟩))⟩]) .ret) .skip)) (.seq (.reg false [⟨(some 8), none, .mov (.t 0)⟩, ⟨(some 9), none, .bin .lss (.t 8) (.k (.int .i64 0))⟩, ⟨(some 3), none, .mov (.t 9)⟩]) (.seq (.reg false [⟨(some 4), none, .mov (.k (.string ⟨#[]⟩))⟩]) (.seq (.block 0 (.loop (.seq (.seq (.reg false [⟨(some 10), none, .mov (.t 0)⟩, ⟨(some 11), none, .bin .neq (.t 10) (.k (.int .i64 0))⟩]) (.cond (.t 11) .skip (.exit 0))) (.block 1 (.seq (.reg false [⟨(some 12), none, .mov (.t 0)⟩, ⟨(some 13), none, .bin .rem (.t 12) (.k (.int .i64 10))⟩, ⟨(some 5), none, .mov (.t 13)⟩]) (.seq (.seq (.reg false [⟨(some 14), none, .mov (.t 5)⟩, ⟨(some 15), none, .bin .lss (.t 14) (.k (.int .i64 0))⟩]) (.cond (.t 15) (.reg false [⟨(some 16), none, .mov (.t 5)⟩, ⟨(some 17), none, .bin .sub (.k (.int .i64 0)) (.t 16)⟩, ⟨(some 5), none, .mov (.t 17)⟩]) .skip)) (.seq (.reg false [⟨(some 18), none, .mov (.t 5)⟩, ⟨(some 19), none, .bin .add (.k (.int .i64 48)) (.t 18)⟩, ⟨(some 20), none, .cvi .u8 (.t 19)⟩, ⟨(some 21), none, .brow true 5 1 1 false [(.t 20)]⟩, ⟨(some 22), none, .cvs (.t 21)⟩, ⟨(some 23), none, .mov (.t 4)⟩, ⟨(some 24), none, .bin .add (.t 22) (.t 23)⟩, ⟨(some 4), none, .mov (.t 24)⟩]) (.reg false [⟨(some 25), none, .mov (.t 0)⟩, ⟨(some 26), none, .bin .quo (.t 25) (.k (.int .i64 10))⟩, ⟨(some 0), none, .mov (.t 26)⟩])))))))) (.seq (.seq (.reg false [⟨(some 27), none, .mov (.t 3)⟩]) (.cond (.t 27) (.seq (.reg false [⟨(some 28), none, .mov (.t 4)⟩, ⟨(some 29), none, .bin .add (.k (.string ⟨#[45]⟩)) (.t 28)⟩, ⟨(some 2), none, .mov (.t 29)⟩]) .ret) .skip)) (.seq (.reg false [⟨(some 30), none, .mov (.t 4)⟩, ⟨(some 2), none, .mov (.t 30)⟩]) .ret)))))))
theorem ic_fmt_spec_ok : compC Tryd.prog (Tryd.f34.body.getD .skip) = some ic_fmt_spec := by kernel_rfl
theorem cat_ok2 {a : UInt8} {o : List UInt8} (h : o.length ≤ 21) : ((((⟨#[a]⟩ : ByteArray).size + (⟨o.toArray⟩ : ByteArray).size : Nat) : Int) > IntKind.i64.max) = False := by
  have e1 : (⟨o.toArray⟩ : ByteArray).size = o.length := by simp [ByteArray.size]
  have e2 : (⟨#[a]⟩ : ByteArray).size = 1 := rfl
  have e3 : IntKind.i64.max = 9223372036854775807 := by decide
  rw [e1, e2, e3]
  simp
  omega
theorem cat_ok3 {a : UInt8} {o : List UInt8} (h : o.length ≤ 21) : (9223372036854775807 < ((((⟨#[a]⟩ : ByteArray).size : Nat) : Int) + (((⟨o.toArray⟩ : ByteArray).size : Nat) : Int))) = False := by
  have e1 : (⟨o.toArray⟩ : ByteArray).size = o.length := by simp [ByteArray.size]
  have e2 : (⟨#[a]⟩ : ByteArray).size = 1 := rfl
  rw [e1, e2]
  simp
  omega
set_option maxHeartbeats 8000000 in
theorem formatInt_spec_to {n : Int} (h0 : -9223372036854775808 ≤ n) (h1 : n ≤ 9223372036854775807) : CallsTo Tryd.prog 34 [li n] (.c false [.raw (.string (fmtI n))]) := by
  refine calls_one (fn := Tryd.f34) (t := 2) (by kernel_rfl) (by kernel_rfl) (by kernel_rfl) ic_fmt_spec_ok ?_
  unfold ic_fmt_spec
  change AWP _ _ _ (st0 31 _)
  simp only [undef, stS, st0, stN, D.av, D.avN, sl_agg, leaf_agg, li_agg, ls_agg, sl_acs, leaf_acs, li_acs, ls_acs, List.map_cons, List.map_nil, List.replicate, List.cons_append, List.nil_append, List.length_cons, List.length_nil, Nat.reduceAdd, Nat.reduceSub]
  by_cases hz : n = 0
  · subst hz
    have hz' : ((0 : Int) == 0) = true := rfl
    repeat' (first | (with_reducible first | refine awp_seq ?_ | refine awp_block ?_ | refine awp_skip ?_ | refine awp_exit ?_ | refine awp_ret ?_ | refine athen ?_ | refine thenExit ?_ | refine thenRet ?_ | refine blockNormal ?_ | refine blockExit ?_ | refine blockRet ?_ | refine roundExit ?_ | refine roundRet ?_ | refine roundExitR ?_ | refine roundRetR ?_) | ((with_reducible refine blockPass ?_ ?_); rfl) | ((with_reducible refine awp_condT ?_ ?_); rfl) | ((with_reducible refine awp_condF ?_ ?_); rfl) | (with_reducible (refine awp_condS rfl ?_ ?_); all_goals (intro hb; have hb' := hb; (try simp only [pkC] at hb'); first | (exfalso; omega) | skip)) | ((with_reducible refine awp_reg ?_); intro K hK) | ((with_reducible refine hK _ ?_); clear hK K) | (with_reducible refine and_split ?_ ?_) | ((with_reducible refine sw_id ?_); simp (disch := first | decide | omega) only [↓pkS, pkW, pkA, undef, capsOf, ex, St.put, St.ev, kav, gdA, opI, rawI, vbin, srcOf, avsD, acsD, AV.toD, AC.toD, AV.nw, AC.nw, AC.one, Value.oneCell', fillA, D.one, D.ones, D.sz, D.szs, Nat.reduceAdd, Nat.reduceSub, Nat.reduceLeDiff, Nat.reduceEqDiff, reduceIte, pkN, li_acs, ls_acs, hz']) | (first | (with_reducible rfl) | (with_reducible refine fnok_id ?_; kernel_rfl) | exact el_strs _ | exact el_ints _ | exact el_ln _ | exact el_tk _ _ | exact el_td _ _ _ | omega | (simp; done) | (simp; omega)) | ((with_reducible refine args_id ?_); simp [ArgsOk, ArgOk, argsD, argD, AC.toD, Value.oneCell', sl_flat, leaf_flat, li_flat, ls_flat, sl_agg, leaf_agg, li_agg, ls_agg, mo_t, mo_f, li_acs, ls_acs, hz']; first | done | rfl))
    exact endRet ⟨_, rfl, by rw [fmtI_pos (by decide)]; rw [show Lib.decDigits (Int.natAbs 0) = [48] from by rw [Lib.decDigits_one (by decide)]; rfl]; rfl, trivial⟩
  have hz' : (n == 0) = false := by simp [hz]
  repeat' (first | (with_reducible first | refine awp_seq ?_ | refine awp_block ?_ | refine awp_skip ?_ | refine awp_exit ?_ | refine awp_ret ?_ | refine athen ?_ | refine thenExit ?_ | refine thenRet ?_ | refine blockNormal ?_ | refine blockExit ?_ | refine blockRet ?_ | refine roundExit ?_ | refine roundRet ?_ | refine roundExitR ?_ | refine roundRetR ?_) | ((with_reducible refine blockPass ?_ ?_); rfl) | ((with_reducible refine awp_condT ?_ ?_); rfl) | ((with_reducible refine awp_condF ?_ ?_); rfl) | (with_reducible (refine awp_condS rfl ?_ ?_); all_goals (intro hb; have hb' := hb; (try simp only [pkC] at hb'); first | (exfalso; omega) | skip)) | ((with_reducible refine awp_reg ?_); intro K hK) | ((with_reducible refine hK _ ?_); clear hK K) | (with_reducible refine and_split ?_ ?_) | ((with_reducible refine sw_id ?_); simp (disch := first | decide | omega) only [↓pkS, pkW, pkA, undef, capsOf, ex, St.put, St.ev, kav, gdA, opI, rawI, vbin, srcOf, avsD, acsD, AV.toD, AC.toD, AV.nw, AC.nw, AC.one, Value.oneCell', fillA, D.one, D.ones, D.sz, D.szs, Nat.reduceAdd, Nat.reduceSub, Nat.reduceLeDiff, Nat.reduceEqDiff, reduceIte, pkN, li_acs, ls_acs, hz']) | (first | (with_reducible rfl) | (with_reducible refine fnok_id ?_; kernel_rfl) | exact el_strs _ | exact el_ints _ | exact el_ln _ | exact el_tk _ _ | exact el_td _ _ _ | omega | (simp; done) | (simp; omega)) | ((with_reducible refine args_id ?_); simp [ArgsOk, ArgOk, argsD, argD, AC.toD, Value.oneCell', sl_flat, leaf_flat, li_flat, ls_flat, sl_agg, leaf_agg, li_agg, ls_agg, mo_t, mo_f, li_acs, ls_acs, hz']; first | done | rfl))
  refine awp_loopB (X := Int × List UInt8) (fun q => [.v (.c false [.raw (.int .i64 q.1)]), .d, .d, .v (.c false [.raw (.bool (decide (n < 0)))]), .v (.c false [.raw (.string ⟨q.2.toArray⟩)]), .d, .d, .d, .d, .d, .d, .d, .d, .d, .d, .d, .d, .d, .d, .d, .d, .d, .d, .d, .d, .d, .d, .d, .d, .d, .d]) (fun q => []) (fun q bs => []) (fun q => FmtInv n q.1 q.2) (fun q => q.1.natAbs) (n, []) (FmtInv.start hz) ?_ ?_
  · simp [StLe', FrLe, OwnLe, BoxLe, AV.fits, AC.fits, FB, mask]
  rintro ⟨m, o⟩ hv
  simp only [FB, mask]
  have hv : FmtInv n m o := hv
  have hab := hv.1
  by_cases hm : m = 0
  · subst hm
    have hne : ((0 : Int) != 0) = false := rfl
    have ho := hv.fin
    have hlen := hv.len (by omega)
    by_cases hb : n < 0
    · have hb' : decide (n < 0) = true := decide_eq_true hb
      repeat' (first | (with_reducible first | refine awp_seq ?_ | refine awp_block ?_ | refine awp_skip ?_ | refine awp_exit ?_ | refine awp_ret ?_ | refine athen ?_ | refine thenExit ?_ | refine thenRet ?_ | refine blockNormal ?_ | refine blockExit ?_ | refine blockRet ?_ | refine roundExit ?_ | refine roundRet ?_ | refine roundExitR ?_ | refine roundRetR ?_) | ((with_reducible refine blockPass ?_ ?_); rfl) | ((with_reducible refine awp_condT ?_ ?_); rfl) | ((with_reducible refine awp_condF ?_ ?_); rfl) | (with_reducible (refine awp_condS rfl ?_ ?_); all_goals (intro hb; have hb' := hb; (try simp only [pkC] at hb'); first | (exfalso; omega) | skip)) | ((with_reducible refine awp_reg ?_); intro K hK) | ((with_reducible refine hK _ ?_); clear hK K) | (with_reducible refine and_split ?_ ?_) | ((with_reducible refine sw_id ?_); simp (disch := first | decide | omega) only [↓pkS, pkW, pkA, undef, capsOf, ex, St.put, St.ev, kav, gdA, opI, rawI, vbin, srcOf, avsD, acsD, AV.toD, AC.toD, AV.nw, AC.nw, AC.one, Value.oneCell', fillA, D.one, D.ones, D.sz, D.szs, Nat.reduceAdd, Nat.reduceSub, Nat.reduceLeDiff, Nat.reduceEqDiff, reduceIte, pkN, li_acs, ls_acs, hne, hb', cat_ok2 hlen, cat_ok3 hlen]) | (first | (with_reducible rfl) | (with_reducible refine fnok_id ?_; kernel_rfl) | exact el_strs _ | exact el_ints _ | exact el_ln _ | exact el_tk _ _ | exact el_td _ _ _ | omega | (simp; done) | (simp; omega)) | ((with_reducible refine args_id ?_); simp [ArgsOk, ArgOk, argsD, argD, AC.toD, Value.oneCell', sl_flat, leaf_flat, li_flat, ls_flat, sl_agg, leaf_agg, li_agg, ls_agg, mo_t, mo_f, li_acs, ls_acs, hne, hb', cat_ok2 hlen, cat_ok3 hlen]; first | done | rfl))
      exact endRet ⟨_, rfl, by rw [fmtI_neg hb, ← ho]; rfl, trivial⟩
    · have hb' : decide (n < 0) = false := decide_eq_false hb
      repeat' (first | (with_reducible first | refine awp_seq ?_ | refine awp_block ?_ | refine awp_skip ?_ | refine awp_exit ?_ | refine awp_ret ?_ | refine athen ?_ | refine thenExit ?_ | refine thenRet ?_ | refine blockNormal ?_ | refine blockExit ?_ | refine blockRet ?_ | refine roundExit ?_ | refine roundRet ?_ | refine roundExitR ?_ | refine roundRetR ?_) | ((with_reducible refine blockPass ?_ ?_); rfl) | ((with_reducible refine awp_condT ?_ ?_); rfl) | ((with_reducible refine awp_condF ?_ ?_); rfl) | (with_reducible (refine awp_condS rfl ?_ ?_); all_goals (intro hb; have hb' := hb; (try simp only [pkC] at hb'); first | (exfalso; omega) | skip)) | ((with_reducible refine awp_reg ?_); intro K hK) | ((with_reducible refine hK _ ?_); clear hK K) | (with_reducible refine and_split ?_ ?_) | ((with_reducible refine sw_id ?_); simp (disch := first | decide | omega) only [↓pkS, pkW, pkA, undef, capsOf, ex, St.put, St.ev, kav, gdA, opI, rawI, vbin, srcOf, avsD, acsD, AV.toD, AC.toD, AV.nw, AC.nw, AC.one, Value.oneCell', fillA, D.one, D.ones, D.sz, D.szs, Nat.reduceAdd, Nat.reduceSub, Nat.reduceLeDiff, Nat.reduceEqDiff, reduceIte, pkN, li_acs, ls_acs, hne, hb', cat_ok2 hlen, cat_ok3 hlen]) | (first | (with_reducible rfl) | (with_reducible refine fnok_id ?_; kernel_rfl) | exact el_strs _ | exact el_ints _ | exact el_ln _ | exact el_tk _ _ | exact el_td _ _ _ | omega | (simp; done) | (simp; omega)) | ((with_reducible refine args_id ?_); simp [ArgsOk, ArgOk, argsD, argD, AC.toD, Value.oneCell', sl_flat, leaf_flat, li_flat, ls_flat, sl_agg, leaf_agg, li_agg, ls_agg, mo_t, mo_f, li_acs, ls_acs, hne, hb', cat_ok2 hlen, cat_ok3 hlen]; first | done | rfl))
      exact endRet ⟨_, rfl, by rw [fmtI_pos (by omega), ← ho]; rfl, trivial⟩
  · have hneq : (m != 0) = true := by simp [hm]
    have hd0 : (n.natAbs : Int) = 0 ∨ True := Or.inr trivial
    have hdv := tdiv_abs m
    have hsg := tdiv_sgn m
    have hmo : m.tmod 10 = m - 10 * m.tdiv 10 := by have := Int.tmod_add_mul_tdiv m 10; omega
    have hw1 : IntKind.i64.wrap (m.tdiv 10) = m.tdiv 10 := wrap_id (by omega) (by omega)
    have hlen := hv.len (by omega)
    have hg := hv.go hm
    by_cases hs : m.tmod 10 < 0
    · have hs' : decide (m.tmod 10 < 0) = true := decide_eq_true hs
      have hw2 : IntKind.i64.wrap (0 - m.tmod 10) = ((m.natAbs % 10 : Nat) : Int) := by rw [wrap_id (by omega) (by omega)]; omega
      have hw3 : IntKind.i64.wrap (48 + ((m.natAbs % 10 : Nat) : Int)) = 48 + ((m.natAbs % 10 : Nat) : Int) := wrap_id (by omega) (by omega)
      have hw4 : IntKind.u8.wrap (48 + ((m.natAbs % 10 : Nat) : Int)) = 48 + ((m.natAbs % 10 : Nat) : Int) := u8_wrap (by omega) (by omega)
      have hw5 : (48 + ((m.natAbs % 10 : Nat) : Int)).toNat = 48 + m.natAbs % 10 := by omega
      repeat' (first | (with_reducible first | refine awp_seq ?_ | refine awp_block ?_ | refine awp_skip ?_ | refine awp_exit ?_ | refine awp_ret ?_ | refine athen ?_ | refine thenExit ?_ | refine thenRet ?_ | refine blockNormal ?_ | refine blockExit ?_ | refine blockRet ?_ | refine roundExit ?_ | refine roundRet ?_ | refine roundExitR ?_ | refine roundRetR ?_) | ((with_reducible refine blockPass ?_ ?_); rfl) | ((with_reducible refine awp_condT ?_ ?_); rfl) | ((with_reducible refine awp_condF ?_ ?_); rfl) | (with_reducible (refine awp_condS rfl ?_ ?_); all_goals (intro hb; have hb' := hb; (try simp only [pkC] at hb'); first | (exfalso; omega) | skip)) | ((with_reducible refine awp_reg ?_); intro K hK) | ((with_reducible refine hK _ ?_); clear hK K) | (with_reducible refine and_split ?_ ?_) | ((with_reducible refine sw_id ?_); simp (disch := first | decide | omega) only [↓pkS, pkW, pkA, undef, capsOf, ex, St.put, St.ev, kav, gdA, opI, rawI, vbin, srcOf, avsD, acsD, AV.toD, AC.toD, AV.nw, AC.nw, AC.one, Value.oneCell', fillA, D.one, D.ones, D.sz, D.szs, Nat.reduceAdd, Nat.reduceSub, Nat.reduceLeDiff, Nat.reduceEqDiff, reduceIte, pkN, li_acs, ls_acs, ten0, hneq, hs', hw1, hw2, hw3, hw4, hw5, bytesD, cat_ok2 hlen]) | (first | (with_reducible rfl) | (with_reducible refine fnok_id ?_; kernel_rfl) | exact el_strs _ | exact el_ints _ | exact el_ln _ | exact el_tk _ _ | exact el_td _ _ _ | omega | (simp; done) | (simp; omega)) | ((with_reducible refine args_id ?_); simp [ArgsOk, ArgOk, argsD, argD, AC.toD, Value.oneCell', sl_flat, leaf_flat, li_flat, ls_flat, sl_agg, leaf_agg, li_agg, ls_agg, mo_t, mo_f, li_acs, ls_acs, ten0, hneq, hs', hw1, hw2, hw3, hw4, hw5, bytesD, cat_ok2 hlen]; first | done | rfl))
      refine roundB (m.tdiv 10, UInt8.ofNat (48 + m.natAbs % 10) :: o) ?_ hg (show (m.tdiv 10).natAbs < m.natAbs by omega)
      simp [StLe', FrLe, OwnLe, BoxLe, AV.fits, AC.fits, FB, mask, ba_app]
    · have hs' : decide (m.tmod 10 < 0) = false := decide_eq_false hs
      have hw2 : m.tmod 10 = ((m.natAbs % 10 : Nat) : Int) := by omega
      have hw3 : IntKind.i64.wrap (48 + ((m.natAbs % 10 : Nat) : Int)) = 48 + ((m.natAbs % 10 : Nat) : Int) := wrap_id (by omega) (by omega)
      have hw4 : IntKind.u8.wrap (48 + ((m.natAbs % 10 : Nat) : Int)) = 48 + ((m.natAbs % 10 : Nat) : Int) := u8_wrap (by omega) (by omega)
      have hw5 : (48 + ((m.natAbs % 10 : Nat) : Int)).toNat = 48 + m.natAbs % 10 := by omega
      repeat' (first | (with_reducible first | refine awp_seq ?_ | refine awp_block ?_ | refine awp_skip ?_ | refine awp_exit ?_ | refine awp_ret ?_ | refine athen ?_ | refine thenExit ?_ | refine thenRet ?_ | refine blockNormal ?_ | refine blockExit ?_ | refine blockRet ?_ | refine roundExit ?_ | refine roundRet ?_ | refine roundExitR ?_ | refine roundRetR ?_) | ((with_reducible refine blockPass ?_ ?_); rfl) | ((with_reducible refine awp_condT ?_ ?_); rfl) | ((with_reducible refine awp_condF ?_ ?_); rfl) | (with_reducible (refine awp_condS rfl ?_ ?_); all_goals (intro hb; have hb' := hb; (try simp only [pkC] at hb'); first | (exfalso; omega) | skip)) | ((with_reducible refine awp_reg ?_); intro K hK) | ((with_reducible refine hK _ ?_); clear hK K) | (with_reducible refine and_split ?_ ?_) | ((with_reducible refine sw_id ?_); simp (disch := first | decide | omega) only [↓pkS, pkW, pkA, undef, capsOf, ex, St.put, St.ev, kav, gdA, opI, rawI, vbin, srcOf, avsD, acsD, AV.toD, AC.toD, AV.nw, AC.nw, AC.one, Value.oneCell', fillA, D.one, D.ones, D.sz, D.szs, Nat.reduceAdd, Nat.reduceSub, Nat.reduceLeDiff, Nat.reduceEqDiff, reduceIte, pkN, li_acs, ls_acs, ten0, hneq, hs', hw1, hw2, hw3, hw4, hw5, bytesD, cat_ok2 hlen]) | (first | (with_reducible rfl) | (with_reducible refine fnok_id ?_; kernel_rfl) | exact el_strs _ | exact el_ints _ | exact el_ln _ | exact el_tk _ _ | exact el_td _ _ _ | omega | (simp; done) | (simp; omega)) | ((with_reducible refine args_id ?_); simp [ArgsOk, ArgOk, argsD, argD, AC.toD, Value.oneCell', sl_flat, leaf_flat, li_flat, ls_flat, sl_agg, leaf_agg, li_agg, ls_agg, mo_t, mo_f, li_acs, ls_acs, ten0, hneq, hs', hw1, hw2, hw3, hw4, hw5, bytesD, cat_ok2 hlen]; first | done | rfl))
      refine roundB (m.tdiv 10, UInt8.ofNat (48 + m.natAbs % 10) :: o) ?_ hg (show (m.tdiv 10).natAbs < m.natAbs by omega)
      simp [StLe', FrLe, OwnLe, BoxLe, AV.fits, AC.fits, FB, mask, ba_app]
end Go.Proofs.YtdjcflnemnknaaaDoor

namespace Go.Proofs.YtdjcflnemnknaaaDoor
open Go.RowKit
set_option linter.unusedSimpArgs false
set_option linter.unusedVariables false
theorem getq_mapF {α : Type} {f : α → D} {l : List α} {k : Nat} (h : k < l.length) : (l.map f)[k]? = some (f l[k]) := by rw [List.getElem?_map, List.getElem?_eq_getElem h]; rfl
/-- Strings joined by another. -/
def joinK (l : List ByteArray) (b : ByteArray) : Nat → List UInt8
  | 0 => []
  | k + 1 => joinK l b k ++ ((if 0 < k then b.data.toList else []) ++ (l.getD k ⟨#[]⟩).data.toList)
def joinB (l : List ByteArray) (b : ByteArray) : ByteArray := ⟨(joinK l b l.length).toArray⟩
theorem ba_size (s : ByteArray) : s.data.toList.length = s.size := by simp
def ic_join_spec : IC := (.seq (.reg false [⟨(some 4), none, .mov (.k (.string ⟨#[]⟩))⟩]) (.seq (.reg false [⟨(some 7), none, .brow true 5 1 0 false []⟩, ⟨(some 5), none, .mov (.t 7)⟩]) (.seq (.seq (.reg false [⟨(some 6), none, .mov (.k (.int .i64 0))⟩]) (.block 0 (.loop (.seq (.seq (.reg false [⟨(some 8), none, .mov (.t 6)⟩, ⟨(some 9), none, .mov (.t 0)⟩, ⟨(some 10), none, .len false (.t 9)⟩, ⟨(some 11), none, .bin .lss (.t 8) (.t 10)⟩]) (.cond (.t 11) .skip (.exit 0))) (.seq (.block 1 (.seq (.seq (.reg false [⟨(some 14), none, .mov (.t 6)⟩, ⟨(some 15), none, .bin .gtr (.t 14) (.k (.int .i64 0))⟩]) (.cond (.t 15) (.reg false [⟨(some 16), none, .mov (.t 5)⟩, ⟨(some 17), none, .mov (.t 1)⟩, ⟨(some 18), none, .apps 5 (.t 16) (.t 17)⟩, ⟨(some 5), none, .mov (.t 18)⟩]) .skip)) (.reg false [⟨(some 19), none, .mov (.t 5)⟩, ⟨(some 20), none, .mov (.t 0)⟩, ⟨(some 21), none, .mov (.t 6)⟩, ⟨(some 22), none, .iad 1 (.t 20) (.t 21)⟩, ⟨(some 23), none, .load 1 false (.t 22)⟩, ⟨(some 24), none, .apps 5 (.t 19) (.t 23)⟩, ⟨(some 5), none, .mov (.t 24)⟩]))) (.reg false [⟨(some 12), none, .mov (.t 6)⟩, ⟨(some 13), none, .bin .add (.t 12) (.k (.int .i64 1))⟩, ⟨(some 6), none, .mov (.t 13)⟩])))))) (.seq (.reg false [⟨(some 25), none, .mov (.t 5)⟩, ⟨(some 26), none, .cvs (.t 25)⟩, ⟨(some 4), none, .mov (.t 26)⟩]) .ret))))
/-! ### Cells as text -/
def spB : ByteArray := ⟨#[32]⟩
def nameB (s : ByteArray) : ByteArray := if (s.toList == (⟨#[]⟩ : ByteArray).toList) = true then ⟨#[45]⟩ else s
def wordsC (x : GCell) : List ByteArray := [fmtI x.id, fmtI x.ver, fmtI x.kind, fmtI x.n, nameB x.name, x.code]
/-- The text of a cell. -/
def fmtCell (x : GCell) : ByteArray := if validCell x = true then joinB (wordsC x) spB else ⟨#[]⟩
def ic_fc_spec : IC := (.seq (.reg false [⟨(some 1), none, .box (.t 0)⟩, ⟨(some 2), none, .mov (.k (.string ⟨#[]⟩))⟩]) (.seq (.seq (.reg false [⟨(some 4), none, .load 6 true (.t 1)⟩, ⟨(some 5), none, .call 32 [(.t 4)]⟩, ⟨(some 6), none, .not (.t 5)⟩]) (.cond (.t 6) (.seq (.reg false [⟨(some 2), none, .mov (.k (.string ⟨#[]⟩))⟩]) .ret) .skip)) (.seq (.reg false [⟨(some 7), none, .fad 3 (.t 1)⟩, ⟨(some 8), none, .load 1 false (.t 7)⟩, ⟨(some 3), none, .mov (.t 8)⟩]) (.seq (.seq (.reg false [⟨(some 9), none, .mov (.t 3)⟩, ⟨(some 10), none, .bin .eql (.t 9) (.k (.string ⟨#[]⟩))⟩]) (.cond (.t 10) (.reg false [⟨(some 3), none, .mov (.k (.string ⟨#[45]⟩))⟩]) .skip)) (.seq (.reg true [⟨(some 11), none, .fad 0 (.t 1)⟩, ⟨(some 12), none, .load 1 false (.t 11)⟩, ⟨(some 13), none, .call 34 [(.t 12)]⟩, ⟨(some 14), none, .fad 1 (.t 1)⟩, ⟨(some 15), none, .load 1 false (.t 14)⟩, ⟨(some 16), none, .call 34 [(.t 15)]⟩, ⟨(some 17), none, .fad 2 (.t 1)⟩, ⟨(some 18), none, .load 1 false (.t 17)⟩, ⟨(some 19), none, .call 34 [(.t 18)]⟩, ⟨(some 20), none, .fad 5 (.t 1)⟩, ⟨(some 21), none, .load 1 false (.t 20)⟩, ⟨(some 22), none, .call 34 [(.t 21)]⟩, ⟨(some 23), none, .mov (.t 3)⟩, ⟨(some 24), none, .fad 4 (.t 1)⟩, ⟨(some 25), none, .load 1 false (.t 24)⟩, ⟨(some 26), none, .brow false 9 1 6 false [(.t 13), (.t 16), (.t 19), (.t 22), (.t 23), (.t 25)]⟩, ⟨(some 27), none, .call 33 [(.t 26), (.k (.string ⟨#[32]⟩))]⟩, ⟨(some 2), none, .mov (.t 27)⟩]) .ret)))))
def ic_fc_impl : IC := (.seq (.reg false [⟨(some 1), none, .box (.t 0)⟩, ⟨(some 2), none, .mov (.k (.string ⟨#[]⟩))⟩]) (.seq (.seq (.reg false [⟨(some 4), none, .load 6 true (.t 1)⟩, ⟨(some 5), none, .call 35 [(.t 4)]⟩, ⟨(some 6), none, .not (.t 5)⟩]) (.cond (.t 6) (.seq (.reg false [⟨(some 2), none, .mov (.k (.string ⟨#[]⟩))⟩]) .ret) .skip)) (.seq (.reg false [⟨(some 7), none, .fad 3 (.t 1)⟩, ⟨(some 8), none, .load 1 false (.t 7)⟩, ⟨(some 3), none, .mov (.t 8)⟩]) (.seq (.seq (.reg false [⟨(some 9), none, .mov (.t 3)⟩, ⟨(some 10), none, .bin .eql (.t 9) (.k (.string ⟨#[]⟩))⟩]) (.cond (.t 10) (.reg false [⟨(some 3), none, .mov (.k (.string ⟨#[45]⟩))⟩]) .skip)) (.seq (.reg true [⟨(some 11), none, .fad 0 (.t 1)⟩, ⟨(some 12), none, .load 1 false (.t 11)⟩, ⟨(some 13), none, .call 36 [(.t 12)]⟩, ⟨(some 14), none, .bin .add (.t 13) (.k (.string ⟨#[32]⟩))⟩, ⟨(some 15), none, .fad 1 (.t 1)⟩, ⟨(some 16), none, .load 1 false (.t 15)⟩, ⟨(some 17), none, .call 36 [(.t 16)]⟩, ⟨(some 18), none, .bin .add (.t 14) (.t 17)⟩, ⟨(some 19), none, .bin .add (.t 18) (.k (.string ⟨#[32]⟩))⟩, ⟨(some 20), none, .fad 2 (.t 1)⟩, ⟨(some 21), none, .load 1 false (.t 20)⟩, ⟨(some 22), none, .call 36 [(.t 21)]⟩, ⟨(some 23), none, .bin .add (.t 19) (.t 22)⟩, ⟨(some 24), none, .bin .add (.t 23) (.k (.string ⟨#[32]⟩))⟩, ⟨(some 25), none, .fad 5 (.t 1)⟩, ⟨(some 26), none, .load 1 false (.t 25)⟩, ⟨(some 27), none, .call 36 [(.t 26)]⟩, ⟨(some 28), none, .bin .add (.t 24) (.t 27)⟩, ⟨(some 29), none, .bin .add (.t 28) (.k (.string ⟨#[32]⟩))⟩, ⟨(some 30), none, .mov (.t 3)⟩, ⟨(some 31), none, .bin .add (.t 29) (.t 30)⟩, ⟨(some 32), none, .bin .add (.t 31) (.k (.string ⟨#[32]⟩))⟩, ⟨(some 33), none, .fad 4 (.t 1)⟩, ⟨(some 34), none, .load 1 false (.t 33)⟩, ⟨(some 35), none, .bin .add (.t 32) (.t 34)⟩, ⟨(some 2), none, .mov (.t 35)⟩]) .ret)))))
end Go.Proofs.YtdjcflnemnknaaaDoor

namespace Go.Proofs.YtdjcflnemnknaaaDoor
open Go.RowKit
set_option linter.unusedSimpArgs false
set_option linter.unusedVariables false
def ic_join_impl : IC := (.seq (.reg false [⟨(some 4), none, .mov (.k (.string ⟨#[]⟩))⟩]) (.seq (.reg false [⟨(some 5), none, .mov (.t 0)⟩, ⟨(some 6), none, .mov (.t 1)⟩, ⟨(some 7), none, .call 87 [(.t 5), (.t 6)]⟩, ⟨(some 4), none, .mov (.t 7)⟩]) .ret))
end Go.Proofs.YtdjcflnemnknaaaDoor

namespace Go.Proofs.YtdjcflnemnknaaaDoor
open Go.RowKit
set_option linter.unusedSimpArgs false
set_option linter.unusedVariables false
/-! ### Numerals read back -/
theorem u8_dig {d : Nat} (h : d < 10) : (UInt8.ofNat (48 + d)).toNat = 48 + d := by
  simp [UInt8.toNat_ofNat']
  omega
/-- What digits spell. -/
def dstep (a : Nat) (c : UInt8) : Nat := a * 10 + (c.toNat - 48)
def dfold (acc : Nat) (l : List UInt8) : Nat := l.foldl dstep acc
theorem dfold_nil (acc : Nat) : dfold acc [] = acc := rfl
theorem dfold_cons (acc : Nat) (c : UInt8) (r : List UInt8) : dfold acc (c :: r) = dfold (acc * 10 + (c.toNat - 48)) r := by
  unfold dfold
  rw [List.foldl_cons]
  rfl
theorem dfold_app (r l : List UInt8) (acc : Nat) : dfold acc (l ++ r) = dfold (dfold acc l) r := by
  unfold dfold
  rw [List.foldl_append]
theorem dfold_dd (u : Nat) : dfold 0 (Lib.decDigits u) = u := by
  induction u using Nat.strongRecOn with
  | ind u ih =>
    by_cases h : u < 10
    · rw [Lib.decDigits_one h]
      rw [dfold_cons, dfold_nil, u8_dig h]; omega
    · rw [dd_big h, dfold_app, ih (u / 10) (by omega)]
      rw [dfold_cons, dfold_nil, u8_dig (show u % 10 < 10 by omega)]; omega
def isDg (c : UInt8) : Bool := decide (48 ≤ c.toNat) && decide (c.toNat ≤ 57)
theorem dd_digs (u : Nat) : ∀ c ∈ Lib.decDigits u, isDg c = true := by
  induction u using Nat.strongRecOn with
  | ind u ih =>
    intro c hc
    by_cases h : u < 10
    · rw [Lib.decDigits_one h] at hc
      simp only [List.mem_singleton] at hc
      subst hc
      simp only [isDg, u8_dig h, Bool.and_eq_true, decide_eq_true_eq]
      omega
    · rw [dd_big h] at hc
      rcases List.mem_append.1 hc with hc | hc
      · exact ih (u / 10) (by omega) c hc
      · simp only [List.mem_singleton] at hc
        subst hc
        simp only [isDg, u8_dig (show u % 10 < 10 by omega), Bool.and_eq_true, decide_eq_true_eq]
        omega
theorem dd_ne (u : Nat) : Lib.decDigits u ≠ [] := by
  by_cases h : u < 10
  · rw [Lib.decDigits_one h]; simp
  · rw [dd_big h]; simp
theorem dd_pow (m : Nat) : ∀ {u : Nat}, u < 10 ^ (m + 1) → (Lib.decDigits u).length ≤ m + 1 := by
  induction m with
  | zero =>
    intro u h
    rw [Lib.decDigits_one (by simpa using h)]
    simp
  | succ m ih =>
    intro u h
    by_cases h1 : u < 10
    · rw [Lib.decDigits_one h1]; simp
    · rw [dd_big h1, List.length_append]
      have := ih (u := u / 10) (by rw [Nat.pow_succ] at h; omega)
      simp
      omega
theorem dfold_lt : ∀ (l : List UInt8) (acc k : Nat), (∀ c ∈ l, isDg c = true) → acc < 10 ^ k → dfold acc l < 10 ^ (k + l.length)
  | [], acc, k, _, h => by rw [dfold_nil]; simpa using h
  | c :: l, acc, k, hd, h => by
    have h1 := hd c (by simp)
    simp only [isDg, Bool.and_eq_true, decide_eq_true_eq] at h1
    rw [dfold_cons]
    have := dfold_lt l (acc * 10 + (c.toNat - 48)) (k + 1) (fun x hx => hd x (by simp [hx])) (by rw [Nat.pow_succ]; omega)
    rw [List.length_cons, show k + (l.length + 1) = k + 1 + l.length by omega]
    exact this
theorem pu_digs : ∀ (l : List UInt8) (acc : Nat), (∀ c ∈ l, isDg c = true) → dfold acc l < 18446744073709551616 → (∀ k, k ≤ l.length → dfold acc (l.take k) ≤ dfold acc l) → Lib.parseUint10 acc l = .ok (dfold acc l)
  | [], acc, _, _, _ => rfl
  | c :: l, acc, hd, hb, hm => by
    have h1 := hd c (by simp)
    have hle := hm 1 (by simp)
    simp only [isDg, Bool.and_eq_true, decide_eq_true_eq] at h1
    rw [List.take_succ_cons, List.take_zero, dfold_cons, dfold_nil, dfold_cons] at hle
    rw [dfold_cons] at hb
    rw [Lib.parseUint10, if_pos h1, if_neg (by omega), if_neg (by omega), dfold_cons]
    refine pu_digs l _ (fun x hx => hd x (by simp [hx])) hb fun k hk => ?_
    have := hm (k + 1) (by simpa using hk)
    rw [List.take_succ_cons, dfold_cons, dfold_cons] at this
    exact this
theorem dfold_mono : ∀ (l : List UInt8) (acc : Nat), acc ≤ dfold acc l
  | [], _ => Nat.le_refl _
  | c :: l, acc => by
    rw [dfold_cons]
    exact Nat.le_trans (by omega) (dfold_mono l (acc * 10 + (c.toNat - 48)))
theorem pu_ok (l : List UInt8) (hd : ∀ c ∈ l, isDg c = true) (hb : dfold 0 l < 18446744073709551616) : Lib.parseUint10 0 l = .ok (dfold 0 l) :=
  pu_digs l 0 hd hb fun k hk => by
    have e : dfold 0 l = dfold (dfold 0 (l.take k)) (l.drop k) := by rw [← dfold_app, List.take_append_drop]
    rw [e]
    exact dfold_mono _ _
theorem mag_dd {u : Nat} (h : u < 18446744073709551616) : Lib.parseMag (Lib.decDigits u) = .ok u := by
  unfold Lib.parseMag
  rw [if_neg (dd_ne u), pu_ok _ (dd_digs u) (by rw [dfold_dd]; exact h), dfold_dd]
theorem dd_head (u : Nat) : ∃ c r, Lib.decDigits u = c :: r ∧ 48 ≤ c.toNat ∧ c.toNat ≤ 57 := by
  cases h : Lib.decDigits u with
  | nil => exact absurd h (dd_ne u)
  | cons c r =>
    have := dd_digs u c (by rw [h]; simp)
    simp only [isDg, Bool.and_eq_true, decide_eq_true_eq] at this
    exact ⟨c, r, rfl, this⟩
theorem itoa_pos {n : Int} (h : 0 ≤ n) : Lib.itoa n = Lib.decDigits n.natAbs := by
  unfold Lib.itoa
  rw [if_neg (by omega)]
  have e : n.toNat = n.natAbs := by omega
  rw [e]
theorem itoa_mi {n : Int} (h : n < 0) : Lib.itoa n = 45 :: Lib.decDigits n.natAbs := by
  unfold Lib.itoa
  rw [if_pos h]
theorem atoi_itoa {n : Int} (h0 : -9223372036854775808 ≤ n) (h1 : n ≤ 9223372036854775807) : Lib.atoiAll (Lib.itoa n) = .ok n := by
  by_cases h : n < 0
  · rw [itoa_mi h]
    have e : (45 : UInt8).toNat = 45 := rfl
    simp only [Lib.atoiAll, e, or_true, if_true]
    rw [mag_dd (by omega)]
    simp only [not_true, false_and, if_false, true_and]
    rw [if_neg (by omega)]
    congr 1
    omega
  · rw [itoa_pos (by omega)]
    obtain ⟨c, r, hc, h2, h3⟩ := dd_head n.natAbs
    have hm := mag_dd (u := n.natAbs) (by omega)
    rw [hc] at hm ⊢
    simp only [Lib.atoiAll]
    rw [if_neg (by omega), hm]
    have e45 : ¬ c.toNat = 45 := by omega
    simp only [e45, not_false_iff, true_and, false_and, if_false]
    rw [if_neg (by omega)]
    congr 1
    omega

theorem fmtI_list (n : Int) : (fmtI n).data.toList = Lib.itoa n := by simp [fmtI]
/-- The number with this numeral, in a range; 0 and false if there is none. -/
def rdN (lo hi : Int) (s : ByteArray) : Int × Bool := match Lib.atoiAll s.data.toList with
  | .ok n => if lo ≤ n ∧ n ≤ hi ∧ fmtI n = s then (n, true) else (0, false)
  | _ => (0, false)
theorem rdN_some {lo hi n : Int} {s : ByteArray} (h0 : -9223372036854775808 ≤ n) (h1 : n ≤ 9223372036854775807) (hl : lo ≤ n) (hh : n ≤ hi) (hs : fmtI n = s) : rdN lo hi s = (n, true) := by
  subst hs
  unfold rdN
  rw [fmtI_list, atoi_itoa h0 h1]
  simp only
  simp [hl, hh]
theorem rdN_none {lo hi : Int} {s : ByteArray} (h : ∀ n, lo ≤ n → n ≤ hi → fmtI n ≠ s) : rdN lo hi s = (0, false) := by
  unfold rdN
  split
  · next n _ => rw [if_neg fun hc => h n hc.1 hc.2.1 hc.2.2]
  · rfl
theorem rdN_cases (lo hi : Int) (s : ByteArray) : (∃ n, lo ≤ n ∧ n ≤ hi ∧ fmtI n = s ∧ rdN lo hi s = (n, true)) ∨ ((∀ n, lo ≤ n → n ≤ hi → -9223372036854775808 ≤ n → n ≤ 9223372036854775807 → fmtI n ≠ s) ∧ rdN lo hi s = (0, false)) := by
  by_cases h : ∃ n, lo ≤ n ∧ n ≤ hi ∧ -9223372036854775808 ≤ n ∧ n ≤ 9223372036854775807 ∧ fmtI n = s
  · obtain ⟨n, h1, h2, h3, h4, h5⟩ := h
    exact Or.inl ⟨n, h1, h2, h5, rdN_some h3 h4 h1 h2 h5⟩
  · refine Or.inr ⟨fun n h1 h2 h3 h4 h5 => h ⟨n, h1, h2, h3, h4, h5⟩, ?_⟩
    unfold rdN
    split
    · next n hn =>
      rw [if_neg]
      rintro ⟨a, b, c⟩
      have : Lib.atoiAll (Lib.itoa n) = .ok n := by rw [← fmtI_list, c]; exact hn
      have hbd : -9223372036854775808 ≤ n ∧ n ≤ 9223372036854775807 := by
        have := hn
        exact Lib.atoiAll_bounds this
      exact h ⟨n, a, b, hbd.1, hbd.2, c⟩
    · rfl
/-! ### What the reference reads -/
def isMi (s : ByteArray) : Bool := decide (0 < s.size) && (s.data.toList.getD 0 0 == 45)
/-- Behind the sign. -/
def bodyL (s : ByteArray) : List UInt8 := if isMi s then s.data.toList.drop 1 else s.data.toList
def valS (s : ByteArray) : Int := if isMi s then -((dfold 0 (bodyL s) : Nat) : Int) else ((dfold 0 (bodyL s) : Nat) : Int)
theorem isMi_fmt (n : Int) : isMi (fmtI n) = decide (n < 0) := by
  unfold isMi
  rw [fmtI_list]
  by_cases h : n < 0
  · rw [itoa_mi h]
    have : 0 < (fmtI n).size := by
      have := congrArg List.length (fmtI_list n)
      rw [itoa_mi h] at this
      simp at this
      omega
    simp [this, h]
  · rw [itoa_pos (by omega)]
    obtain ⟨c, r, hc, h2, h3⟩ := dd_head n.natAbs
    rw [hc]
    have : (c == 45) = false := by
      rw [beq_eq_false_iff_ne]
      intro e
      subst e
      have e45 : (45 : UInt8).toNat = 45 := rfl
      omega
    simp [h, this]
theorem body_fmt (n : Int) : bodyL (fmtI n) = Lib.decDigits n.natAbs := by
  unfold bodyL
  rw [isMi_fmt, fmtI_list]
  by_cases h : n < 0
  · rw [if_pos (by simpa using h), itoa_mi h]; rfl
  · rw [if_neg (by simpa using h), itoa_pos (by omega)]
theorem val_fmt (n : Int) : valS (fmtI n) = n := by
  unfold valS
  rw [body_fmt, dfold_dd, isMi_fmt]
  by_cases h : n < 0
  · rw [if_pos (by simpa using h)]; omega
  · rw [if_neg (by simpa using h)]; omega
/-- What l1Read answers, by its tests. -/
def rdS (m : Nat) (s : ByteArray) : Int × Bool := rdN (-((10 ^ m : Nat) : Int) + 1) (((10 ^ m : Nat) : Int) - 1) s
theorem rdS_len {m : Nat} {s : ByteArray} (hm : m ≤ 18) (h : (bodyL s).length < 1 ∨ m < (bodyL s).length) (hm1 : 1 ≤ m) : rdS m s = (0, false) := by
  unfold rdS
  refine rdN_none fun n h1 h2 e => ?_
  subst e
  rw [body_fmt] at h
  rcases h with h | h
  · have := List.length_eq_zero_iff.1 (Nat.lt_one_iff.1 h)
    exact dd_ne _ this
  · obtain ⟨k, rfl⟩ : ∃ k, m = k + 1 := ⟨m - 1, by omega⟩
    have := dd_pow k (u := n.natAbs) (by omega)
    omega
theorem rdS_dig {m : Nat} {s : ByteArray} {c : UInt8} (hc : c ∈ bodyL s) (h : isDg c = false) : rdS m s = (0, false) := by
  unfold rdS
  refine rdN_none fun n h1 h2 e => ?_
  subst e
  rw [body_fmt] at hc
  have := dd_digs _ c hc
  rw [h] at this
  cases this
theorem rdS_val {m : Nat} {s : ByteArray} (h : fmtI (valS s) ≠ s) : rdS m s = (0, false) := by
  unfold rdS
  refine rdN_none fun n h1 h2 e => ?_
  subst e
  exact h (by rw [val_fmt])
theorem rdS_ok {m : Nat} {s : ByteArray} (hm : m ≤ 18) (hd : ∀ c ∈ bodyL s, isDg c = true) (hl : (bodyL s).length ≤ m) (h : fmtI (valS s) = s) : rdS m s = (valS s, true) := by
  have hlt := dfold_lt (bodyL s) 0 0 hd (by simp)
  rw [Nat.zero_add] at hlt
  have hp : 10 ^ (bodyL s).length ≤ 10 ^ m := Nat.pow_le_pow_right (by decide) hl
  have hb : 10 ^ m ≤ 10 ^ 18 := Nat.pow_le_pow_right (by decide) hm
  have e18 : (10 : Nat) ^ 18 = 1000000000000000000 := by decide
  rw [e18] at hb
  have h3 : (valS s).natAbs = dfold 0 (bodyL s) := by unfold valS; split <;> omega
  exact rdN_some (by omega) (by omega) (by omega) (by omega) h
end Go.Proofs.YtdjcflnemnknaaaDoor

namespace Go.Proofs.YtdjcflnemnknaaaDoor
set_option linter.unusedSimpArgs false
set_option linter.unusedVariables false
/-- The pieces of a string, cut at all instances of another. -/
def cut (sep s : ByteArray) : List ByteArray := Lib.splitB sep 0 (Lib.countB s sep) s
theorem ext_end (s : ByteArray) (a : Nat) : (s.extract a s.size).data.toList = s.data.toList.drop a := by
  rw [Lib.extract_to_end]
theorem ext_ext (s : ByteArray) {a b c : Nat} (h : c ≤ s.size) (hb : b ≤ c - a) (ha : a ≤ c) : (s.extract a c).extract b (s.extract a c).size = s.extract (a + b) c := by
  apply ByteArray.ext
  simp
  have : min (a + (min c s.size - a)) c = c := by omega
  rw [this]
theorem ext_ext2 (s : ByteArray) {a b c : Nat} (h : c ≤ s.size) (hb : b ≤ c - a) (ha : a ≤ c) : (s.extract a c).extract 0 b = s.extract a (a + b) := by
  apply ByteArray.ext
  simp
  have : min (a + b) c = a + b := by omega
  rw [this]
theorem cut_hit (s sep : ByteArray) {a i : Nat} (hs : 1 ≤ sep.size) (h1 : a ≤ i) (h2 : i + sep.size ≤ s.size) (hn : ∀ j, a ≤ j → j < i → Lib.occAt s.data.toList sep.data.toList j = false) (ho : Lib.occAt s.data.toList sep.data.toList i = true) :
    cut sep (s.extract a s.size) = s.extract a i :: cut sep (s.extract (i + sep.size) s.size) := by
  have hi : Lib.indexB (s.extract a s.size) sep = ((i - a : Nat) : Int) := by
    show Lib.index _ _ = _
    rw [ext_end]
    refine Lib.index_first (by simp; omega) ?_ ?_
    · unfold Lib.occAt at ho ⊢
      rw [List.drop_drop, show a + (i - a) = i by omega]
      exact ho
    · intro j hj
      have := hn (a + j) (by omega) (by omega)
      unfold Lib.occAt at this ⊢
      rw [List.drop_drop]
      exact this
  unfold cut
  have e : (s.extract a s.size).extract (i - a + sep.size) (s.extract a s.size).size = s.extract (i + sep.size) s.size := by
    rw [ext_ext s (Nat.le_refl _) (by omega) (by omega), show a + (i - a + sep.size) = i + sep.size by omega]
  rw [Lib.countB_hit _ _ _ hs hi, Nat.add_comm, Lib.splitB_hit _ _ _ _ _ hi, e, Nat.add_zero, ext_ext2 s (Nat.le_refl _) (by omega) (by omega), show a + (i - a) = i by omega]
theorem cut_miss (s sep : ByteArray) {a : Nat} (hn : ∀ j, a ≤ j → j ≤ s.size → Lib.occAt s.data.toList sep.data.toList j = false) (ha : a ≤ s.size) :
    cut sep (s.extract a s.size) = [s.extract a s.size] := by
  have hi : Lib.indexB (s.extract a s.size) sep = -1 := by
    show Lib.index _ _ = _
    rw [ext_end]
    refine Lib.index_none ?_
    intro j hj
    have := hn (a + j) (by omega) (by simp at hj; omega)
    unfold Lib.occAt at this ⊢
    rw [List.drop_drop]
    exact this
  unfold cut
  rw [Lib.countB_miss _ _ hi, Lib.splitB_zero]
theorem occ1 (s : ByteArray) (c : UInt8) {j : Nat} (h : j < s.size) : Lib.occAt s.data.toList [c] j = (c == s[j]) := by
  unfold Lib.occAt
  have hj : j < s.data.toList.length := by simpa using h
  rw [List.drop_eq_getElem_cons hj]
  simp [List.isPrefixOf]
  rfl
theorem occ1_end (s : ByteArray) (c : UInt8) {j : Nat} (h : s.size ≤ j) : Lib.occAt s.data.toList [c] j = false := by
  unfold Lib.occAt
  rw [List.drop_eq_nil_of_le (by simpa using h)]
  rfl
theorem occ2 (s : ByteArray) (c d : UInt8) {j : Nat} (h : j + 1 < s.size) : Lib.occAt s.data.toList [c, d] j = (c == s[j] && d == s[j + 1]) := by
  unfold Lib.occAt
  have hj : j + 1 < s.data.toList.length := by simpa using h
  rw [List.drop_eq_getElem_cons (by omega), List.drop_eq_getElem_cons hj]
  simp [List.isPrefixOf]
  rfl
theorem occ2_end (s : ByteArray) (c d : UInt8) {j : Nat} (h : s.size ≤ j + 1) : Lib.occAt s.data.toList [c, d] j = false := by
  unfold Lib.occAt
  by_cases hj : s.size ≤ j
  · rw [List.drop_eq_nil_of_le (by simpa using hj)]
    rfl
  · have hj' : j < s.data.toList.length := by simp; omega
    rw [List.drop_eq_getElem_cons hj', List.drop_eq_nil_of_le (by simp; omega)]
    simp [List.isPrefixOf]
theorem cut_ne (sep s : ByteArray) : cut sep s ≠ [] := by
  unfold cut
  cases Lib.countB s sep with
  | zero => simp [Lib.splitB]
  | succ k =>
    unfold Lib.splitB
    split <;> simp
theorem ext_self (s : ByteArray) : s.extract 0 s.size = s := by
  apply ByteArray.ext
  simp
end Go.Proofs.YtdjcflnemnknaaaDoor

