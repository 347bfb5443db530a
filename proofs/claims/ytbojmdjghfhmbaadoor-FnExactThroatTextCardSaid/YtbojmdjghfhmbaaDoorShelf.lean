import Derived.Shelf.Strings.Builder1
import Derived.Shelf.Strings.Builder2
import Derived.Shelf.Strings.OnBuilder
import Derived.Shelf.Strings.BuilderF
import Derived.Shelf.Strings.BuilderK
import Derived.Shelf.Utf8.RuneCount
import Derived.Shelf.Strings.Builder2Cap
import Derived.Shelf.Strconv.Itoa0
import Derived.Shelf.Strconv.Itoa1
import Derived.Shelf.LaysM
import Derived.Shelf.Strconv.Itoa2
import Derived.Shelf.Strconv.Itoa3
import Derived.Shelf.Strconv.Itoa4
import Derived.Shelf.Strconv.Clone
import Derived.Shelf.Strconv.SyntaxError
import Derived.Shelf.LaysC
import Derived.Shelf.Strconv.ToError
import Derived.Shelf.Strconv.Lower
import Derived.Shelf.Strconv.ParseUint10
import Derived.Shelf.Strconv.ParseUint10Empty
import Derived.Shelf.Strconv.ParseUint10Any
import Derived.Shelf.Strconv.RangeError
import Derived.Shelf.Strconv.ToErrorRange
import Derived.Shelf.Strconv.ParseUintEmpty
import Derived.Shelf.Strconv.ParseUint10b64
import Derived.Shelf.Strconv.ParseUint10b32
import Derived.Shelf.Strconv.ParseUint10b16
import Derived.Shelf.Strconv.ParseUint10b8
import Derived.Shelf.Strconv.ParseUint10At
import Derived.Shelf.Strings.Search1
import Derived.Shelf.Strings.Search2
import Derived.Shelf.Strings.Search3
import Derived.Shelf.Strings.Cut
import Derived.Shelf.Strings.Count
import Derived.Shelf.Strings.Shaped
import Derived.Shelf.Strings.Prefix
import Derived.Shelf.Strings.Split
import Derived.Shelf.Strings.SplitShaped
import Derived.Shelf.Unicode.Decode
import Derived.Shelf.Strings.RuneCount
import Derived.Shelf.Strings.Explode
import Derived.Shelf.Unicode.DecodeSlow
import Derived.Shelf.Unicode.DecodeAny
import Derived.Shelf.Strings.BuilderCap
import Derived.Test.YtbojmdjghfhmbaaDoorProg
namespace Go.Proofs
open Go.Shelf
def Tryd.lays170_ren : Go.Shelf.Ren := ⟨fun | 170 => 101 | n => n, fun | 70 => 121 | 3 => 3 | 0 => 0 | 72 => 124 | 37 => 122 | 5 => 5 | n => n, fun | n => n⟩
def Tryd.lays169_ren : Go.Shelf.Ren := ⟨fun | 169 => 102 | n => n, fun | 70 => 121 | 9 => 9 | 0 => 0 | 72 => 124 | 37 => 122 | 127 => 158 | 3 => 3 | 5 => 5 | n => n, fun | n => n⟩
def Tryd.lays241_ren : Go.Shelf.Ren := ⟨fun | 241 => 156 | 277 => 172 | n => n, fun | 70 => 121 | 3 => 3 | 0 => 0 | 72 => 124 | 37 => 122 | 5 => 5 | n => n, fun | n => n⟩
def Tryd.lays165_ren : Go.Shelf.Ren := ⟨fun | 165 => 141 | 240 => 131 | 241 => 156 | 276 => 150 | 277 => 172 | n => n, fun | 70 => 121 | 3 => 3 | 0 => 0 | 4 => 4 | 9 => 9 | 20 => 20 | 72 => 124 | 37 => 122 | 164 => 169 | 5 => 5 | n => n, fun | n => n⟩
def Tryd.lays156_ren : Go.Shelf.Ren := ⟨fun | 156 => 118 | 165 => 141 | 166 => 98 | 169 => 102 | 240 => 131 | 241 => 156 | 276 => 150 | 277 => 172 | n => n, fun | 31 => 69 | 9 => 9 | 3 => 3 | 4 => 4 | 0 => 0 | 20 => 20 | 72 => 124 | 76 => 129 | 70 => 121 | 37 => 122 | 75 => 128 | 127 => 158 | 164 => 169 | 5 => 5 | 80 => 134 | n => n, fun | n => n⟩
theorem Tryd.lays156 : Go.Proofs.Lays.n156 Tryd.prog Tryd.lays156_ren := {
  mixed := by kernel_rfl
  f156 := Tryd.func118.trans (congrArg some (by kernel_rfl))
  f165 := Tryd.func141.trans (congrArg some (by kernel_rfl))
  f166 := Tryd.func98.trans (congrArg some (by kernel_rfl))
  f169 := Tryd.func102.trans (congrArg some (by kernel_rfl))
  f240 := Tryd.func131.trans (congrArg some (by kernel_rfl))
  f241 := Tryd.func156.trans (congrArg some (by kernel_rfl))
  f276 := Tryd.func150.trans (congrArg some (by kernel_rfl))
  f277 := Tryd.func172.trans (congrArg some (by kernel_rfl))
  t0 := Tryd.underlying0
  a0 := Tryd.isAgg0
  z0 := Tryd.sizeOf0
  v0 := Tryd.zeroValue0
  t3 := Tryd.underlying3
  a3 := Tryd.isAgg3
  z3 := Tryd.sizeOf3
  v3 := Tryd.zeroValue3
  t4 := Tryd.underlying4
  a4 := Tryd.isAgg4
  z4 := Tryd.sizeOf4
  v4 := Tryd.zeroValue4
  t9 := Tryd.underlying9
  a9 := Tryd.isAgg9
  z9 := Tryd.sizeOf9
  v9 := Tryd.zeroValue9
  t20 := Tryd.underlying20
  a20 := Tryd.isAgg20
  z20 := Tryd.sizeOf20
  v20 := Tryd.zeroValue20
  t31 := Tryd.underlying69
  a31 := Tryd.isAgg69
  z31 := Tryd.sizeOf69
  v31 := Tryd.zeroValue69
  t37 := Tryd.underlying122
  a37 := Tryd.isAgg122
  z37 := Tryd.sizeOf122
  v37 := Tryd.zeroValue122
  t70 := Tryd.underlying121
  a70 := Tryd.isAgg121
  z70 := Tryd.sizeOf121
  v70 := Tryd.zeroValue121
  t72 := Tryd.underlying124
  a72 := Tryd.isAgg124
  z72 := Tryd.sizeOf124
  v72 := Tryd.zeroValue124
  t75 := Tryd.underlying128
  a75 := Tryd.isAgg128
  z75 := Tryd.sizeOf128
  v75 := Tryd.zeroValue128
  t76 := Tryd.underlying129
  a76 := Tryd.isAgg129
  z76 := Tryd.sizeOf129
  v76 := Tryd.zeroValue129
  t127 := Tryd.underlying158
  a127 := Tryd.isAgg158
  z127 := Tryd.sizeOf158
  v127 := Tryd.zeroValue158
  t164 := Tryd.underlying169
  a164 := Tryd.isAgg169
  z164 := Tryd.sizeOf169
  v164 := Tryd.zeroValue169 }
theorem Tryd.Builder_Extra_156 : Builder.Extra Tryd.prog Tryd.lays156_ren := {
  sizeBuilder := by kernel_rfl
  liesBuilder := by kernel_rfl
  t5 := Tryd.underlying5
  a5 := Tryd.isAgg5
  z5 := Tryd.sizeOf5
  v5 := Tryd.zeroValue5
  infoByte := by kernel_rfl
  cellsByte := by kernel_rfl
  sizeByte := by kernel_rfl
  neB5 := by decide }
open Go.RowKit in
theorem Tryd.strings_Join_none (a : Option Addr) (c : Nat) (sep : ByteArray) (w : World) :
    Calls Tryd.prog 118 #[.slice a 0 c, .string sep] w fun e w' => e = .returned (.string ⟨#[]⟩) ∧ w' = w := Any.strings_Join_none Tryd.lays156 Tryd.Builder_Extra_156 a c sep w
open Go.RowKit in
theorem Tryd.strings_Join (bk o c : Nat) (xs : List ByteArray) (sep : ByteArray) (w : World) (hcells : ∀ (j : Nat) x, xs[j]? = some x → w.cell? ⟨bk, o + j, none⟩ = some (.string x)) (hbk : bk < w.heap.size) (hN : xs.length ≤ 140737488355328) (hcap : xs.length ≤ c) (hlen : (Lib.join (xs.map (·.data.toList)) sep.data.toList).length ≤ 140737488355328) :
    Calls Tryd.prog 118 #[.slice (some ⟨bk, o, none⟩) xs.length c, .string sep] w fun e w' => e = .returned (.string ⟨(Lib.join (xs.map (·.data.toList)) sep.data.toList).toArray⟩) ∧ Below w.heap.size w w' := Any.strings_Join Tryd.lays156 Tryd.Builder_Extra_156 bk o c xs sep w hcells hbk hN hcap hlen
def Tryd.lays195_ren : Go.Shelf.Ren := ⟨fun | 195 => 160 | n => n, fun | 9 => 9 | 3 => 3 | 0 => 0 | 4 => 4 | n => n, fun | n => n⟩
def Tryd.lays129_ren : Go.Shelf.Ren := ⟨fun | 129 => 183 | n => n, fun | 53 => 163 | 3 => 3 | 4 => 4 | 46 => 171 | 5 => 5 | 9 => 9 | n => n, fun | n => n⟩
def Tryd.lays317_ren : Go.Shelf.Ren := ⟨fun | 317 => 182 | n => n, fun | 3 => 3 | 46 => 171 | n => n, fun | n => n⟩
def Tryd.lays318_ren : Go.Shelf.Ren := ⟨fun | 318 => 184 | n => n, fun | 3 => 3 | 4 => 4 | n => n, fun | n => n⟩
def Tryd.lays283_ren : Go.Shelf.Ren := ⟨fun | 283 => 167 | n => n, fun | 3 => 3 | 9 => 9 | 4 => 4 | n => n, fun | n => n⟩
def Tryd.laysM284_ren : Go.Shelf.Ren := ⟨fun | 284 => 168 | 129 => 183 | 317 => 182 | 318 => 184 | n => n, fun | 53 => 163 | 3 => 3 | 212 => 195 | 0 => 0 | 4 => 4 | 46 => 171 | 5 => 5 | 9 => 9 | n => n, fun | 17 => 2 | n => n⟩
def Tryd.lays285_ren : Go.Shelf.Ren := ⟨fun | 285 => 169 | n => n, fun | 37 => 122 | 53 => 163 | 3 => 3 | 4 => 4 | 51 => 167 | 9 => 9 | 5 => 5 | 0 => 0 | n => n, fun | n => n⟩
def Tryd.laysM246_ren : Go.Shelf.Ren := ⟨fun | 246 => 151 | 283 => 167 | 284 => 168 | 285 => 169 | 286 => 170 | 129 => 183 | 317 => 182 | 318 => 184 | 319 => 185 | 320 => 186 | 337 => 190 | 338 => 191 | n => n, fun | 2 => 2 | 3 => 3 | 9 => 9 | 4 => 4 | 171 => 180 | 0 => 0 | 53 => 163 | 37 => 122 | 5 => 5 | 173 => 183 | 212 => 195 | 51 => 167 | 20 => 20 | 213 => 196 | 46 => 171 | 232 => 211 | 233 => 212 | n => n, fun | 17 => 2 | 18 => 7 | 19 => 8 | n => n⟩
def Tryd.lays246_ren : Go.Shelf.Ren := ⟨fun | 246 => 151 | 283 => 167 | 284 => 168 | 285 => 169 | 286 => 170 | 129 => 183 | 317 => 182 | 318 => 184 | 319 => 185 | 320 => 186 | 337 => 190 | 338 => 191 | n => n, fun | 2 => 2 | 3 => 3 | 9 => 9 | 4 => 4 | 171 => 180 | 0 => 0 | 53 => 163 | 37 => 122 | 5 => 5 | 173 => 183 | 212 => 195 | 51 => 167 | 20 => 20 | 213 => 196 | 46 => 171 | 232 => 211 | 233 => 212 | n => n, fun | 17 => 2 | 18 => 7 | 19 => 8 | n => n⟩
def Tryd.laysM243_ren : Go.Shelf.Ren := ⟨fun | 243 => 192 | 246 => 151 | 283 => 167 | 284 => 168 | 285 => 169 | 286 => 170 | 129 => 183 | 317 => 182 | 318 => 184 | 319 => 185 | 320 => 186 | 337 => 190 | 338 => 191 | n => n, fun | 3 => 3 | 9 => 9 | 2 => 2 | 4 => 4 | 171 => 180 | 0 => 0 | 53 => 163 | 37 => 122 | 5 => 5 | 173 => 183 | 212 => 195 | 51 => 167 | 20 => 20 | 213 => 196 | 46 => 171 | 232 => 211 | 233 => 212 | n => n, fun | 17 => 2 | 18 => 7 | 19 => 8 | n => n⟩
def Tryd.lays243_ren : Go.Shelf.Ren := ⟨fun | 243 => 192 | 246 => 151 | 283 => 167 | 284 => 168 | 285 => 169 | 286 => 170 | 129 => 183 | 317 => 182 | 318 => 184 | 319 => 185 | 320 => 186 | 337 => 190 | 338 => 191 | n => n, fun | 3 => 3 | 9 => 9 | 2 => 2 | 4 => 4 | 171 => 180 | 0 => 0 | 53 => 163 | 37 => 122 | 5 => 5 | 173 => 183 | 212 => 195 | 51 => 167 | 20 => 20 | 213 => 196 | 46 => 171 | 232 => 211 | 233 => 212 | n => n, fun | 17 => 2 | 18 => 7 | 19 => 8 | n => n⟩
def Tryd.laysM171_ren : Go.Shelf.Ren := ⟨fun | 171 => 189 | 243 => 192 | 246 => 151 | 283 => 167 | 284 => 168 | 285 => 169 | 286 => 170 | 129 => 183 | 317 => 182 | 318 => 184 | 319 => 185 | 320 => 186 | 337 => 190 | 338 => 191 | n => n, fun | 3 => 3 | 9 => 9 | 2 => 2 | 4 => 4 | 171 => 180 | 0 => 0 | 53 => 163 | 37 => 122 | 5 => 5 | 173 => 183 | 212 => 195 | 51 => 167 | 20 => 20 | 213 => 196 | 46 => 171 | 232 => 211 | 233 => 212 | n => n, fun | 17 => 2 | 18 => 7 | 19 => 8 | n => n⟩
def Tryd.lays171_ren : Go.Shelf.Ren := ⟨fun | 171 => 189 | 243 => 192 | 246 => 151 | 283 => 167 | 284 => 168 | 285 => 169 | 286 => 170 | 129 => 183 | 317 => 182 | 318 => 184 | 319 => 185 | 320 => 186 | 337 => 190 | 338 => 191 | n => n, fun | 3 => 3 | 9 => 9 | 2 => 2 | 4 => 4 | 171 => 180 | 0 => 0 | 53 => 163 | 37 => 122 | 5 => 5 | 173 => 183 | 212 => 195 | 51 => 167 | 20 => 20 | 213 => 196 | 46 => 171 | 232 => 211 | 233 => 212 | n => n, fun | 17 => 2 | 18 => 7 | 19 => 8 | n => n⟩
def Tryd.laysM173_ren : Go.Shelf.Ren := ⟨fun | 173 => 132 | 246 => 151 | 283 => 167 | 284 => 168 | 285 => 169 | 286 => 170 | 129 => 183 | 317 => 182 | 318 => 184 | 319 => 185 | 320 => 186 | 337 => 190 | 338 => 191 | n => n, fun | 2 => 2 | 3 => 3 | 9 => 9 | 4 => 4 | 171 => 180 | 0 => 0 | 53 => 163 | 37 => 122 | 5 => 5 | 173 => 183 | 212 => 195 | 51 => 167 | 20 => 20 | 213 => 196 | 46 => 171 | 232 => 211 | 233 => 212 | n => n, fun | 17 => 2 | 18 => 7 | 19 => 8 | n => n⟩
def Tryd.lays173_ren : Go.Shelf.Ren := ⟨fun | 173 => 132 | 246 => 151 | 283 => 167 | 284 => 168 | 285 => 169 | 286 => 170 | 129 => 183 | 317 => 182 | 318 => 184 | 319 => 185 | 320 => 186 | 337 => 190 | 338 => 191 | n => n, fun | 2 => 2 | 3 => 3 | 9 => 9 | 4 => 4 | 171 => 180 | 0 => 0 | 53 => 163 | 37 => 122 | 5 => 5 | 173 => 183 | 212 => 195 | 51 => 167 | 20 => 20 | 213 => 196 | 46 => 171 | 232 => 211 | 233 => 212 | n => n, fun | 17 => 2 | 18 => 7 | 19 => 8 | n => n⟩
def Tryd.laysM316_ren : Go.Shelf.Ren := ⟨fun | 316 => 187 | n => n, fun | 9 => 9 | 3 => 3 | 4 => 4 | 37 => 122 | 0 => 0 | 127 => 158 | 5 => 5 | n => n, fun | n => n⟩
def Tryd.laysM279_ren : Go.Shelf.Ren := ⟨fun | 279 => 175 | 316 => 187 | n => n, fun | 9 => 9 | 168 => 189 | 75 => 128 | 210 => 201 | 3 => 3 | 4 => 4 | 37 => 122 | 0 => 0 | 127 => 158 | 80 => 134 | 5 => 5 | n => n, fun | 15 => 3 | n => n⟩
def Tryd.laysC245_ren : Go.Shelf.Ren := ⟨fun | 245 => 159 | 279 => 175 | 280 => 176 | 281 => 177 | 282 => 178 | 316 => 187 | 171 => 189 | 205 => 188 | 243 => 192 | 246 => 151 | 283 => 167 | 284 => 168 | 285 => 169 | 286 => 170 | 129 => 183 | 317 => 182 | 318 => 184 | 319 => 185 | 320 => 186 | 337 => 190 | 338 => 191 | n => n, fun | 9 => 9 | 3 => 3 | 75 => 128 | 167 => 187 | 4 => 4 | 168 => 189 | 210 => 201 | 37 => 122 | 0 => 0 | 127 => 158 | 145 => 210 | 143 => 208 | 2 => 2 | 171 => 180 | 53 => 163 | 5 => 5 | 173 => 183 | 212 => 195 | 51 => 167 | 20 => 20 | 213 => 196 | 46 => 171 | 232 => 211 | 233 => 212 | 80 => 134 | n => n, fun | 15 => 3 | 16 => 4 | 17 => 2 | 18 => 7 | 19 => 8 | n => n⟩
def Tryd.lays321_ren : Go.Shelf.Ren := ⟨fun | 321 => 173 | n => n, fun | 5 => 5 | n => n, fun | n => n⟩
def Tryd.lays287_ren : Go.Shelf.Ren := ⟨fun | 287 => 158 | 321 => 173 | 322 => 174 | n => n, fun | 9 => 9 | 3 => 3 | 53 => 163 | 75 => 128 | 4 => 4 | 167 => 187 | 5 => 5 | 46 => 171 | 37 => 122 | 0 => 0 | 21 => 21 | 80 => 134 | n => n, fun | n => n⟩
def Tryd.laysM280_ren : Go.Shelf.Ren := ⟨fun | 280 => 176 | 316 => 187 | n => n, fun | 9 => 9 | 168 => 189 | 75 => 128 | 210 => 201 | 3 => 3 | 4 => 4 | 37 => 122 | 0 => 0 | 127 => 158 | 80 => 134 | 5 => 5 | n => n, fun | 16 => 4 | n => n⟩
def Tryd.lays217_ren : Go.Shelf.Ren := ⟨fun | 217 => 163 | 266 => 180 | n => n, fun | 9 => 9 | 5 => 5 | 3 => 3 | n => n, fun | n => n⟩
def Tryd.lays224_ren : Go.Shelf.Ren := ⟨fun | 224 => 165 | n => n, fun | 3 => 3 | n => n, fun | n => n⟩
def Tryd.lays314_ren : Go.Shelf.Ren := ⟨fun | 314 => 181 | n => n, fun | 9 => 9 | 51 => 167 | 3 => 3 | 4 => 4 | 5 => 5 | 46 => 171 | n => n, fun | n => n⟩
def Tryd.lays267_ren : Go.Shelf.Ren := ⟨fun | 267 => 166 | 314 => 181 | n => n, fun | 9 => 9 | 3 => 3 | 146 => 192 | 51 => 167 | 4 => 4 | 5 => 5 | 46 => 171 | n => n, fun | n => n⟩
def Tryd.lays219_ren : Go.Shelf.Ren := ⟨fun | 219 => 148 | 217 => 163 | 225 => 164 | 224 => 165 | 267 => 166 | 266 => 180 | 314 => 181 | n => n, fun | 9 => 9 | 3 => 3 | 4 => 4 | 5 => 5 | 46 => 171 | 146 => 192 | 51 => 167 | n => n, fun | 1 => 1 | n => n⟩
def Tryd.lays143_ren : Go.Shelf.Ren := ⟨fun | 143 => 133 | 219 => 148 | 217 => 163 | 225 => 164 | 224 => 165 | 267 => 166 | 266 => 180 | 314 => 181 | n => n, fun | 9 => 9 | 3 => 3 | 4 => 4 | 5 => 5 | 46 => 171 | 146 => 192 | 51 => 167 | n => n, fun | 1 => 1 | n => n⟩
def Tryd.lays144_ren : Go.Shelf.Ren := ⟨fun | 144 => 100 | 143 => 133 | 219 => 148 | 217 => 163 | 225 => 164 | 224 => 165 | 267 => 166 | 266 => 180 | 314 => 181 | n => n, fun | 9 => 9 | 4 => 4 | 3 => 3 | 5 => 5 | 46 => 171 | 146 => 192 | 51 => 167 | n => n, fun | 1 => 1 | n => n⟩
def Tryd.lays220_ren : Go.Shelf.Ren := ⟨fun | 220 => 127 | 219 => 148 | 217 => 163 | 225 => 164 | 224 => 165 | 267 => 166 | 266 => 180 | 314 => 181 | n => n, fun | 9 => 9 | 4 => 4 | 3 => 3 | 5 => 5 | 46 => 171 | 146 => 192 | 51 => 167 | n => n, fun | 1 => 1 | n => n⟩
def Tryd.lays145_ren : Go.Shelf.Ren := ⟨fun | 145 => 92 | 220 => 127 | 219 => 148 | 217 => 163 | 225 => 164 | 224 => 165 | 267 => 166 | 266 => 180 | 314 => 181 | n => n, fun | 9 => 9 | 4 => 4 | 59 => 113 | 3 => 3 | 5 => 5 | 46 => 171 | 146 => 192 | 51 => 167 | n => n, fun | 1 => 1 | n => n⟩
def Tryd.lays138_ren : Go.Shelf.Ren := ⟨fun | 138 => 147 | 195 => 160 | 218 => 162 | 143 => 133 | 219 => 148 | 217 => 163 | 225 => 164 | 224 => 165 | 267 => 166 | 266 => 180 | 314 => 181 | n => n, fun | 9 => 9 | 3 => 3 | 4 => 4 | 5 => 5 | 0 => 0 | 46 => 171 | 146 => 192 | 51 => 167 | n => n, fun | 1 => 1 | n => n⟩
def Tryd.laysM219_ren : Go.Shelf.Ren := ⟨fun | 219 => 148 | 217 => 163 | 225 => 164 | 224 => 165 | 267 => 166 | 266 => 180 | 314 => 181 | n => n, fun | 9 => 9 | 3 => 3 | 4 => 4 | 5 => 5 | 46 => 171 | 146 => 192 | 51 => 167 | n => n, fun | 1 => 1 | n => n⟩
def Tryd.laysM143_ren : Go.Shelf.Ren := ⟨fun | 143 => 133 | 219 => 148 | 217 => 163 | 225 => 164 | 224 => 165 | 267 => 166 | 266 => 180 | 314 => 181 | n => n, fun | 9 => 9 | 3 => 3 | 4 => 4 | 5 => 5 | 46 => 171 | 146 => 192 | 51 => 167 | n => n, fun | 1 => 1 | n => n⟩
def Tryd.laysM144_ren : Go.Shelf.Ren := ⟨fun | 144 => 100 | 143 => 133 | 219 => 148 | 217 => 163 | 225 => 164 | 224 => 165 | 267 => 166 | 266 => 180 | 314 => 181 | n => n, fun | 9 => 9 | 4 => 4 | 3 => 3 | 5 => 5 | 46 => 171 | 146 => 192 | 51 => 167 | n => n, fun | 1 => 1 | n => n⟩
def Tryd.laysM220_ren : Go.Shelf.Ren := ⟨fun | 220 => 127 | 219 => 148 | 217 => 163 | 225 => 164 | 224 => 165 | 267 => 166 | 266 => 180 | 314 => 181 | n => n, fun | 9 => 9 | 4 => 4 | 3 => 3 | 5 => 5 | 46 => 171 | 146 => 192 | 51 => 167 | n => n, fun | 1 => 1 | n => n⟩
def Tryd.laysM145_ren : Go.Shelf.Ren := ⟨fun | 145 => 92 | 220 => 127 | 219 => 148 | 217 => 163 | 225 => 164 | 224 => 165 | 267 => 166 | 266 => 180 | 314 => 181 | n => n, fun | 9 => 9 | 4 => 4 | 59 => 113 | 3 => 3 | 5 => 5 | 46 => 171 | 146 => 192 | 51 => 167 | n => n, fun | 1 => 1 | n => n⟩
def Tryd.laysM138_ren : Go.Shelf.Ren := ⟨fun | 138 => 147 | 195 => 160 | 218 => 162 | 143 => 133 | 219 => 148 | 217 => 163 | 225 => 164 | 224 => 165 | 267 => 166 | 266 => 180 | 314 => 181 | n => n, fun | 9 => 9 | 3 => 3 | 4 => 4 | 5 => 5 | 0 => 0 | 46 => 171 | 146 => 192 | 51 => 167 | n => n, fun | 1 => 1 | n => n⟩
def Tryd.lays207_ren : Go.Shelf.Ren := ⟨fun | 207 => 149 | n => n, fun | 9 => 9 | 4 => 4 | 3 => 3 | n => n, fun | n => n⟩
def Tryd.lays100_ren : Go.Shelf.Ren := ⟨fun | 100 => 128 | 207 => 149 | n => n, fun | 9 => 9 | 4 => 4 | 3 => 3 | n => n, fun | n => n⟩
def Tryd.lays221_ren : Go.Shelf.Ren := ⟨fun | 221 => 126 | 268 => 146 | 138 => 147 | 143 => 133 | 195 => 160 | 197 => 161 | 218 => 162 | 219 => 148 | 260 => 179 | 217 => 163 | 225 => 164 | 224 => 165 | 267 => 166 | 266 => 180 | 314 => 181 | n => n, fun | 9 => 9 | 3 => 3 | 31 => 69 | 4 => 4 | 0 => 0 | 105 => 176 | 21 => 21 | 5 => 5 | 46 => 171 | 119 => 203 | 139 => 206 | 138 => 205 | 146 => 192 | 51 => 167 | n => n, fun | 1 => 1 | 3 => 5 | 4 => 6 | n => n⟩
def Tryd.lays146_ren : Go.Shelf.Ren := ⟨fun | 146 => 91 | 221 => 126 | 268 => 146 | 138 => 147 | 143 => 133 | 195 => 160 | 197 => 161 | 218 => 162 | 219 => 148 | 260 => 179 | 217 => 163 | 225 => 164 | 224 => 165 | 267 => 166 | 266 => 180 | 314 => 181 | n => n, fun | 9 => 9 | 31 => 69 | 3 => 3 | 4 => 4 | 0 => 0 | 105 => 176 | 21 => 21 | 5 => 5 | 46 => 171 | 119 => 203 | 139 => 206 | 138 => 205 | 146 => 192 | 51 => 167 | n => n, fun | 1 => 1 | 3 => 5 | 4 => 6 | n => n⟩
def Tryd.laysM146_ren : Go.Shelf.Ren := ⟨fun | 146 => 91 | 221 => 126 | 268 => 146 | 138 => 147 | 143 => 133 | 195 => 160 | 197 => 161 | 218 => 162 | 219 => 148 | 260 => 179 | 217 => 163 | 225 => 164 | 224 => 165 | 267 => 166 | 266 => 180 | 314 => 181 | n => n, fun | 9 => 9 | 31 => 69 | 3 => 3 | 4 => 4 | 0 => 0 | 105 => 176 | 21 => 21 | 5 => 5 | 46 => 171 | 119 => 203 | 139 => 206 | 138 => 205 | 146 => 192 | 51 => 167 | n => n, fun | 1 => 1 | 3 => 5 | 4 => 6 | n => n⟩
def Tryd.lays197_ren : Go.Shelf.Ren := ⟨fun | 197 => 161 | 260 => 179 | n => n, fun | 9 => 9 | 21 => 21 | 3 => 3 | 4 => 4 | 5 => 5 | 105 => 176 | 119 => 203 | 0 => 0 | 46 => 171 | 139 => 206 | 138 => 205 | n => n, fun | 3 => 5 | 4 => 6 | n => n⟩
def Tryd.lays268_ren : Go.Shelf.Ren := ⟨fun | 268 => 146 | 195 => 160 | 197 => 161 | 260 => 179 | n => n, fun | 9 => 9 | 3 => 3 | 31 => 69 | 4 => 4 | 105 => 176 | 21 => 21 | 0 => 0 | 5 => 5 | 119 => 203 | 46 => 171 | 139 => 206 | 138 => 205 | n => n, fun | 3 => 5 | 4 => 6 | n => n⟩
def Tryd.lays260_ren : Go.Shelf.Ren := ⟨fun | 260 => 179 | n => n, fun | 9 => 9 | 21 => 21 | 3 => 3 | 4 => 4 | 5 => 5 | 119 => 203 | 0 => 0 | 46 => 171 | 139 => 206 | 138 => 205 | n => n, fun | 3 => 5 | 4 => 6 | n => n⟩
end Go.Proofs
