-- written by a program of this claim's own (wip/tools/shake.py): of the kit's printed words those that this claim uses
import Derived.Shelf.Strings.Builder1
import Derived.Shelf.Small.Strs
import Derived.Shelf.Small.Wraps
import Derived.Shelf.Strconv.Atoi
import Derived.Shelf.Strconv.Itoa0
import Derived.Shelf.Strconv.Itoa1
import Derived.Shelf.LaysM
import Derived.Shelf.Strconv.Itoa2
import Derived.Shelf.Strconv.Itoa3
import Derived.Shelf.Strconv.AtoiErrFast
import Derived.Shelf.Strconv.ParseIntEmpty
import Derived.Shelf.Strconv.AtoiFail
import Derived.Shelf.Strconv.Clone
import Derived.Shelf.Strconv.SyntaxError
import Derived.Shelf.LaysC
import Derived.Shelf.Strconv.ToError
import Derived.Shelf.Strconv.Lower
import Derived.Shelf.Strconv.ParseUint10
import Derived.Shelf.Strconv.ParseUint10Empty
import Derived.Shelf.Strconv.ParseUint10Any
import Derived.Shelf.Strconv.ParseInt10
import Derived.Shelf.Strconv.AtoiLong
import Derived.Shelf.Strconv.AtoiInnerAll
import Derived.Shelf.Strconv.RangeError
import Derived.Shelf.Strconv.ToErrorRange
import Derived.Shelf.Strconv.AtoiAll
import Derived.Shelf.Strconv.ErrVarAll
import Derived.Shelf.Strings.Search1
import Derived.Shelf.Strings.Prefix
import Derived.Shelf.Bits.Mul64
import Derived.Shelf.Slices.Turned
import Derived.Ground.Names2Prog
import Derived.Shelf.Slices.Clone
import Derived.Test.YtigdjhnpngjhjaaDoorProg
-- helf
namespace Go.Proofs
open Go.Shelf
def Tryd.lays169_ren : Go.Shelf.Ren := ⟨fun | 169 => 156 | n => n, fun | 70 => 203 | 9 => 9 | 0 => 0 | 72 => 206 | 37 => 204 | 127 => 286 | 3 => 3 | 5 => 5 | n => n, fun | n => n⟩
theorem Tryd.lays169 : Go.Proofs.Lays.n169 Tryd.prog Tryd.lays169_ren := {
  mixed := by kernel_rfl
  f169 := Tryd.func156.trans (congrArg some (by kernel_rfl))
  t0 := Tryd.underlying0
  a0 := Tryd.isAgg0
  z0 := Tryd.sizeOf0
  v0 := Tryd.zeroValue0
  t3 := Tryd.underlying3
  a3 := Tryd.isAgg3
  z3 := Tryd.sizeOf3
  v3 := Tryd.zeroValue3
  t9 := Tryd.underlying9
  a9 := Tryd.isAgg9
  z9 := Tryd.sizeOf9
  v9 := Tryd.zeroValue9
  t37 := Tryd.underlying204
  a37 := Tryd.isAgg204
  z37 := Tryd.sizeOf204
  v37 := Tryd.zeroValue204
  t70 := Tryd.underlying203
  a70 := Tryd.isAgg203
  z70 := Tryd.sizeOf203
  v70 := Tryd.zeroValue203
  t72 := Tryd.underlying206
  a72 := Tryd.isAgg206
  z72 := Tryd.sizeOf206
  v72 := Tryd.zeroValue206
  t127 := Tryd.underlying286
  a127 := Tryd.isAgg286
  z127 := Tryd.sizeOf286
  v127 := Tryd.zeroValue286 }
theorem Tryd.Builder_Extra_169 : Builder.Extra Tryd.prog Tryd.lays169_ren := {
  sizeBuilder := by kernel_rfl
  liesBuilder := by kernel_rfl
  t5 := Tryd.underlying5
  a5 := Tryd.isAgg5
  z5 := Tryd.sizeOf5
  v5 := Tryd.zeroValue5
  infoByte := by kernel_rfl
  cellsByte := by kernel_rfl
  sizeByte := by kernel_rfl
  neB5 := by decide }
open Go.RowKit in
theorem Tryd.Builder_String_any (B b : Nat) (l : List UInt8) (w : World) (h : Lib.IsBuilder 206 5 B b (Lib.byteCells l) w) (hBw : B ≤ w.heap.size) :
    Calls Tryd.prog 156 #[.pointer (some ⟨b, 0, none⟩)] w fun e w' => e = .returned (.string ⟨l.toArray⟩) ∧ Below B w w' := Any.Builder_String_any Tryd.lays169 Tryd.Builder_Extra_169 B b l w h hBw
def Tryd.lays137_ren : Go.Shelf.Ren := ⟨fun | 137 => 214 | 217 => 239 | 266 => 252 | n => n, fun | 9 => 9 | 5 => 5 | 3 => 3 | n => n, fun | n => n⟩
theorem Tryd.lays137 : Go.Proofs.Lays.n137 Tryd.prog Tryd.lays137_ren := {
  mixed := by kernel_rfl
  f137 := Tryd.func214.trans (congrArg some (by kernel_rfl))
  f217 := Tryd.func239.trans (congrArg some (by kernel_rfl))
  f266 := Tryd.func252.trans (congrArg some (by kernel_rfl))
  t3 := Tryd.underlying3
  a3 := Tryd.isAgg3
  z3 := Tryd.sizeOf3
  v3 := Tryd.zeroValue3
  t5 := Tryd.underlying5
  a5 := Tryd.isAgg5
  z5 := Tryd.sizeOf5
  v5 := Tryd.zeroValue5
  t9 := Tryd.underlying9
  a9 := Tryd.isAgg9
  z9 := Tryd.sizeOf9
  v9 := Tryd.zeroValue9 }
open Go.RowKit in
theorem Tryd.strings_IndexByte (s : ByteArray) (c : Int) (w : World) :
    Calls Tryd.prog 214 #[.string s, .int .u8 c] w fun e w' => e = .returned (.int .i64 (Lib.indexByte s.data.toList c.toNat.toUInt8)) ∧ w' = w := Any.strings_IndexByte Tryd.lays137 s c w
def Tryd.lays103_ren : Go.Shelf.Ren := ⟨fun | 103 => 216 | 210 => 242 | 206 => 258 | n => n, fun | 9 => 9 | 4 => 4 | 24 => 282 | 3 => 3 | n => n, fun | n => n⟩
theorem Tryd.lays103 : Go.Proofs.Lays.n103 Tryd.prog Tryd.lays103_ren := {
  mixed := by kernel_rfl
  f103 := Tryd.func216.trans (congrArg some (by kernel_rfl))
  f206 := Tryd.func258.trans (congrArg some (by kernel_rfl))
  f210 := Tryd.func242.trans (congrArg some (by kernel_rfl))
  t3 := Tryd.underlying3
  a3 := Tryd.isAgg3
  z3 := Tryd.sizeOf3
  v3 := Tryd.zeroValue3
  t4 := Tryd.underlying4
  a4 := Tryd.isAgg4
  z4 := Tryd.sizeOf4
  v4 := Tryd.zeroValue4
  t9 := Tryd.underlying9
  a9 := Tryd.isAgg9
  z9 := Tryd.sizeOf9
  v9 := Tryd.zeroValue9
  t24 := Tryd.underlying282
  a24 := Tryd.isAgg282
  z24 := Tryd.sizeOf282
  v24 := Tryd.zeroValue282 }
open Go.RowKit in
theorem Tryd.strings_CutPrefix (s p : ByteArray) (w : World) :
    Calls Tryd.prog 216 #[.string s, .string p] w fun e w' => e = .returned (.tuple #[.string ⟨(Lib.trimPrefix s.data.toList p.data.toList).toArray⟩, .bool (Lib.hasPrefix s.data.toList p.data.toList)]) ∧ w' = w := Any.strings_CutPrefix Tryd.lays103 s p w
def Tryd.laysM171_ren : Go.Shelf.Ren := ⟨fun | 171 => 141 | 243 => 213 | 246 => 238 | 283 => 248 | 284 => 249 | 285 => 250 | 286 => 251 | 129 => 264 | 317 => 263 | 318 => 265 | 319 => 266 | 320 => 267 | 337 => 271 | 338 => 272 | n => n, fun | 3 => 3 | 9 => 9 | 2 => 2 | 4 => 4 | 171 => 314 | 0 => 0 | 53 => 315 | 37 => 204 | 5 => 5 | 173 => 318 | 212 => 338 | 51 => 327 | 20 => 20 | 213 => 339 | 46 => 308 | 232 => 351 | 233 => 352 | n => n, fun | 17 => 0 | 18 => 4 | 19 => 5 | n => n⟩
theorem Tryd.laysM171 : Go.Proofs.LaysM.n171 Tryd.prog Tryd.laysM171_ren := {
  mixed := by kernel_rfl
  f129 := Tryd.func264.trans (congrArg some (by kernel_rfl))
  f171 := Tryd.func141.trans (congrArg some (by kernel_rfl))
  f243 := Tryd.func213.trans (congrArg some (by kernel_rfl))
  f246 := Tryd.func238.trans (congrArg some (by kernel_rfl))
  f283 := Tryd.func248.trans (congrArg some (by kernel_rfl))
  f284 := Tryd.func249.trans (congrArg some (by kernel_rfl))
  f285 := Tryd.func250.trans (congrArg some (by kernel_rfl))
  f286 := Tryd.func251.trans (congrArg some (by kernel_rfl))
  f317 := Tryd.func263.trans (congrArg some (by kernel_rfl))
  f318 := Tryd.func265.trans (congrArg some (by kernel_rfl))
  f319 := Tryd.func266.trans (congrArg some (by kernel_rfl))
  f320 := Tryd.func267.trans (congrArg some (by kernel_rfl))
  f337 := Tryd.func271.trans (congrArg some (by kernel_rfl))
  f338 := Tryd.func272.trans (congrArg some (by kernel_rfl))
  t0 := Tryd.underlying0
  a0 := Tryd.isAgg0
  z0 := Tryd.sizeOf0
  v0 := Tryd.zeroValue0
  t2 := Tryd.underlying2
  a2 := Tryd.isAgg2
  z2 := Tryd.sizeOf2
  v2 := Tryd.zeroValue2
  t3 := Tryd.underlying3
  a3 := Tryd.isAgg3
  z3 := Tryd.sizeOf3
  v3 := Tryd.zeroValue3
  t4 := Tryd.underlying4
  a4 := Tryd.isAgg4
  z4 := Tryd.sizeOf4
  v4 := Tryd.zeroValue4
  t5 := Tryd.underlying5
  a5 := Tryd.isAgg5
  z5 := Tryd.sizeOf5
  v5 := Tryd.zeroValue5
  t9 := Tryd.underlying9
  a9 := Tryd.isAgg9
  z9 := Tryd.sizeOf9
  v9 := Tryd.zeroValue9
  t20 := Tryd.underlying20
  a20 := Tryd.isAgg20
  z20 := Tryd.sizeOf20
  v20 := Tryd.zeroValue20
  t37 := Tryd.underlying204
  a37 := Tryd.isAgg204
  z37 := Tryd.sizeOf204
  v37 := Tryd.zeroValue204
  t46 := Tryd.underlying308
  a46 := Tryd.isAgg308
  z46 := Tryd.sizeOf308
  v46 := Tryd.zeroValue308
  t51 := Tryd.underlying327
  a51 := Tryd.isAgg327
  z51 := Tryd.sizeOf327
  v51 := Tryd.zeroValue327
  t53 := Tryd.underlying315
  a53 := Tryd.isAgg315
  z53 := Tryd.sizeOf315
  v53 := Tryd.zeroValue315
  t171 := Tryd.underlying314
  a171 := Tryd.isAgg314
  z171 := Tryd.sizeOf314
  v171 := Tryd.zeroValue314
  t173 := Tryd.underlying318
  a173 := Tryd.isAgg318
  z173 := Tryd.sizeOf318
  v173 := Tryd.zeroValue318
  t212 := Tryd.underlying338
  a212 := Tryd.isAgg338
  z212 := Tryd.sizeOf338
  v212 := Tryd.zeroValue338
  t213 := Tryd.underlying339
  a213 := Tryd.isAgg339
  z213 := Tryd.sizeOf339
  t232 := Tryd.underlying351
  a232 := Tryd.isAgg351
  z232 := Tryd.sizeOf351
  v232 := Tryd.zeroValue351
  t233 := Tryd.underlying352
  a233 := Tryd.isAgg352
  z233 := Tryd.sizeOf352
  v233 := Tryd.zeroValue352
  g17 := by kernel_rfl
  g18 := by kernel_rfl
  g19 := by kernel_rfl
  i0 := by kernel_rfl
  i2 := by kernel_rfl
  i3 := by kernel_rfl
  i4 := by kernel_rfl
  i5 := by kernel_rfl
  i9 := by kernel_rfl
  i20 := by kernel_rfl
  i37 := by kernel_rfl
  i46 := by kernel_rfl
  i51 := by kernel_rfl
  i53 := by kernel_rfl
  i171 := by kernel_rfl
  i173 := by kernel_rfl
  i212 := by kernel_rfl
  i232 := by kernel_rfl
  i233 := by kernel_rfl
  m17 := by kernel_rfl
  m18 := by kernel_rfl
  m19 := by kernel_rfl }
open Go.RowKit Go.Sort Go.Lib in
theorem Tryd.strconv_Itoa (n : Int) (h0 : -9223372036854775808 ≤ n) (h1 : n ≤ 9223372036854775807) (w : World) (htab : Lib.TabIs Tryd.prog w "internal/strconv.uint64pow10" .u64 Lib.pow10Tab) :
    Calls Tryd.prog 141 #[.int .i64 n] w fun e w' => e = .returned (.string ⟨(Lib.itoa n).toArray⟩) ∧ ∃ k os, w' = grow (w.drewN k) os := Any.strconv_Itoa Tryd.laysM171 n h0 h1 w htab
def Tryd.laysC172_ren : Go.Shelf.Ren := ⟨fun | 172 => 215 | 244 => 240 | 245 => 241 | 247 => 253 | 279 => 254 | 280 => 255 | 281 => 256 | 282 => 257 | 287 => 268 | 316 => 269 | 171 => 141 | 205 => 270 | 321 => 273 | 322 => 274 | 243 => 213 | 246 => 238 | 283 => 248 | 284 => 249 | 285 => 250 | 286 => 251 | 129 => 264 | 317 => 263 | 318 => 265 | 319 => 266 | 320 => 267 | 337 => 271 | 338 => 272 | n => n, fun | 9 => 9 | 3 => 3 | 75 => 208 | 76 => 209 | 4 => 4 | 5 => 5 | 167 => 320 | 37 => 204 | 0 => 0 | 85 => 321 | 2 => 2 | 168 => 323 | 53 => 315 | 175 => 341 | 46 => 308 | 210 => 344 | 127 => 286 | 145 => 350 | 143 => 348 | 21 => 21 | 171 => 314 | 173 => 318 | 212 => 338 | 51 => 327 | 20 => 20 | 213 => 339 | 232 => 351 | 233 => 352 | 80 => 38 | n => n, fun | 15 => 2 | 16 => 3 | 17 => 0 | 18 => 4 | 19 => 5 | n => n⟩
theorem Tryd.laysC172 : Go.Proofs.LaysC.n172 Tryd.prog Tryd.laysC172_ren := {
  mixed := by kernel_rfl
  f129 := Tryd.func264.trans (congrArg some (by kernel_rfl))
  f171 := Tryd.func141.trans (congrArg some (by kernel_rfl))
  f172 := Tryd.func215.trans (congrArg some (by kernel_rfl))
  f205 := Tryd.func270.trans (congrArg some (by kernel_rfl))
  f243 := Tryd.func213.trans (congrArg some (by kernel_rfl))
  f244 := Tryd.func240.trans (congrArg some (by kernel_rfl))
  f245 := Tryd.func241.trans (congrArg some (by kernel_rfl))
  f246 := Tryd.func238.trans (congrArg some (by kernel_rfl))
  f247 := Tryd.func253.trans (congrArg some (by kernel_rfl))
  f279 := Tryd.func254.trans (congrArg some (by kernel_rfl))
  f280 := Tryd.func255.trans (congrArg some (by kernel_rfl))
  f281 := Tryd.func256.trans (congrArg some (by kernel_rfl))
  f282 := Tryd.func257.trans (congrArg some (by kernel_rfl))
  f283 := Tryd.func248.trans (congrArg some (by kernel_rfl))
  f284 := Tryd.func249.trans (congrArg some (by kernel_rfl))
  f285 := Tryd.func250.trans (congrArg some (by kernel_rfl))
  f286 := Tryd.func251.trans (congrArg some (by kernel_rfl))
  f287 := Tryd.func268.trans (congrArg some (by kernel_rfl))
  f316 := Tryd.func269.trans (congrArg some (by kernel_rfl))
  f317 := Tryd.func263.trans (congrArg some (by kernel_rfl))
  f318 := Tryd.func265.trans (congrArg some (by kernel_rfl))
  f319 := Tryd.func266.trans (congrArg some (by kernel_rfl))
  f320 := Tryd.func267.trans (congrArg some (by kernel_rfl))
  f321 := Tryd.func273.trans (congrArg some (by kernel_rfl))
  f322 := Tryd.func274.trans (congrArg some (by kernel_rfl))
  f337 := Tryd.func271.trans (congrArg some (by kernel_rfl))
  f338 := Tryd.func272.trans (congrArg some (by kernel_rfl))
  t0 := Tryd.underlying0
  a0 := Tryd.isAgg0
  z0 := Tryd.sizeOf0
  v0 := Tryd.zeroValue0
  t2 := Tryd.underlying2
  a2 := Tryd.isAgg2
  z2 := Tryd.sizeOf2
  v2 := Tryd.zeroValue2
  t3 := Tryd.underlying3
  a3 := Tryd.isAgg3
  z3 := Tryd.sizeOf3
  v3 := Tryd.zeroValue3
  t4 := Tryd.underlying4
  a4 := Tryd.isAgg4
  z4 := Tryd.sizeOf4
  v4 := Tryd.zeroValue4
  t5 := Tryd.underlying5
  a5 := Tryd.isAgg5
  z5 := Tryd.sizeOf5
  v5 := Tryd.zeroValue5
  t9 := Tryd.underlying9
  a9 := Tryd.isAgg9
  z9 := Tryd.sizeOf9
  v9 := Tryd.zeroValue9
  t20 := Tryd.underlying20
  a20 := Tryd.isAgg20
  z20 := Tryd.sizeOf20
  v20 := Tryd.zeroValue20
  t21 := Tryd.underlying21
  a21 := Tryd.isAgg21
  z21 := Tryd.sizeOf21
  v21 := Tryd.zeroValue21
  t37 := Tryd.underlying204
  a37 := Tryd.isAgg204
  z37 := Tryd.sizeOf204
  v37 := Tryd.zeroValue204
  t46 := Tryd.underlying308
  a46 := Tryd.isAgg308
  z46 := Tryd.sizeOf308
  v46 := Tryd.zeroValue308
  t51 := Tryd.underlying327
  a51 := Tryd.isAgg327
  z51 := Tryd.sizeOf327
  v51 := Tryd.zeroValue327
  t53 := Tryd.underlying315
  a53 := Tryd.isAgg315
  z53 := Tryd.sizeOf315
  v53 := Tryd.zeroValue315
  t75 := Tryd.underlying208
  a75 := Tryd.isAgg208
  z75 := Tryd.sizeOf208
  v75 := Tryd.zeroValue208
  t76 := Tryd.underlying209
  a76 := Tryd.isAgg209
  z76 := Tryd.sizeOf209
  v76 := Tryd.zeroValue209
  t85 := Tryd.underlying321
  a85 := Tryd.isAgg321
  z85 := Tryd.sizeOf321
  v85 := Tryd.zeroValue321
  t127 := Tryd.underlying286
  a127 := Tryd.isAgg286
  z127 := Tryd.sizeOf286
  v127 := Tryd.zeroValue286
  t143 := Tryd.underlying348
  a143 := Tryd.isAgg348
  z143 := Tryd.sizeOf348
  v143 := Tryd.zeroValue348
  t145 := Tryd.underlying350
  a145 := Tryd.isAgg350
  z145 := Tryd.sizeOf350
  v145 := Tryd.zeroValue350
  t167 := Tryd.underlying320
  a167 := Tryd.isAgg320
  z167 := Tryd.sizeOf320
  v167 := Tryd.zeroValue320
  t168 := Tryd.underlying323
  a168 := Tryd.isAgg323
  z168 := Tryd.sizeOf323
  v168 := Tryd.zeroValue323
  t171 := Tryd.underlying314
  a171 := Tryd.isAgg314
  z171 := Tryd.sizeOf314
  v171 := Tryd.zeroValue314
  t173 := Tryd.underlying318
  a173 := Tryd.isAgg318
  z173 := Tryd.sizeOf318
  v173 := Tryd.zeroValue318
  t175 := Tryd.underlying341
  a175 := Tryd.isAgg341
  z175 := Tryd.sizeOf341
  v175 := Tryd.zeroValue341
  t210 := Tryd.underlying344
  a210 := Tryd.isAgg344
  z210 := Tryd.sizeOf344
  v210 := Tryd.zeroValue344
  t212 := Tryd.underlying338
  a212 := Tryd.isAgg338
  z212 := Tryd.sizeOf338
  v212 := Tryd.zeroValue338
  t213 := Tryd.underlying339
  a213 := Tryd.isAgg339
  z213 := Tryd.sizeOf339
  t232 := Tryd.underlying351
  a232 := Tryd.isAgg351
  z232 := Tryd.sizeOf351
  v232 := Tryd.zeroValue351
  t233 := Tryd.underlying352
  a233 := Tryd.isAgg352
  z233 := Tryd.sizeOf352
  v233 := Tryd.zeroValue352
  g15 := by kernel_rfl
  g16 := by kernel_rfl
  g17 := by kernel_rfl
  g18 := by kernel_rfl
  g19 := by kernel_rfl
  t80 := Tryd.underlying38
  a80 := Tryd.isAgg38
  z80 := Tryd.sizeOf38
  v80 := Tryd.zeroValue38
  i0 := by kernel_rfl
  i2 := by kernel_rfl
  i3 := by kernel_rfl
  i4 := by kernel_rfl
  i5 := by kernel_rfl
  i9 := by kernel_rfl
  i20 := by kernel_rfl
  i21 := by kernel_rfl
  i37 := by kernel_rfl
  i46 := by kernel_rfl
  i51 := by kernel_rfl
  i53 := by kernel_rfl
  i75 := by kernel_rfl
  i76 := by kernel_rfl
  i80 := by kernel_rfl
  i85 := by kernel_rfl
  i127 := by kernel_rfl
  i143 := by kernel_rfl
  i145 := by kernel_rfl
  i167 := by kernel_rfl
  i168 := by kernel_rfl
  i171 := by kernel_rfl
  i173 := by kernel_rfl
  i175 := by kernel_rfl
  i210 := by kernel_rfl
  i212 := by kernel_rfl
  i232 := by kernel_rfl
  i233 := by kernel_rfl
  m15 := by kernel_rfl
  m16 := by kernel_rfl
  m17 := by kernel_rfl
  m18 := by kernel_rfl
  m19 := by kernel_rfl
  c0 := by kernel_rfl
  c2 := by kernel_rfl
  c3 := by kernel_rfl
  c4 := by kernel_rfl
  c5 := by kernel_rfl
  c9 := by kernel_rfl
  c20 := by kernel_rfl
  c21 := by kernel_rfl
  c37 := by kernel_rfl
  c46 := by kernel_rfl
  c51 := by kernel_rfl
  c53 := by kernel_rfl
  c75 := by kernel_rfl
  c76 := by kernel_rfl
  c80 := by kernel_rfl
  c85 := by kernel_rfl
  c127 := by kernel_rfl
  c143 := by kernel_rfl
  c145 := by kernel_rfl
  c167 := by kernel_rfl
  c168 := by kernel_rfl
  c171 := by kernel_rfl
  c173 := by kernel_rfl
  c175 := by kernel_rfl
  c210 := by kernel_rfl
  c212 := by kernel_rfl
  c213 := by kernel_rfl
  c232 := by kernel_rfl
  c233 := by kernel_rfl }
open Go.RowKit in
theorem Tryd.strconv_Atoi_ok (s : ByteArray) (hmax : s.size ≤ 9223372036854775806) (v : Int) (h : Lib.atoiAll s.data.toList = .ok v) (w : World) :
    Calls Tryd.prog 215 #[.string s] w fun e w' => e = .returned (.tuple #[.int .i64 v, .nilIface]) ∧ (w' = w ∨ ∃ t, w' = Lib.bytesWorld w 5 t) := Any.strconv_Atoi_ok Tryd.laysC172 s hmax v h w
open Go.RowKit in
theorem Tryd.strconv_Atoi_syntax_var (s : ByteArray) (hlim : s.size ≤ 281474976710656) (h : Lib.atoiAll s.data.toList = .syntax) (tp : TypeId) (p : Value) (w : World) (hvar : w.var? Tryd.prog "strconv.ErrSyntax" = some #[.iface tp p]) :
    Calls Tryd.prog 215 #[.string s] w fun e w' => ∃ N, e = .returned (.tuple #[.int .i64 0, .iface 323 (.pointer (some ⟨N, 0, none⟩))]) ∧ w.heap.size ≤ N ∧ w'.heap[N]? = some (.cells #[.string ⟨#[65, 116, 111, 105]⟩, .string s, .iface tp p] 344 (0, 0)) ∧ Below w.heap.size w w' := Any.strconv_Atoi_syntax_var Tryd.laysC172 s hlim h tp p w hvar
open Go.RowKit in
theorem Tryd.strconv_Atoi_range_var (s : ByteArray) (hlim : s.size ≤ 281474976710656) (h : Lib.atoiAll s.data.toList = .range) (tp : TypeId) (p : Value) (w : World) (hvar : w.var? Tryd.prog "strconv.ErrRange" = some #[.iface tp p]) :
    Calls Tryd.prog 215 #[.string s] w fun e w' => ∃ N, e = .returned (.tuple #[.int .i64 (Lib.atoiSat s.data.toList), .iface 323 (.pointer (some ⟨N, 0, none⟩))]) ∧ w.heap.size ≤ N ∧ w'.heap[N]? = some (.cells #[.string ⟨#[65, 116, 111, 105]⟩, .string s, .iface tp p] 344 (0, 0)) ∧ Below w.heap.size w w' := Any.strconv_Atoi_range_var Tryd.laysC172 s hlim h tp p w hvar
def Tryd.laysNm215_ren : Go.Shelf.Ren := ⟨fun | 15 => 204 | n => n, fun | 22 => 22 | 3 => 3 | 4 => 4 | n => n, fun | n => n⟩
theorem Tryd.laysNm215 : Go.Proofs.Lays2.n15 Tryd.prog Tryd.laysNm215_ren := {
  mixed := by kernel_rfl
  f15 := Tryd.func204.trans (congrArg some (by kernel_rfl))
  t3 := Tryd.underlying3
  a3 := Tryd.isAgg3
  z3 := Tryd.sizeOf3
  v3 := Tryd.zeroValue3
  t4 := Tryd.underlying4
  a4 := Tryd.isAgg4
  z4 := Tryd.sizeOf4
  v4 := Tryd.zeroValue4
  t22 := Tryd.underlying22
  a22 := Tryd.isAgg22
  z22 := Tryd.sizeOf22
  v22 := Tryd.zeroValue22
  i3 := by kernel_rfl }
open Go.RowKit Go.Lib in
theorem Tryd.slices_Clone_int (b off n c : Nat) (zs : List Int) (w : World) (hz : n ≤ zs.length) (hbig : n * 8 ≤ 140737488355328) (hc : ∀ j, j < zs.length → w.cell? ⟨b, off + j, none⟩ = some (.int .i64 (zs.getD j 0))) :
    Calls Tryd.prog 204 #[.slice (some ⟨b, off, none⟩) n c] w fun e w' => ∃ v', e = .returned v' ∧ w'.ownsRow w.heap.size 3 1 v' n ((zs.take n).map (Value.int .i64)) ∧ v' ≠ .slice none 0 0 ∧ Below w.heap.size w w' := Any.slices_Clone_int Tryd.laysNm215 b off n c zs w hz hbig hc
end Go.Proofs
