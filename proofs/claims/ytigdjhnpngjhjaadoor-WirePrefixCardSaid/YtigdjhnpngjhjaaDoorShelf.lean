/-
  DERIVED: THE SHELF's CONTRACTS AT THIS DUMP, IN PLAIN WORDS (tools/lay-plain.mjs out of 'YtigdjhnpngjhjaaDoorShelf.lean', which tools/lay-shelf.mjs wrote): THE SAME DECLARATIONS UNDER THE SAME NAMES: 'import', 'namespace', 'open', 'def', 'theorem' AND NOTHING ELSE: no command of the shelf's: FOR A HAND-IN. Each laying: the table of numbers ('.._ren') and one theorem, a field a fact of the dump's own or the kernel's comparison; each contract: ONE APPLICATION.
-/
import Derived.Shelf.Strings.Builder1
import Derived.Shelf.Small.Strs
import Derived.Shelf.Small.Wraps
import Derived.Shelf.Strconv.Atoi
import Derived.Shelf.Strconv.Itoa0
import Derived.Shelf.Strconv.Itoa1
import Derived.Shelf.LaysM
import Derived.Shelf.Strconv.Itoa2
import Derived.Shelf.Strconv.Itoa3
import Derived.Shelf.Strconv.AtoiErrFast
import Derived.Shelf.Strconv.ParseIntEmpty
import Derived.Shelf.Strconv.AtoiFail
import Derived.Shelf.Strconv.Clone
import Derived.Shelf.Strconv.SyntaxError
import Derived.Shelf.LaysC
import Derived.Shelf.Strconv.ToError
import Derived.Shelf.Strconv.Lower
import Derived.Shelf.Strconv.ParseUint10
import Derived.Shelf.Strconv.ParseUint10Empty
import Derived.Shelf.Strconv.ParseUint10Any
import Derived.Shelf.Strconv.ParseInt10
import Derived.Shelf.Strconv.AtoiLong
import Derived.Shelf.Strconv.AtoiInnerAll
import Derived.Shelf.Strconv.RangeError
import Derived.Shelf.Strconv.ToErrorRange
import Derived.Shelf.Strconv.AtoiAll
import Derived.Shelf.Strconv.ErrVarAll
import Derived.Shelf.Strings.Search1
import Derived.Shelf.Strings.Prefix
import Derived.Shelf.Bits.Mul64
import Derived.Shelf.Slices.Turned
import Derived.Ground.Names2Prog
import Derived.Shelf.Slices.Clone
import Derived.Test.YtigdjhnpngjhjaaDoorProg
namespace Go.Proofs
open Go.Shelf
def Tryd.lays169_ren : Go.Shelf.Ren := ⟨fun | 169 => 156 | n => n, fun | 70 => 203 | 9 => 9 | 0 => 0 | 72 => 206 | 37 => 204 | 127 => 286 | 3 => 3 | 5 => 5 | n => n, fun | n => n⟩
theorem Tryd.lays169 : Go.Proofs.Lays.n169 Tryd.prog Tryd.lays169_ren := {
  mixed := by kernel_rfl
  f169 := Tryd.func156.trans (congrArg some (by kernel_rfl))
  t0 := Tryd.underlying0
  a0 := Tryd.isAgg0
  z0 := Tryd.sizeOf0
  v0 := Tryd.zeroValue0
  t3 := Tryd.underlying3
  a3 := Tryd.isAgg3
  z3 := Tryd.sizeOf3
  v3 := Tryd.zeroValue3
  t9 := Tryd.underlying9
  a9 := Tryd.isAgg9
  z9 := Tryd.sizeOf9
  v9 := Tryd.zeroValue9
  t37 := Tryd.underlying204
  a37 := Tryd.isAgg204
  z37 := Tryd.sizeOf204
  v37 := Tryd.zeroValue204
  t70 := Tryd.underlying203
  a70 := Tryd.isAgg203
  z70 := Tryd.sizeOf203
  v70 := Tryd.zeroValue203
  t72 := Tryd.underlying206
  a72 := Tryd.isAgg206
  z72 := Tryd.sizeOf206
  v72 := Tryd.zeroValue206
  t127 := Tryd.underlying286
  a127 := Tryd.isAgg286
  z127 := Tryd.sizeOf286
  v127 := Tryd.zeroValue286 }
theorem Tryd.Builder_Extra_169 : Builder.Extra Tryd.prog Tryd.lays169_ren := {
  sizeBuilder := by kernel_rfl
  liesBuilder := by kernel_rfl
  t5 := Tryd.underlying5
  a5 := Tryd.isAgg5
  z5 := Tryd.sizeOf5
  v5 := Tryd.zeroValue5
  infoByte := by kernel_rfl
  cellsByte := by kernel_rfl
  sizeByte := by kernel_rfl
  neB5 := by decide }
open Go.RowKit in
/-- (*strings.Builder).String: "String returns the accumulated string.": OF A BUILDER THAT HOLDS AT LEAST ONE BYTE. ✋ THE MODEL FREEZES THOSE BYTES IN THE BUFFER (unsafe.String): a later write INTO them ends the model's run without an answer; a later append BEHIND them goes on. The statement's order of evaluation is drawn: one draw. (LAID: no walk: one application.) -/
theorem Tryd.Builder_String (B b : Nat) (l : List UInt8) (w : World) (h : Lib.IsBuilder 206 5 B b (Lib.byteCells l) w) (h0 : l ≠ []) :
    Calls Tryd.prog 156 #[.pointer (some ⟨b, 0, none⟩)] w fun e w' => e = .returned (.string ⟨l.toArray⟩) ∧ Below B w w' := Any.Builder_String Tryd.lays169 Tryd.Builder_Extra_169 B b l w h h0
open Go.RowKit in
/-- (*strings.Builder).String OF A BUILDER THAT HOLDS NO BYTE: the empty string. (Its buffer is nil, or a row of which it has taken nothing yet; where that row has NO capacity the model lays one new block for unsafe.SliceData's 'some address'.) One draw. (LAID: no walk: one application.) -/
theorem Tryd.Builder_String_empty (B b : Nat) (w : World) (h : Lib.IsBuilder 206 5 B b [] w) (hBw : B ≤ w.heap.size) :
    Calls Tryd.prog 156 #[.pointer (some ⟨b, 0, none⟩)] w fun e w' => e = .returned (.string ⟨#[]⟩) ∧ Below B w w' := Any.Builder_String_empty Tryd.lays169 Tryd.Builder_Extra_169 B b w h hBw
open Go.RowKit in
/-- (*strings.Builder).String: "String returns the accumulated string.": WHATEVER THE BUILDER HOLDS. (LAID: no walk: one application.) -/
theorem Tryd.Builder_String_any (B b : Nat) (l : List UInt8) (w : World) (h : Lib.IsBuilder 206 5 B b (Lib.byteCells l) w) (hBw : B ≤ w.heap.size) :
    Calls Tryd.prog 156 #[.pointer (some ⟨b, 0, none⟩)] w fun e w' => e = .returned (.string ⟨l.toArray⟩) ∧ Below B w w' := Any.Builder_String_any Tryd.lays169 Tryd.Builder_Extra_169 B b l w h hBw
def Tryd.lays137_ren : Go.Shelf.Ren := ⟨fun | 137 => 214 | 217 => 239 | 266 => 252 | n => n, fun | 9 => 9 | 5 => 5 | 3 => 3 | n => n, fun | n => n⟩
theorem Tryd.lays137 : Go.Proofs.Lays.n137 Tryd.prog Tryd.lays137_ren := {
  mixed := by kernel_rfl
  f137 := Tryd.func214.trans (congrArg some (by kernel_rfl))
  f217 := Tryd.func239.trans (congrArg some (by kernel_rfl))
  f266 := Tryd.func252.trans (congrArg some (by kernel_rfl))
  t3 := Tryd.underlying3
  a3 := Tryd.isAgg3
  z3 := Tryd.sizeOf3
  v3 := Tryd.zeroValue3
  t5 := Tryd.underlying5
  a5 := Tryd.isAgg5
  z5 := Tryd.sizeOf5
  v5 := Tryd.zeroValue5
  t9 := Tryd.underlying9
  a9 := Tryd.isAgg9
  z9 := Tryd.sizeOf9
  v9 := Tryd.zeroValue9 }
open Go.RowKit in
/-- strings.IndexByte: "IndexByte returns the index of the first instance of c in s, or -1 if c is not present in s.": IT RETURNS 'Lib.indexByte s c'; the world is as it was. (LAID: no walk: one application.) -/
theorem Tryd.strings_IndexByte (s : ByteArray) (c : Int) (w : World) :
    Calls Tryd.prog 214 #[.string s, .int .u8 c] w fun e w' => e = .returned (.int .i64 (Lib.indexByte s.data.toList c.toNat.toUInt8)) ∧ w' = w := Any.strings_IndexByte Tryd.lays137 s c w
def Tryd.lays210_ren : Go.Shelf.Ren := ⟨fun | 210 => 242 | 206 => 258 | n => n, fun | 9 => 9 | 4 => 4 | 3 => 3 | n => n, fun | n => n⟩
theorem Tryd.lays210 : Go.Proofs.Lays.n210 Tryd.prog Tryd.lays210_ren := {
  mixed := by kernel_rfl
  f206 := Tryd.func258.trans (congrArg some (by kernel_rfl))
  f210 := Tryd.func242.trans (congrArg some (by kernel_rfl))
  t3 := Tryd.underlying3
  a3 := Tryd.isAgg3
  z3 := Tryd.sizeOf3
  v3 := Tryd.zeroValue3
  t4 := Tryd.underlying4
  a4 := Tryd.isAgg4
  z4 := Tryd.sizeOf4
  v4 := Tryd.zeroValue4
  t9 := Tryd.underlying9
  a9 := Tryd.isAgg9
  z9 := Tryd.sizeOf9
  v9 := Tryd.zeroValue9 }
open Go.RowKit in
/-- internal/stringslite.CutPrefix (what strings.CutPrefix calls). (LAID: no walk: one application.) -/
theorem Tryd.stringslite_CutPrefix (s p : ByteArray) (w : World) :
    Calls Tryd.prog 242 #[.string s, .string p] w fun e w' => e = .returned (.tuple #[.string ⟨(Lib.trimPrefix s.data.toList p.data.toList).toArray⟩, .bool (Lib.hasPrefix s.data.toList p.data.toList)]) ∧ w' = w := Any.stringslite_CutPrefix Tryd.lays210 s p w
def Tryd.lays103_ren : Go.Shelf.Ren := ⟨fun | 103 => 216 | 210 => 242 | 206 => 258 | n => n, fun | 9 => 9 | 4 => 4 | 24 => 282 | 3 => 3 | n => n, fun | n => n⟩
theorem Tryd.lays103 : Go.Proofs.Lays.n103 Tryd.prog Tryd.lays103_ren := {
  mixed := by kernel_rfl
  f103 := Tryd.func216.trans (congrArg some (by kernel_rfl))
  f206 := Tryd.func258.trans (congrArg some (by kernel_rfl))
  f210 := Tryd.func242.trans (congrArg some (by kernel_rfl))
  t3 := Tryd.underlying3
  a3 := Tryd.isAgg3
  z3 := Tryd.sizeOf3
  v3 := Tryd.zeroValue3
  t4 := Tryd.underlying4
  a4 := Tryd.isAgg4
  z4 := Tryd.sizeOf4
  v4 := Tryd.zeroValue4
  t9 := Tryd.underlying9
  a9 := Tryd.isAgg9
  z9 := Tryd.sizeOf9
  v9 := Tryd.zeroValue9
  t24 := Tryd.underlying282
  a24 := Tryd.isAgg282
  z24 := Tryd.sizeOf282
  v24 := Tryd.zeroValue282 }
open Go.RowKit in
/-- strings.CutPrefix: "CutPrefix returns s without the provided leading prefix string and reports whether it found the prefix. If s doesn't start with prefix, CutPrefix returns s, false. If prefix is the empty string, CutPrefix returns s, true.": IT RETURNS '(Lib.trimPrefix s p, Lib.hasPrefix s p)'; the world is as it was. (LAID: no walk: one application.) -/
theorem Tryd.strings_CutPrefix (s p : ByteArray) (w : World) :
    Calls Tryd.prog 216 #[.string s, .string p] w fun e w' => e = .returned (.tuple #[.string ⟨(Lib.trimPrefix s.data.toList p.data.toList).toArray⟩, .bool (Lib.hasPrefix s.data.toList p.data.toList)]) ∧ w' = w := Any.strings_CutPrefix Tryd.lays103 s p w
def Tryd.lays244_ren : Go.Shelf.Ren := ⟨fun | 244 => 240 | 247 => 253 | 287 => 268 | 321 => 273 | 322 => 274 | n => n, fun | 9 => 9 | 3 => 3 | 75 => 208 | 4 => 4 | 5 => 5 | 167 => 320 | 37 => 204 | 0 => 0 | 85 => 321 | 2 => 2 | 53 => 315 | 175 => 341 | 46 => 308 | 21 => 21 | 80 => 38 | n => n, fun | n => n⟩
theorem Tryd.lays244 : Go.Proofs.Lays.n244 Tryd.prog Tryd.lays244_ren := {
  mixed := by kernel_rfl
  f244 := Tryd.func240.trans (congrArg some (by kernel_rfl))
  f247 := Tryd.func253.trans (congrArg some (by kernel_rfl))
  f287 := Tryd.func268.trans (congrArg some (by kernel_rfl))
  f321 := Tryd.func273.trans (congrArg some (by kernel_rfl))
  f322 := Tryd.func274.trans (congrArg some (by kernel_rfl))
  t0 := Tryd.underlying0
  a0 := Tryd.isAgg0
  z0 := Tryd.sizeOf0
  v0 := Tryd.zeroValue0
  t2 := Tryd.underlying2
  a2 := Tryd.isAgg2
  z2 := Tryd.sizeOf2
  v2 := Tryd.zeroValue2
  t3 := Tryd.underlying3
  a3 := Tryd.isAgg3
  z3 := Tryd.sizeOf3
  v3 := Tryd.zeroValue3
  t4 := Tryd.underlying4
  a4 := Tryd.isAgg4
  z4 := Tryd.sizeOf4
  v4 := Tryd.zeroValue4
  t5 := Tryd.underlying5
  a5 := Tryd.isAgg5
  z5 := Tryd.sizeOf5
  v5 := Tryd.zeroValue5
  t9 := Tryd.underlying9
  a9 := Tryd.isAgg9
  z9 := Tryd.sizeOf9
  v9 := Tryd.zeroValue9
  t21 := Tryd.underlying21
  a21 := Tryd.isAgg21
  z21 := Tryd.sizeOf21
  v21 := Tryd.zeroValue21
  t37 := Tryd.underlying204
  a37 := Tryd.isAgg204
  z37 := Tryd.sizeOf204
  v37 := Tryd.zeroValue204
  t46 := Tryd.underlying308
  a46 := Tryd.isAgg308
  z46 := Tryd.sizeOf308
  v46 := Tryd.zeroValue308
  t53 := Tryd.underlying315
  a53 := Tryd.isAgg315
  z53 := Tryd.sizeOf315
  v53 := Tryd.zeroValue315
  t75 := Tryd.underlying208
  a75 := Tryd.isAgg208
  z75 := Tryd.sizeOf208
  v75 := Tryd.zeroValue208
  t85 := Tryd.underlying321
  a85 := Tryd.isAgg321
  z85 := Tryd.sizeOf321
  v85 := Tryd.zeroValue321
  t167 := Tryd.underlying320
  a167 := Tryd.isAgg320
  z167 := Tryd.sizeOf320
  v167 := Tryd.zeroValue320
  t175 := Tryd.underlying341
  a175 := Tryd.isAgg341
  z175 := Tryd.sizeOf341
  v175 := Tryd.zeroValue341 }
open Go.RowKit in
/-- internal/strconv.Atoi, at a decimal numeral of at most 18 bytes: ITS VALUE, AND NO ERROR. The world behind the call: the one new row that '[]byte(s)' lays. (LAID: no walk: one application.) -/
theorem Tryd.internal_strconv_Atoi (s : ByteArray) (n : Int) (hl : s.size ≤ 18) (h : Lib.atoi s.data.toList = some n) (w : World) :
    Calls Tryd.prog 240 #[.string s] w fun e w' => e = .returned (.tuple #[.int .i64 n, .nilIface]) ∧ ∃ t, w' = Lib.bytesWorld w 5 t := Any.internal_strconv_Atoi Tryd.lays244 s n hl h w
def Tryd.lays172_ren : Go.Shelf.Ren := ⟨fun | 172 => 215 | 244 => 240 | 245 => 241 | 247 => 253 | 279 => 254 | 280 => 255 | 281 => 256 | 282 => 257 | 287 => 268 | 316 => 269 | 171 => 141 | 205 => 270 | 321 => 273 | 322 => 274 | 243 => 213 | 246 => 238 | 283 => 248 | 284 => 249 | 285 => 250 | 286 => 251 | 129 => 264 | 317 => 263 | 318 => 265 | 319 => 266 | 320 => 267 | 337 => 271 | 338 => 272 | n => n, fun | 9 => 9 | 3 => 3 | 75 => 208 | 76 => 209 | 4 => 4 | 5 => 5 | 167 => 320 | 37 => 204 | 0 => 0 | 85 => 321 | 2 => 2 | 168 => 323 | 53 => 315 | 175 => 341 | 46 => 308 | 210 => 344 | 127 => 286 | 145 => 350 | 143 => 348 | 21 => 21 | 171 => 314 | 173 => 318 | 212 => 338 | 51 => 327 | 20 => 20 | 213 => 339 | 232 => 351 | 233 => 352 | 80 => 38 | n => n, fun | 15 => 2 | 16 => 3 | 17 => 0 | 18 => 4 | 19 => 5 | n => n⟩
theorem Tryd.lays172 : Go.Proofs.Lays.n172 Tryd.prog Tryd.lays172_ren := {
  mixed := by kernel_rfl
  f129 := Tryd.func264.trans (congrArg some (by kernel_rfl))
  f171 := Tryd.func141.trans (congrArg some (by kernel_rfl))
  f172 := Tryd.func215.trans (congrArg some (by kernel_rfl))
  f205 := Tryd.func270.trans (congrArg some (by kernel_rfl))
  f243 := Tryd.func213.trans (congrArg some (by kernel_rfl))
  f244 := Tryd.func240.trans (congrArg some (by kernel_rfl))
  f245 := Tryd.func241.trans (congrArg some (by kernel_rfl))
  f246 := Tryd.func238.trans (congrArg some (by kernel_rfl))
  f247 := Tryd.func253.trans (congrArg some (by kernel_rfl))
  f279 := Tryd.func254.trans (congrArg some (by kernel_rfl))
  f280 := Tryd.func255.trans (congrArg some (by kernel_rfl))
  f281 := Tryd.func256.trans (congrArg some (by kernel_rfl))
  f282 := Tryd.func257.trans (congrArg some (by kernel_rfl))
  f283 := Tryd.func248.trans (congrArg some (by kernel_rfl))
  f284 := Tryd.func249.trans (congrArg some (by kernel_rfl))
  f285 := Tryd.func250.trans (congrArg some (by kernel_rfl))
  f286 := Tryd.func251.trans (congrArg some (by kernel_rfl))
  f287 := Tryd.func268.trans (congrArg some (by kernel_rfl))
  f316 := Tryd.func269.trans (congrArg some (by kernel_rfl))
  f317 := Tryd.func263.trans (congrArg some (by kernel_rfl))
  f318 := Tryd.func265.trans (congrArg some (by kernel_rfl))
  f319 := Tryd.func266.trans (congrArg some (by kernel_rfl))
  f320 := Tryd.func267.trans (congrArg some (by kernel_rfl))
  f321 := Tryd.func273.trans (congrArg some (by kernel_rfl))
  f322 := Tryd.func274.trans (congrArg some (by kernel_rfl))
  f337 := Tryd.func271.trans (congrArg some (by kernel_rfl))
  f338 := Tryd.func272.trans (congrArg some (by kernel_rfl))
  t0 := Tryd.underlying0
  a0 := Tryd.isAgg0
  z0 := Tryd.sizeOf0
  v0 := Tryd.zeroValue0
  t2 := Tryd.underlying2
  a2 := Tryd.isAgg2
  z2 := Tryd.sizeOf2
  v2 := Tryd.zeroValue2
  t3 := Tryd.underlying3
  a3 := Tryd.isAgg3
  z3 := Tryd.sizeOf3
  v3 := Tryd.zeroValue3
  t4 := Tryd.underlying4
  a4 := Tryd.isAgg4
  z4 := Tryd.sizeOf4
  v4 := Tryd.zeroValue4
  t5 := Tryd.underlying5
  a5 := Tryd.isAgg5
  z5 := Tryd.sizeOf5
  v5 := Tryd.zeroValue5
  t9 := Tryd.underlying9
  a9 := Tryd.isAgg9
  z9 := Tryd.sizeOf9
  v9 := Tryd.zeroValue9
  t20 := Tryd.underlying20
  a20 := Tryd.isAgg20
  z20 := Tryd.sizeOf20
  v20 := Tryd.zeroValue20
  t21 := Tryd.underlying21
  a21 := Tryd.isAgg21
  z21 := Tryd.sizeOf21
  v21 := Tryd.zeroValue21
  t37 := Tryd.underlying204
  a37 := Tryd.isAgg204
  z37 := Tryd.sizeOf204
  v37 := Tryd.zeroValue204
  t46 := Tryd.underlying308
  a46 := Tryd.isAgg308
  z46 := Tryd.sizeOf308
  v46 := Tryd.zeroValue308
  t51 := Tryd.underlying327
  a51 := Tryd.isAgg327
  z51 := Tryd.sizeOf327
  v51 := Tryd.zeroValue327
  t53 := Tryd.underlying315
  a53 := Tryd.isAgg315
  z53 := Tryd.sizeOf315
  v53 := Tryd.zeroValue315
  t75 := Tryd.underlying208
  a75 := Tryd.isAgg208
  z75 := Tryd.sizeOf208
  v75 := Tryd.zeroValue208
  t76 := Tryd.underlying209
  a76 := Tryd.isAgg209
  z76 := Tryd.sizeOf209
  v76 := Tryd.zeroValue209
  t85 := Tryd.underlying321
  a85 := Tryd.isAgg321
  z85 := Tryd.sizeOf321
  v85 := Tryd.zeroValue321
  t127 := Tryd.underlying286
  a127 := Tryd.isAgg286
  z127 := Tryd.sizeOf286
  v127 := Tryd.zeroValue286
  t143 := Tryd.underlying348
  a143 := Tryd.isAgg348
  z143 := Tryd.sizeOf348
  v143 := Tryd.zeroValue348
  t145 := Tryd.underlying350
  a145 := Tryd.isAgg350
  z145 := Tryd.sizeOf350
  v145 := Tryd.zeroValue350
  t167 := Tryd.underlying320
  a167 := Tryd.isAgg320
  z167 := Tryd.sizeOf320
  v167 := Tryd.zeroValue320
  t168 := Tryd.underlying323
  a168 := Tryd.isAgg323
  z168 := Tryd.sizeOf323
  v168 := Tryd.zeroValue323
  t171 := Tryd.underlying314
  a171 := Tryd.isAgg314
  z171 := Tryd.sizeOf314
  v171 := Tryd.zeroValue314
  t173 := Tryd.underlying318
  a173 := Tryd.isAgg318
  z173 := Tryd.sizeOf318
  v173 := Tryd.zeroValue318
  t175 := Tryd.underlying341
  a175 := Tryd.isAgg341
  z175 := Tryd.sizeOf341
  v175 := Tryd.zeroValue341
  t210 := Tryd.underlying344
  a210 := Tryd.isAgg344
  z210 := Tryd.sizeOf344
  v210 := Tryd.zeroValue344
  t212 := Tryd.underlying338
  a212 := Tryd.isAgg338
  z212 := Tryd.sizeOf338
  v212 := Tryd.zeroValue338
  t213 := Tryd.underlying339
  a213 := Tryd.isAgg339
  z213 := Tryd.sizeOf339
  t232 := Tryd.underlying351
  a232 := Tryd.isAgg351
  z232 := Tryd.sizeOf351
  v232 := Tryd.zeroValue351
  t233 := Tryd.underlying352
  a233 := Tryd.isAgg352
  z233 := Tryd.sizeOf352
  v233 := Tryd.zeroValue352
  g15 := by kernel_rfl
  g16 := by kernel_rfl
  g17 := by kernel_rfl
  g18 := by kernel_rfl
  g19 := by kernel_rfl }
open Go.RowKit in
/-- strconv.Atoi: "Atoi is equivalent to ParseInt(s, 10, 0), converted to type int.": AT A DECIMAL NUMERAL OF AT MOST 18 BYTES: its value, and a nil error. The world behind the call: the one new row that the library's '[]byte(s)' lays. (LAID: no walk: one application.) -/
theorem Tryd.strconv_Atoi (s : ByteArray) (n : Int) (hl : s.size ≤ 18) (h : Lib.atoi s.data.toList = some n) (w : World) :
    Calls Tryd.prog 215 #[.string s] w fun e w' => e = .returned (.tuple #[.int .i64 n, .nilIface]) ∧ ∃ t, w' = Lib.bytesWorld w 5 t := Any.strconv_Atoi Tryd.lays172 s n hl h w
def Tryd.lays129_ren : Go.Shelf.Ren := ⟨fun | 129 => 264 | n => n, fun | 53 => 315 | 3 => 3 | 4 => 4 | 46 => 308 | 5 => 5 | 9 => 9 | n => n, fun | n => n⟩
theorem Tryd.lays129 : Go.Proofs.Lays.n129 Tryd.prog Tryd.lays129_ren := {
  mixed := by kernel_rfl
  f129 := Tryd.func264.trans (congrArg some (by kernel_rfl))
  t3 := Tryd.underlying3
  a3 := Tryd.isAgg3
  z3 := Tryd.sizeOf3
  v3 := Tryd.zeroValue3
  t4 := Tryd.underlying4
  a4 := Tryd.isAgg4
  z4 := Tryd.sizeOf4
  v4 := Tryd.zeroValue4
  t5 := Tryd.underlying5
  a5 := Tryd.isAgg5
  z5 := Tryd.sizeOf5
  v5 := Tryd.zeroValue5
  t9 := Tryd.underlying9
  a9 := Tryd.isAgg9
  z9 := Tryd.sizeOf9
  v9 := Tryd.zeroValue9
  t46 := Tryd.underlying308
  a46 := Tryd.isAgg308
  z46 := Tryd.sizeOf308
  v46 := Tryd.zeroValue308
  t53 := Tryd.underlying315
  a53 := Tryd.isAgg315
  z53 := Tryd.sizeOf315
  v53 := Tryd.zeroValue315 }
/-- bits.Len64: "Len64 returns the minimum number of bits required to represent x; the result is 0 for x == 0.": IT RETURNS 'Lib.bitLen x'; the world is as it was. ('h0', 'h1': x is a uint64.) (LAID: no walk: one application.) -/
theorem Tryd.bits_Len64 (x : Int) (w : World) (h0 : 0 ≤ x) (h1 : x ≤ 18446744073709551615) :
    Calls Tryd.prog 264 #[.int .u64 x] w fun e w' => e = .returned (.int .i64 (Lib.bitLen x.toNat)) ∧ w' = w := Any.bits_Len64 Tryd.lays129 x w h0 h1
def Tryd.lays317_ren : Go.Shelf.Ren := ⟨fun | 317 => 263 | n => n, fun | 3 => 3 | 46 => 308 | n => n, fun | n => n⟩
theorem Tryd.lays317 : Go.Proofs.Lays.n317 Tryd.prog Tryd.lays317_ren := {
  mixed := by kernel_rfl
  f317 := Tryd.func263.trans (congrArg some (by kernel_rfl))
  t3 := Tryd.underlying3
  a3 := Tryd.isAgg3
  z3 := Tryd.sizeOf3
  v3 := Tryd.zeroValue3
  t46 := Tryd.underlying308
  a46 := Tryd.isAgg308
  z46 := Tryd.sizeOf308
  v46 := Tryd.zeroValue308 }
open Go.Lib in
/-- internal/strconv.log10Pow2: "log10Pow2(x) returns ⌊log₁₀ 2**x⌋ = ⌊x * log₁₀ 2⌋.": '(x * 78913) >> 18', at an x up to 64 (a length in bits). The world is as it was. (LAID: no walk: one application.) -/
theorem Tryd.internal_strconv_log10Pow2 (x : Nat) (h : x ≤ 64) (w : World) :
    Calls Tryd.prog 263 #[.int .i64 x] w fun e w' => e = .returned (.int .i64 (Lib.l10 x)) ∧ w' = w := Any.internal_strconv_log10Pow2 Tryd.lays317 x h w
def Tryd.lays318_ren : Go.Shelf.Ren := ⟨fun | 318 => 265 | n => n, fun | 3 => 3 | 4 => 4 | n => n, fun | n => n⟩
theorem Tryd.lays318 : Go.Proofs.Lays.n318 Tryd.prog Tryd.lays318_ren := {
  mixed := by kernel_rfl
  f318 := Tryd.func265.trans (congrArg some (by kernel_rfl))
  t3 := Tryd.underlying3
  a3 := Tryd.isAgg3
  z3 := Tryd.sizeOf3
  v3 := Tryd.zeroValue3
  t4 := Tryd.underlying4
  a4 := Tryd.isAgg4
  z4 := Tryd.sizeOf4
  v4 := Tryd.zeroValue4 }
open Go.Lib in
/-- internal/strconv.bool2: "bool2 converts b to an integer: 1 for true, 0 for false." The world is as it was. (LAID: no walk: one application.) -/
theorem Tryd.internal_strconv_bool2_int (b : Bool) (w : World) :
    Calls Tryd.prog 265 #[.bool b] w fun e w' => e = .returned (.int .i64 (if b then 1 else 0)) ∧ w' = w := Any.internal_strconv_bool2_int Tryd.lays318 b w
def Tryd.lays283_ren : Go.Shelf.Ren := ⟨fun | 283 => 248 | n => n, fun | 3 => 3 | 9 => 9 | 4 => 4 | n => n, fun | n => n⟩
theorem Tryd.lays283 : Go.Proofs.Lays.n283 Tryd.prog Tryd.lays283_ren := {
  mixed := by kernel_rfl
  f283 := Tryd.func248.trans (congrArg some (by kernel_rfl))
  t3 := Tryd.underlying3
  a3 := Tryd.isAgg3
  z3 := Tryd.sizeOf3
  v3 := Tryd.zeroValue3
  t4 := Tryd.underlying4
  a4 := Tryd.isAgg4
  z4 := Tryd.sizeOf4
  v4 := Tryd.zeroValue4
  t9 := Tryd.underlying9
  a9 := Tryd.isAgg9
  z9 := Tryd.sizeOf9
  v9 := Tryd.zeroValue9 }
open Go.Lib in
/-- internal/strconv.small: "small returns the string for an i with 0 <= i < nSmalls.": i's decimal numeral. The world is as it was. (LAID: no walk: one application.) -/
theorem Tryd.internal_strconv_small (i : Nat) (h : i < 100) (w : World) :
    Calls Tryd.prog 248 #[.int .i64 i] w fun e w' => e = .returned (.string ⟨(Lib.decDigits i).toArray⟩) ∧ w' = w := Any.internal_strconv_small Tryd.lays283 i h w
def Tryd.laysM284_ren : Go.Shelf.Ren := ⟨fun | 284 => 249 | 129 => 264 | 317 => 263 | 318 => 265 | n => n, fun | 53 => 315 | 3 => 3 | 212 => 338 | 0 => 0 | 4 => 4 | 46 => 308 | 5 => 5 | 9 => 9 | n => n, fun | 17 => 0 | n => n⟩
theorem Tryd.laysM284 : Go.Proofs.LaysM.n284 Tryd.prog Tryd.laysM284_ren := {
  mixed := by kernel_rfl
  f129 := Tryd.func264.trans (congrArg some (by kernel_rfl))
  f284 := Tryd.func249.trans (congrArg some (by kernel_rfl))
  f317 := Tryd.func263.trans (congrArg some (by kernel_rfl))
  f318 := Tryd.func265.trans (congrArg some (by kernel_rfl))
  t0 := Tryd.underlying0
  a0 := Tryd.isAgg0
  z0 := Tryd.sizeOf0
  v0 := Tryd.zeroValue0
  t3 := Tryd.underlying3
  a3 := Tryd.isAgg3
  z3 := Tryd.sizeOf3
  v3 := Tryd.zeroValue3
  t4 := Tryd.underlying4
  a4 := Tryd.isAgg4
  z4 := Tryd.sizeOf4
  v4 := Tryd.zeroValue4
  t5 := Tryd.underlying5
  a5 := Tryd.isAgg5
  z5 := Tryd.sizeOf5
  v5 := Tryd.zeroValue5
  t9 := Tryd.underlying9
  a9 := Tryd.isAgg9
  z9 := Tryd.sizeOf9
  v9 := Tryd.zeroValue9
  t46 := Tryd.underlying308
  a46 := Tryd.isAgg308
  z46 := Tryd.sizeOf308
  v46 := Tryd.zeroValue308
  t53 := Tryd.underlying315
  a53 := Tryd.isAgg315
  z53 := Tryd.sizeOf315
  v53 := Tryd.zeroValue315
  t212 := Tryd.underlying338
  a212 := Tryd.isAgg338
  z212 := Tryd.sizeOf338
  v212 := Tryd.zeroValue338
  g17 := by kernel_rfl
  i0 := by kernel_rfl
  i3 := by kernel_rfl
  i4 := by kernel_rfl
  i5 := by kernel_rfl
  i9 := by kernel_rfl
  i46 := by kernel_rfl
  i53 := by kernel_rfl
  i212 := by kernel_rfl
  m17 := by kernel_rfl }
open Go.Lib in
/-- internal/strconv.numDigits, at a d that is not 0: THE NUMBER OF d's DECIMAL DIGITS. The world is as it was. (LAID: no walk: one application.) -/
theorem Tryd.internal_strconv_numDigits (u : Nat) (h1 : 1 ≤ u) (h2 : u < 18446744073709551616) (w : World) (htab : Lib.TabIs Tryd.prog w "internal/strconv.uint64pow10" .u64 Lib.pow10Tab) :
    Calls Tryd.prog 249 #[.int .u64 u] w fun e w' => e = .returned (.int .i64 (Lib.nDigits u)) ∧ w' = w := Any.internal_strconv_numDigits Tryd.laysM284 u h1 h2 w htab
def Tryd.lays285_ren : Go.Shelf.Ren := ⟨fun | 285 => 250 | n => n, fun | 37 => 204 | 53 => 315 | 3 => 3 | 4 => 4 | 51 => 327 | 9 => 9 | 5 => 5 | 0 => 0 | n => n, fun | n => n⟩
theorem Tryd.lays285 : Go.Proofs.Lays.n285 Tryd.prog Tryd.lays285_ren := {
  mixed := by kernel_rfl
  f285 := Tryd.func250.trans (congrArg some (by kernel_rfl))
  t0 := Tryd.underlying0
  a0 := Tryd.isAgg0
  z0 := Tryd.sizeOf0
  v0 := Tryd.zeroValue0
  t3 := Tryd.underlying3
  a3 := Tryd.isAgg3
  z3 := Tryd.sizeOf3
  v3 := Tryd.zeroValue3
  t4 := Tryd.underlying4
  a4 := Tryd.isAgg4
  z4 := Tryd.sizeOf4
  v4 := Tryd.zeroValue4
  t5 := Tryd.underlying5
  a5 := Tryd.isAgg5
  z5 := Tryd.sizeOf5
  v5 := Tryd.zeroValue5
  t9 := Tryd.underlying9
  a9 := Tryd.isAgg9
  z9 := Tryd.sizeOf9
  v9 := Tryd.zeroValue9
  t37 := Tryd.underlying204
  a37 := Tryd.isAgg204
  z37 := Tryd.sizeOf204
  v37 := Tryd.zeroValue204
  t51 := Tryd.underlying327
  a51 := Tryd.isAgg327
  z51 := Tryd.sizeOf327
  v51 := Tryd.zeroValue327
  t53 := Tryd.underlying315
  a53 := Tryd.isAgg315
  z53 := Tryd.sizeOf315
  v53 := Tryd.zeroValue315 }
open Go.RowKit Go.Sort Go.Lib in
/-- internal/strconv.formatBase10: "formatBase10 formats the decimal representation of u into a. The caller is responsible for ensuring that a is big enough to hold u. If a is too big, leading zeros will be filled in as needed.": THE ROW HOLDS u's DIGITS ('FmtInv .. 0 ..': every place t holds 'dg u (len - 1 - t)'); all else is as it was but for the count of draws. (LAID: no walk: one application.) -/
theorem Tryd.internal_strconv_formatBase10 (blk off cap : Nat) (u : Nat) (d : Array UInt8) (w : World) (hH : Holds (fun (b : UInt8) => Value.int .u8 (b.toNat : Int)) w blk off d) (hu : u < 10 ^ d.size) (hu64 : u < 18446744073709551616) (hsz : d.size < 4611686018427387904) :
    Calls Tryd.prog 250 #[.slice (some ⟨blk, off, none⟩) d.size cap, .int .u64 u] w fun e w' =>
      e = .returned (.tuple #[]) ∧ ∃ (n v' : Nat) (dk : Array UInt8), w' = (putRow (fun (b : UInt8) => Value.int .u8 (b.toNat : Int)) w blk off dk).drewN n ∧ FmtInv d.size u 0 v' dk := Any.internal_strconv_formatBase10 Tryd.lays285 blk off cap u d w hH hu hu64 hsz
def Tryd.laysM246_ren : Go.Shelf.Ren := ⟨fun | 246 => 238 | 283 => 248 | 284 => 249 | 285 => 250 | 286 => 251 | 129 => 264 | 317 => 263 | 318 => 265 | 319 => 266 | 320 => 267 | 337 => 271 | 338 => 272 | n => n, fun | 2 => 2 | 3 => 3 | 9 => 9 | 4 => 4 | 171 => 314 | 0 => 0 | 53 => 315 | 37 => 204 | 5 => 5 | 173 => 318 | 212 => 338 | 51 => 327 | 20 => 20 | 213 => 339 | 46 => 308 | 232 => 351 | 233 => 352 | n => n, fun | 17 => 0 | 18 => 4 | 19 => 5 | n => n⟩
theorem Tryd.laysM246 : Go.Proofs.LaysM.n246 Tryd.prog Tryd.laysM246_ren := {
  mixed := by kernel_rfl
  f129 := Tryd.func264.trans (congrArg some (by kernel_rfl))
  f246 := Tryd.func238.trans (congrArg some (by kernel_rfl))
  f283 := Tryd.func248.trans (congrArg some (by kernel_rfl))
  f284 := Tryd.func249.trans (congrArg some (by kernel_rfl))
  f285 := Tryd.func250.trans (congrArg some (by kernel_rfl))
  f286 := Tryd.func251.trans (congrArg some (by kernel_rfl))
  f317 := Tryd.func263.trans (congrArg some (by kernel_rfl))
  f318 := Tryd.func265.trans (congrArg some (by kernel_rfl))
  f319 := Tryd.func266.trans (congrArg some (by kernel_rfl))
  f320 := Tryd.func267.trans (congrArg some (by kernel_rfl))
  f337 := Tryd.func271.trans (congrArg some (by kernel_rfl))
  f338 := Tryd.func272.trans (congrArg some (by kernel_rfl))
  t0 := Tryd.underlying0
  a0 := Tryd.isAgg0
  z0 := Tryd.sizeOf0
  v0 := Tryd.zeroValue0
  t2 := Tryd.underlying2
  a2 := Tryd.isAgg2
  z2 := Tryd.sizeOf2
  v2 := Tryd.zeroValue2
  t3 := Tryd.underlying3
  a3 := Tryd.isAgg3
  z3 := Tryd.sizeOf3
  v3 := Tryd.zeroValue3
  t4 := Tryd.underlying4
  a4 := Tryd.isAgg4
  z4 := Tryd.sizeOf4
  v4 := Tryd.zeroValue4
  t5 := Tryd.underlying5
  a5 := Tryd.isAgg5
  z5 := Tryd.sizeOf5
  v5 := Tryd.zeroValue5
  t9 := Tryd.underlying9
  a9 := Tryd.isAgg9
  z9 := Tryd.sizeOf9
  v9 := Tryd.zeroValue9
  t20 := Tryd.underlying20
  a20 := Tryd.isAgg20
  z20 := Tryd.sizeOf20
  v20 := Tryd.zeroValue20
  t37 := Tryd.underlying204
  a37 := Tryd.isAgg204
  z37 := Tryd.sizeOf204
  v37 := Tryd.zeroValue204
  t46 := Tryd.underlying308
  a46 := Tryd.isAgg308
  z46 := Tryd.sizeOf308
  v46 := Tryd.zeroValue308
  t51 := Tryd.underlying327
  a51 := Tryd.isAgg327
  z51 := Tryd.sizeOf327
  v51 := Tryd.zeroValue327
  t53 := Tryd.underlying315
  a53 := Tryd.isAgg315
  z53 := Tryd.sizeOf315
  v53 := Tryd.zeroValue315
  t171 := Tryd.underlying314
  a171 := Tryd.isAgg314
  z171 := Tryd.sizeOf314
  v171 := Tryd.zeroValue314
  t173 := Tryd.underlying318
  a173 := Tryd.isAgg318
  z173 := Tryd.sizeOf318
  v173 := Tryd.zeroValue318
  t212 := Tryd.underlying338
  a212 := Tryd.isAgg338
  z212 := Tryd.sizeOf338
  v212 := Tryd.zeroValue338
  t213 := Tryd.underlying339
  a213 := Tryd.isAgg339
  z213 := Tryd.sizeOf339
  t232 := Tryd.underlying351
  a232 := Tryd.isAgg351
  z232 := Tryd.sizeOf351
  v232 := Tryd.zeroValue351
  t233 := Tryd.underlying352
  a233 := Tryd.isAgg352
  z233 := Tryd.sizeOf352
  v233 := Tryd.zeroValue352
  g17 := by kernel_rfl
  g18 := by kernel_rfl
  g19 := by kernel_rfl
  i0 := by kernel_rfl
  i2 := by kernel_rfl
  i3 := by kernel_rfl
  i4 := by kernel_rfl
  i5 := by kernel_rfl
  i9 := by kernel_rfl
  i20 := by kernel_rfl
  i37 := by kernel_rfl
  i46 := by kernel_rfl
  i51 := by kernel_rfl
  i53 := by kernel_rfl
  i171 := by kernel_rfl
  i173 := by kernel_rfl
  i212 := by kernel_rfl
  i232 := by kernel_rfl
  i233 := by kernel_rfl
  m17 := by kernel_rfl
  m18 := by kernel_rfl
  m19 := by kernel_rfl }
open Go.RowKit Go.Sort Go.Lib in
/-- internal/strconv.FormatInt: "FormatInt returns the string representation of i in the given base": AT BASE 10: i's decimal numeral, for every int64. The world behind the call: the world before it, new blocks behind the heap, draws. (LAID: no walk: one application.) -/
theorem Tryd.internal_strconv_FormatInt_10 (n : Int) (h0 : -9223372036854775808 ≤ n) (h1 : n ≤ 9223372036854775807) (w : World) (htab : Lib.TabIs Tryd.prog w "internal/strconv.uint64pow10" .u64 Lib.pow10Tab) :
    Calls Tryd.prog 238 #[.int .i64 n, .int .i64 10] w fun e w' => e = .returned (.string ⟨(Lib.itoa n).toArray⟩) ∧ ∃ k os, w' = grow (w.drewN k) os := Any.internal_strconv_FormatInt_10 Tryd.laysM246 n h0 h1 w htab
def Tryd.lays246_ren : Go.Shelf.Ren := ⟨fun | 246 => 238 | 283 => 248 | 284 => 249 | 285 => 250 | 286 => 251 | 129 => 264 | 317 => 263 | 318 => 265 | 319 => 266 | 320 => 267 | 337 => 271 | 338 => 272 | n => n, fun | 2 => 2 | 3 => 3 | 9 => 9 | 4 => 4 | 171 => 314 | 0 => 0 | 53 => 315 | 37 => 204 | 5 => 5 | 173 => 318 | 212 => 338 | 51 => 327 | 20 => 20 | 213 => 339 | 46 => 308 | 232 => 351 | 233 => 352 | n => n, fun | 17 => 0 | 18 => 4 | 19 => 5 | n => n⟩
theorem Tryd.lays246 : Go.Proofs.Lays.n246 Tryd.prog Tryd.lays246_ren := {
  mixed := by kernel_rfl
  f129 := Tryd.func264.trans (congrArg some (by kernel_rfl))
  f246 := Tryd.func238.trans (congrArg some (by kernel_rfl))
  f283 := Tryd.func248.trans (congrArg some (by kernel_rfl))
  f284 := Tryd.func249.trans (congrArg some (by kernel_rfl))
  f285 := Tryd.func250.trans (congrArg some (by kernel_rfl))
  f286 := Tryd.func251.trans (congrArg some (by kernel_rfl))
  f317 := Tryd.func263.trans (congrArg some (by kernel_rfl))
  f318 := Tryd.func265.trans (congrArg some (by kernel_rfl))
  f319 := Tryd.func266.trans (congrArg some (by kernel_rfl))
  f320 := Tryd.func267.trans (congrArg some (by kernel_rfl))
  f337 := Tryd.func271.trans (congrArg some (by kernel_rfl))
  f338 := Tryd.func272.trans (congrArg some (by kernel_rfl))
  t0 := Tryd.underlying0
  a0 := Tryd.isAgg0
  z0 := Tryd.sizeOf0
  v0 := Tryd.zeroValue0
  t2 := Tryd.underlying2
  a2 := Tryd.isAgg2
  z2 := Tryd.sizeOf2
  v2 := Tryd.zeroValue2
  t3 := Tryd.underlying3
  a3 := Tryd.isAgg3
  z3 := Tryd.sizeOf3
  v3 := Tryd.zeroValue3
  t4 := Tryd.underlying4
  a4 := Tryd.isAgg4
  z4 := Tryd.sizeOf4
  v4 := Tryd.zeroValue4
  t5 := Tryd.underlying5
  a5 := Tryd.isAgg5
  z5 := Tryd.sizeOf5
  v5 := Tryd.zeroValue5
  t9 := Tryd.underlying9
  a9 := Tryd.isAgg9
  z9 := Tryd.sizeOf9
  v9 := Tryd.zeroValue9
  t20 := Tryd.underlying20
  a20 := Tryd.isAgg20
  z20 := Tryd.sizeOf20
  v20 := Tryd.zeroValue20
  t37 := Tryd.underlying204
  a37 := Tryd.isAgg204
  z37 := Tryd.sizeOf204
  v37 := Tryd.zeroValue204
  t46 := Tryd.underlying308
  a46 := Tryd.isAgg308
  z46 := Tryd.sizeOf308
  v46 := Tryd.zeroValue308
  t51 := Tryd.underlying327
  a51 := Tryd.isAgg327
  z51 := Tryd.sizeOf327
  v51 := Tryd.zeroValue327
  t53 := Tryd.underlying315
  a53 := Tryd.isAgg315
  z53 := Tryd.sizeOf315
  v53 := Tryd.zeroValue315
  t171 := Tryd.underlying314
  a171 := Tryd.isAgg314
  z171 := Tryd.sizeOf314
  v171 := Tryd.zeroValue314
  t173 := Tryd.underlying318
  a173 := Tryd.isAgg318
  z173 := Tryd.sizeOf318
  v173 := Tryd.zeroValue318
  t212 := Tryd.underlying338
  a212 := Tryd.isAgg338
  z212 := Tryd.sizeOf338
  v212 := Tryd.zeroValue338
  t213 := Tryd.underlying339
  a213 := Tryd.isAgg339
  z213 := Tryd.sizeOf339
  t232 := Tryd.underlying351
  a232 := Tryd.isAgg351
  z232 := Tryd.sizeOf351
  v232 := Tryd.zeroValue351
  t233 := Tryd.underlying352
  a233 := Tryd.isAgg352
  z233 := Tryd.sizeOf352
  v233 := Tryd.zeroValue352
  g17 := by kernel_rfl
  g18 := by kernel_rfl
  g19 := by kernel_rfl }
open Go.RowKit Go.Sort Go.Lib in
/-- THE ROAD WITHOUT THE TABLE: 0 <= i < 100: two constants are read, nothing is laid: no premise on the world, and the world is as it was. (LAID: no walk: one application.) -/
theorem Tryd.internal_strconv_FormatInt_10_small (i : Nat) (hi : i < 100) (w : World) :
    Calls Tryd.prog 238 #[.int .i64 i, .int .i64 10] w fun e w' => e = .returned (.string ⟨(Lib.decDigits i).toArray⟩) ∧ w' = w := Any.internal_strconv_FormatInt_10_small Tryd.lays246 i hi w
def Tryd.laysM243_ren : Go.Shelf.Ren := ⟨fun | 243 => 213 | 246 => 238 | 283 => 248 | 284 => 249 | 285 => 250 | 286 => 251 | 129 => 264 | 317 => 263 | 318 => 265 | 319 => 266 | 320 => 267 | 337 => 271 | 338 => 272 | n => n, fun | 3 => 3 | 9 => 9 | 2 => 2 | 4 => 4 | 171 => 314 | 0 => 0 | 53 => 315 | 37 => 204 | 5 => 5 | 173 => 318 | 212 => 338 | 51 => 327 | 20 => 20 | 213 => 339 | 46 => 308 | 232 => 351 | 233 => 352 | n => n, fun | 17 => 0 | 18 => 4 | 19 => 5 | n => n⟩
theorem Tryd.laysM243 : Go.Proofs.LaysM.n243 Tryd.prog Tryd.laysM243_ren := {
  mixed := by kernel_rfl
  f129 := Tryd.func264.trans (congrArg some (by kernel_rfl))
  f243 := Tryd.func213.trans (congrArg some (by kernel_rfl))
  f246 := Tryd.func238.trans (congrArg some (by kernel_rfl))
  f283 := Tryd.func248.trans (congrArg some (by kernel_rfl))
  f284 := Tryd.func249.trans (congrArg some (by kernel_rfl))
  f285 := Tryd.func250.trans (congrArg some (by kernel_rfl))
  f286 := Tryd.func251.trans (congrArg some (by kernel_rfl))
  f317 := Tryd.func263.trans (congrArg some (by kernel_rfl))
  f318 := Tryd.func265.trans (congrArg some (by kernel_rfl))
  f319 := Tryd.func266.trans (congrArg some (by kernel_rfl))
  f320 := Tryd.func267.trans (congrArg some (by kernel_rfl))
  f337 := Tryd.func271.trans (congrArg some (by kernel_rfl))
  f338 := Tryd.func272.trans (congrArg some (by kernel_rfl))
  t0 := Tryd.underlying0
  a0 := Tryd.isAgg0
  z0 := Tryd.sizeOf0
  v0 := Tryd.zeroValue0
  t2 := Tryd.underlying2
  a2 := Tryd.isAgg2
  z2 := Tryd.sizeOf2
  v2 := Tryd.zeroValue2
  t3 := Tryd.underlying3
  a3 := Tryd.isAgg3
  z3 := Tryd.sizeOf3
  v3 := Tryd.zeroValue3
  t4 := Tryd.underlying4
  a4 := Tryd.isAgg4
  z4 := Tryd.sizeOf4
  v4 := Tryd.zeroValue4
  t5 := Tryd.underlying5
  a5 := Tryd.isAgg5
  z5 := Tryd.sizeOf5
  v5 := Tryd.zeroValue5
  t9 := Tryd.underlying9
  a9 := Tryd.isAgg9
  z9 := Tryd.sizeOf9
  v9 := Tryd.zeroValue9
  t20 := Tryd.underlying20
  a20 := Tryd.isAgg20
  z20 := Tryd.sizeOf20
  v20 := Tryd.zeroValue20
  t37 := Tryd.underlying204
  a37 := Tryd.isAgg204
  z37 := Tryd.sizeOf204
  v37 := Tryd.zeroValue204
  t46 := Tryd.underlying308
  a46 := Tryd.isAgg308
  z46 := Tryd.sizeOf308
  v46 := Tryd.zeroValue308
  t51 := Tryd.underlying327
  a51 := Tryd.isAgg327
  z51 := Tryd.sizeOf327
  v51 := Tryd.zeroValue327
  t53 := Tryd.underlying315
  a53 := Tryd.isAgg315
  z53 := Tryd.sizeOf315
  v53 := Tryd.zeroValue315
  t171 := Tryd.underlying314
  a171 := Tryd.isAgg314
  z171 := Tryd.sizeOf314
  v171 := Tryd.zeroValue314
  t173 := Tryd.underlying318
  a173 := Tryd.isAgg318
  z173 := Tryd.sizeOf318
  v173 := Tryd.zeroValue318
  t212 := Tryd.underlying338
  a212 := Tryd.isAgg338
  z212 := Tryd.sizeOf338
  v212 := Tryd.zeroValue338
  t213 := Tryd.underlying339
  a213 := Tryd.isAgg339
  z213 := Tryd.sizeOf339
  t232 := Tryd.underlying351
  a232 := Tryd.isAgg351
  z232 := Tryd.sizeOf351
  v232 := Tryd.zeroValue351
  t233 := Tryd.underlying352
  a233 := Tryd.isAgg352
  z233 := Tryd.sizeOf352
  v233 := Tryd.zeroValue352
  g17 := by kernel_rfl
  g18 := by kernel_rfl
  g19 := by kernel_rfl
  i0 := by kernel_rfl
  i2 := by kernel_rfl
  i3 := by kernel_rfl
  i4 := by kernel_rfl
  i5 := by kernel_rfl
  i9 := by kernel_rfl
  i20 := by kernel_rfl
  i37 := by kernel_rfl
  i46 := by kernel_rfl
  i51 := by kernel_rfl
  i53 := by kernel_rfl
  i171 := by kernel_rfl
  i173 := by kernel_rfl
  i212 := by kernel_rfl
  i232 := by kernel_rfl
  i233 := by kernel_rfl
  m17 := by kernel_rfl
  m18 := by kernel_rfl
  m19 := by kernel_rfl }
open Go.RowKit Go.Sort Go.Lib in
/-- internal/strconv.Itoa: "Itoa is equivalent to FormatInt(int64(i), 10).": i's decimal numeral, for every int. (LAID: no walk: one application.) -/
theorem Tryd.internal_strconv_Itoa (n : Int) (h0 : -9223372036854775808 ≤ n) (h1 : n ≤ 9223372036854775807) (w : World) (htab : Lib.TabIs Tryd.prog w "internal/strconv.uint64pow10" .u64 Lib.pow10Tab) :
    Calls Tryd.prog 213 #[.int .i64 n] w fun e w' => e = .returned (.string ⟨(Lib.itoa n).toArray⟩) ∧ ∃ k os, w' = grow (w.drewN k) os := Any.internal_strconv_Itoa Tryd.laysM243 n h0 h1 w htab
def Tryd.lays243_ren : Go.Shelf.Ren := ⟨fun | 243 => 213 | 246 => 238 | 283 => 248 | 284 => 249 | 285 => 250 | 286 => 251 | 129 => 264 | 317 => 263 | 318 => 265 | 319 => 266 | 320 => 267 | 337 => 271 | 338 => 272 | n => n, fun | 3 => 3 | 9 => 9 | 2 => 2 | 4 => 4 | 171 => 314 | 0 => 0 | 53 => 315 | 37 => 204 | 5 => 5 | 173 => 318 | 212 => 338 | 51 => 327 | 20 => 20 | 213 => 339 | 46 => 308 | 232 => 351 | 233 => 352 | n => n, fun | 17 => 0 | 18 => 4 | 19 => 5 | n => n⟩
theorem Tryd.lays243 : Go.Proofs.Lays.n243 Tryd.prog Tryd.lays243_ren := {
  mixed := by kernel_rfl
  f129 := Tryd.func264.trans (congrArg some (by kernel_rfl))
  f243 := Tryd.func213.trans (congrArg some (by kernel_rfl))
  f246 := Tryd.func238.trans (congrArg some (by kernel_rfl))
  f283 := Tryd.func248.trans (congrArg some (by kernel_rfl))
  f284 := Tryd.func249.trans (congrArg some (by kernel_rfl))
  f285 := Tryd.func250.trans (congrArg some (by kernel_rfl))
  f286 := Tryd.func251.trans (congrArg some (by kernel_rfl))
  f317 := Tryd.func263.trans (congrArg some (by kernel_rfl))
  f318 := Tryd.func265.trans (congrArg some (by kernel_rfl))
  f319 := Tryd.func266.trans (congrArg some (by kernel_rfl))
  f320 := Tryd.func267.trans (congrArg some (by kernel_rfl))
  f337 := Tryd.func271.trans (congrArg some (by kernel_rfl))
  f338 := Tryd.func272.trans (congrArg some (by kernel_rfl))
  t0 := Tryd.underlying0
  a0 := Tryd.isAgg0
  z0 := Tryd.sizeOf0
  v0 := Tryd.zeroValue0
  t2 := Tryd.underlying2
  a2 := Tryd.isAgg2
  z2 := Tryd.sizeOf2
  v2 := Tryd.zeroValue2
  t3 := Tryd.underlying3
  a3 := Tryd.isAgg3
  z3 := Tryd.sizeOf3
  v3 := Tryd.zeroValue3
  t4 := Tryd.underlying4
  a4 := Tryd.isAgg4
  z4 := Tryd.sizeOf4
  v4 := Tryd.zeroValue4
  t5 := Tryd.underlying5
  a5 := Tryd.isAgg5
  z5 := Tryd.sizeOf5
  v5 := Tryd.zeroValue5
  t9 := Tryd.underlying9
  a9 := Tryd.isAgg9
  z9 := Tryd.sizeOf9
  v9 := Tryd.zeroValue9
  t20 := Tryd.underlying20
  a20 := Tryd.isAgg20
  z20 := Tryd.sizeOf20
  v20 := Tryd.zeroValue20
  t37 := Tryd.underlying204
  a37 := Tryd.isAgg204
  z37 := Tryd.sizeOf204
  v37 := Tryd.zeroValue204
  t46 := Tryd.underlying308
  a46 := Tryd.isAgg308
  z46 := Tryd.sizeOf308
  v46 := Tryd.zeroValue308
  t51 := Tryd.underlying327
  a51 := Tryd.isAgg327
  z51 := Tryd.sizeOf327
  v51 := Tryd.zeroValue327
  t53 := Tryd.underlying315
  a53 := Tryd.isAgg315
  z53 := Tryd.sizeOf315
  v53 := Tryd.zeroValue315
  t171 := Tryd.underlying314
  a171 := Tryd.isAgg314
  z171 := Tryd.sizeOf314
  v171 := Tryd.zeroValue314
  t173 := Tryd.underlying318
  a173 := Tryd.isAgg318
  z173 := Tryd.sizeOf318
  v173 := Tryd.zeroValue318
  t212 := Tryd.underlying338
  a212 := Tryd.isAgg338
  z212 := Tryd.sizeOf338
  v212 := Tryd.zeroValue338
  t213 := Tryd.underlying339
  a213 := Tryd.isAgg339
  z213 := Tryd.sizeOf339
  t232 := Tryd.underlying351
  a232 := Tryd.isAgg351
  z232 := Tryd.sizeOf351
  v232 := Tryd.zeroValue351
  t233 := Tryd.underlying352
  a233 := Tryd.isAgg352
  z233 := Tryd.sizeOf352
  v233 := Tryd.zeroValue352
  g17 := by kernel_rfl
  g18 := by kernel_rfl
  g19 := by kernel_rfl }
open Go.RowKit Go.Sort Go.Lib in
/-- THE ROAD WITHOUT THE TABLE: 0 <= i < 100. (LAID: no walk: one application.) -/
theorem Tryd.internal_strconv_Itoa_small (i : Nat) (hi : i < 100) (w : World) :
    Calls Tryd.prog 213 #[.int .i64 i] w fun e w' => e = .returned (.string ⟨(Lib.decDigits i).toArray⟩) ∧ w' = w := Any.internal_strconv_Itoa_small Tryd.lays243 i hi w
def Tryd.laysM171_ren : Go.Shelf.Ren := ⟨fun | 171 => 141 | 243 => 213 | 246 => 238 | 283 => 248 | 284 => 249 | 285 => 250 | 286 => 251 | 129 => 264 | 317 => 263 | 318 => 265 | 319 => 266 | 320 => 267 | 337 => 271 | 338 => 272 | n => n, fun | 3 => 3 | 9 => 9 | 2 => 2 | 4 => 4 | 171 => 314 | 0 => 0 | 53 => 315 | 37 => 204 | 5 => 5 | 173 => 318 | 212 => 338 | 51 => 327 | 20 => 20 | 213 => 339 | 46 => 308 | 232 => 351 | 233 => 352 | n => n, fun | 17 => 0 | 18 => 4 | 19 => 5 | n => n⟩
theorem Tryd.laysM171 : Go.Proofs.LaysM.n171 Tryd.prog Tryd.laysM171_ren := {
  mixed := by kernel_rfl
  f129 := Tryd.func264.trans (congrArg some (by kernel_rfl))
  f171 := Tryd.func141.trans (congrArg some (by kernel_rfl))
  f243 := Tryd.func213.trans (congrArg some (by kernel_rfl))
  f246 := Tryd.func238.trans (congrArg some (by kernel_rfl))
  f283 := Tryd.func248.trans (congrArg some (by kernel_rfl))
  f284 := Tryd.func249.trans (congrArg some (by kernel_rfl))
  f285 := Tryd.func250.trans (congrArg some (by kernel_rfl))
  f286 := Tryd.func251.trans (congrArg some (by kernel_rfl))
  f317 := Tryd.func263.trans (congrArg some (by kernel_rfl))
  f318 := Tryd.func265.trans (congrArg some (by kernel_rfl))
  f319 := Tryd.func266.trans (congrArg some (by kernel_rfl))
  f320 := Tryd.func267.trans (congrArg some (by kernel_rfl))
  f337 := Tryd.func271.trans (congrArg some (by kernel_rfl))
  f338 := Tryd.func272.trans (congrArg some (by kernel_rfl))
  t0 := Tryd.underlying0
  a0 := Tryd.isAgg0
  z0 := Tryd.sizeOf0
  v0 := Tryd.zeroValue0
  t2 := Tryd.underlying2
  a2 := Tryd.isAgg2
  z2 := Tryd.sizeOf2
  v2 := Tryd.zeroValue2
  t3 := Tryd.underlying3
  a3 := Tryd.isAgg3
  z3 := Tryd.sizeOf3
  v3 := Tryd.zeroValue3
  t4 := Tryd.underlying4
  a4 := Tryd.isAgg4
  z4 := Tryd.sizeOf4
  v4 := Tryd.zeroValue4
  t5 := Tryd.underlying5
  a5 := Tryd.isAgg5
  z5 := Tryd.sizeOf5
  v5 := Tryd.zeroValue5
  t9 := Tryd.underlying9
  a9 := Tryd.isAgg9
  z9 := Tryd.sizeOf9
  v9 := Tryd.zeroValue9
  t20 := Tryd.underlying20
  a20 := Tryd.isAgg20
  z20 := Tryd.sizeOf20
  v20 := Tryd.zeroValue20
  t37 := Tryd.underlying204
  a37 := Tryd.isAgg204
  z37 := Tryd.sizeOf204
  v37 := Tryd.zeroValue204
  t46 := Tryd.underlying308
  a46 := Tryd.isAgg308
  z46 := Tryd.sizeOf308
  v46 := Tryd.zeroValue308
  t51 := Tryd.underlying327
  a51 := Tryd.isAgg327
  z51 := Tryd.sizeOf327
  v51 := Tryd.zeroValue327
  t53 := Tryd.underlying315
  a53 := Tryd.isAgg315
  z53 := Tryd.sizeOf315
  v53 := Tryd.zeroValue315
  t171 := Tryd.underlying314
  a171 := Tryd.isAgg314
  z171 := Tryd.sizeOf314
  v171 := Tryd.zeroValue314
  t173 := Tryd.underlying318
  a173 := Tryd.isAgg318
  z173 := Tryd.sizeOf318
  v173 := Tryd.zeroValue318
  t212 := Tryd.underlying338
  a212 := Tryd.isAgg338
  z212 := Tryd.sizeOf338
  v212 := Tryd.zeroValue338
  t213 := Tryd.underlying339
  a213 := Tryd.isAgg339
  z213 := Tryd.sizeOf339
  t232 := Tryd.underlying351
  a232 := Tryd.isAgg351
  z232 := Tryd.sizeOf351
  v232 := Tryd.zeroValue351
  t233 := Tryd.underlying352
  a233 := Tryd.isAgg352
  z233 := Tryd.sizeOf352
  v233 := Tryd.zeroValue352
  g17 := by kernel_rfl
  g18 := by kernel_rfl
  g19 := by kernel_rfl
  i0 := by kernel_rfl
  i2 := by kernel_rfl
  i3 := by kernel_rfl
  i4 := by kernel_rfl
  i5 := by kernel_rfl
  i9 := by kernel_rfl
  i20 := by kernel_rfl
  i37 := by kernel_rfl
  i46 := by kernel_rfl
  i51 := by kernel_rfl
  i53 := by kernel_rfl
  i171 := by kernel_rfl
  i173 := by kernel_rfl
  i212 := by kernel_rfl
  i232 := by kernel_rfl
  i233 := by kernel_rfl
  m17 := by kernel_rfl
  m18 := by kernel_rfl
  m19 := by kernel_rfl }
open Go.RowKit Go.Sort Go.Lib in
/-- strconv.Itoa: "Itoa is equivalent to FormatInt(int64(i), 10).": i's DECIMAL NUMERAL ('Lib.itoa': a '-' where i is negative, then the digits), FOR EVERY int. The world behind the call: the world before it, new blocks behind the heap (the library's 'var a [24]byte'), draws. (LAID: no walk: one application.) -/
theorem Tryd.strconv_Itoa (n : Int) (h0 : -9223372036854775808 ≤ n) (h1 : n ≤ 9223372036854775807) (w : World) (htab : Lib.TabIs Tryd.prog w "internal/strconv.uint64pow10" .u64 Lib.pow10Tab) :
    Calls Tryd.prog 141 #[.int .i64 n] w fun e w' => e = .returned (.string ⟨(Lib.itoa n).toArray⟩) ∧ ∃ k os, w' = grow (w.drewN k) os := Any.strconv_Itoa Tryd.laysM171 n h0 h1 w htab
def Tryd.lays171_ren : Go.Shelf.Ren := ⟨fun | 171 => 141 | 243 => 213 | 246 => 238 | 283 => 248 | 284 => 249 | 285 => 250 | 286 => 251 | 129 => 264 | 317 => 263 | 318 => 265 | 319 => 266 | 320 => 267 | 337 => 271 | 338 => 272 | n => n, fun | 3 => 3 | 9 => 9 | 2 => 2 | 4 => 4 | 171 => 314 | 0 => 0 | 53 => 315 | 37 => 204 | 5 => 5 | 173 => 318 | 212 => 338 | 51 => 327 | 20 => 20 | 213 => 339 | 46 => 308 | 232 => 351 | 233 => 352 | n => n, fun | 17 => 0 | 18 => 4 | 19 => 5 | n => n⟩
theorem Tryd.lays171 : Go.Proofs.Lays.n171 Tryd.prog Tryd.lays171_ren := {
  mixed := by kernel_rfl
  f129 := Tryd.func264.trans (congrArg some (by kernel_rfl))
  f171 := Tryd.func141.trans (congrArg some (by kernel_rfl))
  f243 := Tryd.func213.trans (congrArg some (by kernel_rfl))
  f246 := Tryd.func238.trans (congrArg some (by kernel_rfl))
  f283 := Tryd.func248.trans (congrArg some (by kernel_rfl))
  f284 := Tryd.func249.trans (congrArg some (by kernel_rfl))
  f285 := Tryd.func250.trans (congrArg some (by kernel_rfl))
  f286 := Tryd.func251.trans (congrArg some (by kernel_rfl))
  f317 := Tryd.func263.trans (congrArg some (by kernel_rfl))
  f318 := Tryd.func265.trans (congrArg some (by kernel_rfl))
  f319 := Tryd.func266.trans (congrArg some (by kernel_rfl))
  f320 := Tryd.func267.trans (congrArg some (by kernel_rfl))
  f337 := Tryd.func271.trans (congrArg some (by kernel_rfl))
  f338 := Tryd.func272.trans (congrArg some (by kernel_rfl))
  t0 := Tryd.underlying0
  a0 := Tryd.isAgg0
  z0 := Tryd.sizeOf0
  v0 := Tryd.zeroValue0
  t2 := Tryd.underlying2
  a2 := Tryd.isAgg2
  z2 := Tryd.sizeOf2
  v2 := Tryd.zeroValue2
  t3 := Tryd.underlying3
  a3 := Tryd.isAgg3
  z3 := Tryd.sizeOf3
  v3 := Tryd.zeroValue3
  t4 := Tryd.underlying4
  a4 := Tryd.isAgg4
  z4 := Tryd.sizeOf4
  v4 := Tryd.zeroValue4
  t5 := Tryd.underlying5
  a5 := Tryd.isAgg5
  z5 := Tryd.sizeOf5
  v5 := Tryd.zeroValue5
  t9 := Tryd.underlying9
  a9 := Tryd.isAgg9
  z9 := Tryd.sizeOf9
  v9 := Tryd.zeroValue9
  t20 := Tryd.underlying20
  a20 := Tryd.isAgg20
  z20 := Tryd.sizeOf20
  v20 := Tryd.zeroValue20
  t37 := Tryd.underlying204
  a37 := Tryd.isAgg204
  z37 := Tryd.sizeOf204
  v37 := Tryd.zeroValue204
  t46 := Tryd.underlying308
  a46 := Tryd.isAgg308
  z46 := Tryd.sizeOf308
  v46 := Tryd.zeroValue308
  t51 := Tryd.underlying327
  a51 := Tryd.isAgg327
  z51 := Tryd.sizeOf327
  v51 := Tryd.zeroValue327
  t53 := Tryd.underlying315
  a53 := Tryd.isAgg315
  z53 := Tryd.sizeOf315
  v53 := Tryd.zeroValue315
  t171 := Tryd.underlying314
  a171 := Tryd.isAgg314
  z171 := Tryd.sizeOf314
  v171 := Tryd.zeroValue314
  t173 := Tryd.underlying318
  a173 := Tryd.isAgg318
  z173 := Tryd.sizeOf318
  v173 := Tryd.zeroValue318
  t212 := Tryd.underlying338
  a212 := Tryd.isAgg338
  z212 := Tryd.sizeOf338
  v212 := Tryd.zeroValue338
  t213 := Tryd.underlying339
  a213 := Tryd.isAgg339
  z213 := Tryd.sizeOf339
  t232 := Tryd.underlying351
  a232 := Tryd.isAgg351
  z232 := Tryd.sizeOf351
  v232 := Tryd.zeroValue351
  t233 := Tryd.underlying352
  a233 := Tryd.isAgg352
  z233 := Tryd.sizeOf352
  v233 := Tryd.zeroValue352
  g17 := by kernel_rfl
  g18 := by kernel_rfl
  g19 := by kernel_rfl }
open Go.RowKit Go.Sort Go.Lib in
/-- THE ROAD WITHOUT THE TABLE: 0 <= i < 100: NO PREMISE ON THE WORLD, AND THE WORLD IS AS IT WAS: a row that keeps its argument in that range need list no table ('laid = []'). (LAID: no walk: one application.) -/
theorem Tryd.strconv_Itoa_small (i : Nat) (hi : i < 100) (w : World) :
    Calls Tryd.prog 141 #[.int .i64 i] w fun e w' => e = .returned (.string ⟨(Lib.decDigits i).toArray⟩) ∧ w' = w := Any.strconv_Itoa_small Tryd.lays171 i hi w
open Go.RowKit in
/-- internal/strconv.Atoi, at a string of 1 to 18 bytes THAT IS NO DECIMAL NUMERAL: 0, AND ErrSyntax (the package's own error number 2). The world behind the call: as it was, or with the one new row that '[]byte(s)' lays. (LAID: no walk: one application.) -/
theorem Tryd.internal_strconv_Atoi_err (s : ByteArray) (hl0 : 1 ≤ s.size) (hl : s.size ≤ 18) (h : Lib.atoi s.data.toList = none) (w : World) :
    Calls Tryd.prog 240 #[.string s] w fun e w' => e = .returned (.tuple #[.int .i64 0, (.iface 320 (.int .i64 2))]) ∧ (w' = w ∨ ∃ t, w' = Lib.bytesWorld w 5 t) := Any.internal_strconv_Atoi_err Tryd.lays244 s hl0 hl h w
def Tryd.lays247_ren : Go.Shelf.Ren := ⟨fun | 247 => 253 | 287 => 268 | 321 => 273 | 322 => 274 | n => n, fun | 9 => 9 | 3 => 3 | 2 => 2 | 75 => 208 | 4 => 4 | 167 => 320 | 5 => 5 | 53 => 315 | 175 => 341 | 46 => 308 | 37 => 204 | 0 => 0 | 21 => 21 | 80 => 38 | n => n, fun | n => n⟩
theorem Tryd.lays247 : Go.Proofs.Lays.n247 Tryd.prog Tryd.lays247_ren := {
  mixed := by kernel_rfl
  f247 := Tryd.func253.trans (congrArg some (by kernel_rfl))
  f287 := Tryd.func268.trans (congrArg some (by kernel_rfl))
  f321 := Tryd.func273.trans (congrArg some (by kernel_rfl))
  f322 := Tryd.func274.trans (congrArg some (by kernel_rfl))
  t0 := Tryd.underlying0
  a0 := Tryd.isAgg0
  z0 := Tryd.sizeOf0
  v0 := Tryd.zeroValue0
  t2 := Tryd.underlying2
  a2 := Tryd.isAgg2
  z2 := Tryd.sizeOf2
  v2 := Tryd.zeroValue2
  t3 := Tryd.underlying3
  a3 := Tryd.isAgg3
  z3 := Tryd.sizeOf3
  v3 := Tryd.zeroValue3
  t4 := Tryd.underlying4
  a4 := Tryd.isAgg4
  z4 := Tryd.sizeOf4
  v4 := Tryd.zeroValue4
  t5 := Tryd.underlying5
  a5 := Tryd.isAgg5
  z5 := Tryd.sizeOf5
  v5 := Tryd.zeroValue5
  t9 := Tryd.underlying9
  a9 := Tryd.isAgg9
  z9 := Tryd.sizeOf9
  v9 := Tryd.zeroValue9
  t21 := Tryd.underlying21
  a21 := Tryd.isAgg21
  z21 := Tryd.sizeOf21
  v21 := Tryd.zeroValue21
  t37 := Tryd.underlying204
  a37 := Tryd.isAgg204
  z37 := Tryd.sizeOf204
  v37 := Tryd.zeroValue204
  t46 := Tryd.underlying308
  a46 := Tryd.isAgg308
  z46 := Tryd.sizeOf308
  v46 := Tryd.zeroValue308
  t53 := Tryd.underlying315
  a53 := Tryd.isAgg315
  z53 := Tryd.sizeOf315
  v53 := Tryd.zeroValue315
  t75 := Tryd.underlying208
  a75 := Tryd.isAgg208
  z75 := Tryd.sizeOf208
  v75 := Tryd.zeroValue208
  t167 := Tryd.underlying320
  a167 := Tryd.isAgg320
  z167 := Tryd.sizeOf320
  v167 := Tryd.zeroValue320
  t175 := Tryd.underlying341
  a175 := Tryd.isAgg341
  z175 := Tryd.sizeOf341
  v175 := Tryd.zeroValue341 }
open Go.RowKit in
/-- internal/strconv.ParseInt at "": 'if s == "" { return 0, ErrSyntax }'. The world is as it was. (LAID: no walk: one application.) -/
theorem Tryd.internal_strconv_ParseInt_empty (base bits : Int) (w : World) :
    Calls Tryd.prog 253 #[.string ⟨#[]⟩, .int .i64 base, .int .i64 bits] w fun e w' => e = .returned (.tuple #[.int .i64 0, (.iface 320 (.int .i64 2))]) ∧ w' = w := Any.internal_strconv_ParseInt_empty Tryd.lays247 base bits w
open Go.RowKit in
/-- internal/strconv.Atoi at "". (LAID: no walk: one application.) -/
theorem Tryd.internal_strconv_Atoi_empty (w : World) :
    Calls Tryd.prog 240 #[.string ⟨#[]⟩] w fun e w' => e = .returned (.tuple #[.int .i64 0, (.iface 320 (.int .i64 2))]) ∧ w' = w := Any.internal_strconv_Atoi_empty Tryd.lays244 w
open Go.RowKit in
/-- internal/strconv.Atoi, AT EVERY STRING OF AT MOST 18 BYTES THAT IS NO DECIMAL NUMERAL: 0, and ErrSyntax. (LAID: no walk: one application.) -/
theorem Tryd.internal_strconv_Atoi_fail (s : ByteArray) (hl : s.size ≤ 18) (h : Lib.atoi s.data.toList = none) (w : World) :
    Calls Tryd.prog 240 #[.string s] w fun e w' => e = .returned (.tuple #[.int .i64 0, (.iface 320 (.int .i64 2))]) ∧ (w' = w ∨ ∃ t, w' = Lib.bytesWorld w 5 t) := Any.internal_strconv_Atoi_fail Tryd.lays244 s hl h w
def Tryd.laysM316_ren : Go.Shelf.Ren := ⟨fun | 316 => 269 | n => n, fun | 9 => 9 | 3 => 3 | 4 => 4 | 37 => 204 | 0 => 0 | 127 => 286 | 5 => 5 | n => n, fun | n => n⟩
theorem Tryd.laysM316 : Go.Proofs.LaysM.n316 Tryd.prog Tryd.laysM316_ren := {
  mixed := by kernel_rfl
  f316 := Tryd.func269.trans (congrArg some (by kernel_rfl))
  t0 := Tryd.underlying0
  a0 := Tryd.isAgg0
  z0 := Tryd.sizeOf0
  v0 := Tryd.zeroValue0
  t3 := Tryd.underlying3
  a3 := Tryd.isAgg3
  z3 := Tryd.sizeOf3
  v3 := Tryd.zeroValue3
  t4 := Tryd.underlying4
  a4 := Tryd.isAgg4
  z4 := Tryd.sizeOf4
  v4 := Tryd.zeroValue4
  t9 := Tryd.underlying9
  a9 := Tryd.isAgg9
  z9 := Tryd.sizeOf9
  v9 := Tryd.zeroValue9
  t37 := Tryd.underlying204
  a37 := Tryd.isAgg204
  z37 := Tryd.sizeOf204
  v37 := Tryd.zeroValue204
  t127 := Tryd.underlying286
  a127 := Tryd.isAgg286
  z127 := Tryd.sizeOf286
  v127 := Tryd.zeroValue286
  t5 := Tryd.underlying5
  a5 := Tryd.isAgg5
  z5 := Tryd.sizeOf5
  v5 := Tryd.zeroValue5
  i0 := by kernel_rfl
  i3 := by kernel_rfl
  i4 := by kernel_rfl
  i5 := by kernel_rfl
  i9 := by kernel_rfl
  i37 := by kernel_rfl
  i127 := by kernel_rfl }
open Go.RowKit in
/-- internal/stringslite.Clone (what strings.Clone calls): "Clone returns a fresh copy of s.": THE SAME BYTES. Of what was there nothing has turned (a new row is laid, and frozen, where s is not empty). (LAID: no walk: one application.) -/
theorem Tryd.stringslite_Clone (s : ByteArray) (w : World) (hlim : s.size ≤ 281474976710656) :
    Calls Tryd.prog 269 #[.string s] w fun e w' => e = .returned (.string s) ∧ Below w.heap.size w w' := Any.stringslite_Clone Tryd.laysM316 s w hlim
def Tryd.laysM279_ren : Go.Shelf.Ren := ⟨fun | 279 => 254 | 316 => 269 | n => n, fun | 9 => 9 | 168 => 323 | 75 => 208 | 210 => 344 | 3 => 3 | 4 => 4 | 37 => 204 | 0 => 0 | 127 => 286 | 80 => 38 | 5 => 5 | n => n, fun | 15 => 2 | n => n⟩
theorem Tryd.laysM279 : Go.Proofs.LaysM.n279 Tryd.prog Tryd.laysM279_ren := {
  mixed := by kernel_rfl
  f279 := Tryd.func254.trans (congrArg some (by kernel_rfl))
  f316 := Tryd.func269.trans (congrArg some (by kernel_rfl))
  t0 := Tryd.underlying0
  a0 := Tryd.isAgg0
  z0 := Tryd.sizeOf0
  v0 := Tryd.zeroValue0
  t3 := Tryd.underlying3
  a3 := Tryd.isAgg3
  z3 := Tryd.sizeOf3
  v3 := Tryd.zeroValue3
  t4 := Tryd.underlying4
  a4 := Tryd.isAgg4
  z4 := Tryd.sizeOf4
  v4 := Tryd.zeroValue4
  t9 := Tryd.underlying9
  a9 := Tryd.isAgg9
  z9 := Tryd.sizeOf9
  v9 := Tryd.zeroValue9
  t37 := Tryd.underlying204
  a37 := Tryd.isAgg204
  z37 := Tryd.sizeOf204
  v37 := Tryd.zeroValue204
  t75 := Tryd.underlying208
  a75 := Tryd.isAgg208
  z75 := Tryd.sizeOf208
  v75 := Tryd.zeroValue208
  t127 := Tryd.underlying286
  a127 := Tryd.isAgg286
  z127 := Tryd.sizeOf286
  v127 := Tryd.zeroValue286
  t168 := Tryd.underlying323
  a168 := Tryd.isAgg323
  z168 := Tryd.sizeOf323
  v168 := Tryd.zeroValue323
  t210 := Tryd.underlying344
  a210 := Tryd.isAgg344
  z210 := Tryd.sizeOf344
  v210 := Tryd.zeroValue344
  g15 := by kernel_rfl
  t5 := Tryd.underlying5
  a5 := Tryd.isAgg5
  z5 := Tryd.sizeOf5
  v5 := Tryd.zeroValue5
  t80 := Tryd.underlying38
  a80 := Tryd.isAgg38
  z80 := Tryd.sizeOf38
  v80 := Tryd.zeroValue38
  i0 := by kernel_rfl
  i3 := by kernel_rfl
  i4 := by kernel_rfl
  i5 := by kernel_rfl
  i9 := by kernel_rfl
  i37 := by kernel_rfl
  i75 := by kernel_rfl
  i80 := by kernel_rfl
  i127 := by kernel_rfl
  i168 := by kernel_rfl
  i210 := by kernel_rfl
  m15 := by kernel_rfl }
open Go.RowKit in
/-- strconv.syntaxError: '&NumError{fn, stringslite.Clone(str), ErrSyntax}': A POINTER TO A NEW BLOCK that holds fn, str's bytes, and what the variable ErrSyntax holds. Of what was there nothing has turned. (LAID: no walk: one application.) -/
theorem Tryd.strconv_syntaxError (fn s : ByteArray) (ev : Value) (w : World) (hlim : s.size ≤ 281474976710656) (hv : w.cell? ⟨2, 0, none⟩ = some ev) (hev : ev = .nilIface ∨ ∃ te pe, ev = .iface te pe) :
    Calls Tryd.prog 254 #[.string fn, .string s] w fun e w' => ∃ N, e = .returned (.pointer (some ⟨N, 0, none⟩)) ∧ w.heap.size ≤ N ∧ w'.heap[N]? = some (.cells #[.string fn, .string s, ev] 344 (0, 0)) ∧ Below w.heap.size w w' := Any.strconv_syntaxError Tryd.laysM279 fn s ev w hlim hv hev
def Tryd.laysC245_ren : Go.Shelf.Ren := ⟨fun | 245 => 241 | 279 => 254 | 280 => 255 | 281 => 256 | 282 => 257 | 316 => 269 | 171 => 141 | 205 => 270 | 243 => 213 | 246 => 238 | 283 => 248 | 284 => 249 | 285 => 250 | 286 => 251 | 129 => 264 | 317 => 263 | 318 => 265 | 319 => 266 | 320 => 267 | 337 => 271 | 338 => 272 | n => n, fun | 9 => 9 | 3 => 3 | 75 => 208 | 167 => 320 | 4 => 4 | 168 => 323 | 210 => 344 | 37 => 204 | 0 => 0 | 127 => 286 | 145 => 350 | 143 => 348 | 2 => 2 | 171 => 314 | 53 => 315 | 5 => 5 | 173 => 318 | 212 => 338 | 51 => 327 | 20 => 20 | 213 => 339 | 46 => 308 | 232 => 351 | 233 => 352 | 80 => 38 | n => n, fun | 15 => 2 | 16 => 3 | 17 => 0 | 18 => 4 | 19 => 5 | n => n⟩
theorem Tryd.laysC245 : Go.Proofs.LaysC.n245 Tryd.prog Tryd.laysC245_ren := {
  mixed := by kernel_rfl
  f129 := Tryd.func264.trans (congrArg some (by kernel_rfl))
  f171 := Tryd.func141.trans (congrArg some (by kernel_rfl))
  f205 := Tryd.func270.trans (congrArg some (by kernel_rfl))
  f243 := Tryd.func213.trans (congrArg some (by kernel_rfl))
  f245 := Tryd.func241.trans (congrArg some (by kernel_rfl))
  f246 := Tryd.func238.trans (congrArg some (by kernel_rfl))
  f279 := Tryd.func254.trans (congrArg some (by kernel_rfl))
  f280 := Tryd.func255.trans (congrArg some (by kernel_rfl))
  f281 := Tryd.func256.trans (congrArg some (by kernel_rfl))
  f282 := Tryd.func257.trans (congrArg some (by kernel_rfl))
  f283 := Tryd.func248.trans (congrArg some (by kernel_rfl))
  f284 := Tryd.func249.trans (congrArg some (by kernel_rfl))
  f285 := Tryd.func250.trans (congrArg some (by kernel_rfl))
  f286 := Tryd.func251.trans (congrArg some (by kernel_rfl))
  f316 := Tryd.func269.trans (congrArg some (by kernel_rfl))
  f317 := Tryd.func263.trans (congrArg some (by kernel_rfl))
  f318 := Tryd.func265.trans (congrArg some (by kernel_rfl))
  f319 := Tryd.func266.trans (congrArg some (by kernel_rfl))
  f320 := Tryd.func267.trans (congrArg some (by kernel_rfl))
  f337 := Tryd.func271.trans (congrArg some (by kernel_rfl))
  f338 := Tryd.func272.trans (congrArg some (by kernel_rfl))
  t0 := Tryd.underlying0
  a0 := Tryd.isAgg0
  z0 := Tryd.sizeOf0
  v0 := Tryd.zeroValue0
  t2 := Tryd.underlying2
  a2 := Tryd.isAgg2
  z2 := Tryd.sizeOf2
  v2 := Tryd.zeroValue2
  t3 := Tryd.underlying3
  a3 := Tryd.isAgg3
  z3 := Tryd.sizeOf3
  v3 := Tryd.zeroValue3
  t4 := Tryd.underlying4
  a4 := Tryd.isAgg4
  z4 := Tryd.sizeOf4
  v4 := Tryd.zeroValue4
  t5 := Tryd.underlying5
  a5 := Tryd.isAgg5
  z5 := Tryd.sizeOf5
  v5 := Tryd.zeroValue5
  t9 := Tryd.underlying9
  a9 := Tryd.isAgg9
  z9 := Tryd.sizeOf9
  v9 := Tryd.zeroValue9
  t20 := Tryd.underlying20
  a20 := Tryd.isAgg20
  z20 := Tryd.sizeOf20
  v20 := Tryd.zeroValue20
  t37 := Tryd.underlying204
  a37 := Tryd.isAgg204
  z37 := Tryd.sizeOf204
  v37 := Tryd.zeroValue204
  t46 := Tryd.underlying308
  a46 := Tryd.isAgg308
  z46 := Tryd.sizeOf308
  v46 := Tryd.zeroValue308
  t51 := Tryd.underlying327
  a51 := Tryd.isAgg327
  z51 := Tryd.sizeOf327
  v51 := Tryd.zeroValue327
  t53 := Tryd.underlying315
  a53 := Tryd.isAgg315
  z53 := Tryd.sizeOf315
  v53 := Tryd.zeroValue315
  t75 := Tryd.underlying208
  a75 := Tryd.isAgg208
  z75 := Tryd.sizeOf208
  v75 := Tryd.zeroValue208
  t127 := Tryd.underlying286
  a127 := Tryd.isAgg286
  z127 := Tryd.sizeOf286
  v127 := Tryd.zeroValue286
  t143 := Tryd.underlying348
  a143 := Tryd.isAgg348
  z143 := Tryd.sizeOf348
  v143 := Tryd.zeroValue348
  t145 := Tryd.underlying350
  a145 := Tryd.isAgg350
  z145 := Tryd.sizeOf350
  v145 := Tryd.zeroValue350
  t167 := Tryd.underlying320
  a167 := Tryd.isAgg320
  z167 := Tryd.sizeOf320
  v167 := Tryd.zeroValue320
  t168 := Tryd.underlying323
  a168 := Tryd.isAgg323
  z168 := Tryd.sizeOf323
  v168 := Tryd.zeroValue323
  t171 := Tryd.underlying314
  a171 := Tryd.isAgg314
  z171 := Tryd.sizeOf314
  v171 := Tryd.zeroValue314
  t173 := Tryd.underlying318
  a173 := Tryd.isAgg318
  z173 := Tryd.sizeOf318
  v173 := Tryd.zeroValue318
  t210 := Tryd.underlying344
  a210 := Tryd.isAgg344
  z210 := Tryd.sizeOf344
  v210 := Tryd.zeroValue344
  t212 := Tryd.underlying338
  a212 := Tryd.isAgg338
  z212 := Tryd.sizeOf338
  v212 := Tryd.zeroValue338
  t213 := Tryd.underlying339
  a213 := Tryd.isAgg339
  z213 := Tryd.sizeOf339
  t232 := Tryd.underlying351
  a232 := Tryd.isAgg351
  z232 := Tryd.sizeOf351
  v232 := Tryd.zeroValue351
  t233 := Tryd.underlying352
  a233 := Tryd.isAgg352
  z233 := Tryd.sizeOf352
  v233 := Tryd.zeroValue352
  g15 := by kernel_rfl
  g16 := by kernel_rfl
  g17 := by kernel_rfl
  g18 := by kernel_rfl
  g19 := by kernel_rfl
  t80 := Tryd.underlying38
  a80 := Tryd.isAgg38
  z80 := Tryd.sizeOf38
  v80 := Tryd.zeroValue38
  i0 := by kernel_rfl
  i2 := by kernel_rfl
  i3 := by kernel_rfl
  i4 := by kernel_rfl
  i5 := by kernel_rfl
  i9 := by kernel_rfl
  i20 := by kernel_rfl
  i37 := by kernel_rfl
  i46 := by kernel_rfl
  i51 := by kernel_rfl
  i53 := by kernel_rfl
  i75 := by kernel_rfl
  i80 := by kernel_rfl
  i127 := by kernel_rfl
  i143 := by kernel_rfl
  i145 := by kernel_rfl
  i167 := by kernel_rfl
  i168 := by kernel_rfl
  i171 := by kernel_rfl
  i173 := by kernel_rfl
  i210 := by kernel_rfl
  i212 := by kernel_rfl
  i232 := by kernel_rfl
  i233 := by kernel_rfl
  m15 := by kernel_rfl
  m16 := by kernel_rfl
  m17 := by kernel_rfl
  m18 := by kernel_rfl
  m19 := by kernel_rfl
  c0 := by kernel_rfl
  c2 := by kernel_rfl
  c3 := by kernel_rfl
  c4 := by kernel_rfl
  c5 := by kernel_rfl
  c9 := by kernel_rfl
  c20 := by kernel_rfl
  c37 := by kernel_rfl
  c46 := by kernel_rfl
  c51 := by kernel_rfl
  c53 := by kernel_rfl
  c75 := by kernel_rfl
  c80 := by kernel_rfl
  c127 := by kernel_rfl
  c143 := by kernel_rfl
  c145 := by kernel_rfl
  c167 := by kernel_rfl
  c168 := by kernel_rfl
  c171 := by kernel_rfl
  c173 := by kernel_rfl
  c210 := by kernel_rfl
  c212 := by kernel_rfl
  c213 := by kernel_rfl
  c232 := by kernel_rfl
  c233 := by kernel_rfl }
open Go.RowKit in
/-- strconv.toError, at the inner package's ErrSyntax: 'syntaxError(fn, s)' as an error: A *NumError IN A NEW BLOCK. (LAID: no walk: one application.) -/
theorem Tryd.strconv_toError_syntax (fn s : ByteArray) (base bits : Int) (ev : Value) (w : World) (hlim : s.size ≤ 281474976710656) (hv : w.cell? ⟨2, 0, none⟩ = some ev) (hev : ev = .nilIface ∨ ∃ te pe, ev = .iface te pe) :
    Calls Tryd.prog 241 #[.string fn, .string s, .int .i64 base, .int .i64 bits, .iface 320 (.int .i64 2)] w fun e w' => ∃ N, e = .returned (.iface 323 (.pointer (some ⟨N, 0, none⟩))) ∧ w.heap.size ≤ N ∧ w'.heap[N]? = some (.cells #[.string fn, .string s, ev] 344 (0, 0)) ∧ Below w.heap.size w w' := Any.strconv_toError_syntax Tryd.laysC245 fn s base bits ev w hlim hv hev
def Tryd.lays321_ren : Go.Shelf.Ren := ⟨fun | 321 => 273 | n => n, fun | 5 => 5 | n => n, fun | n => n⟩
theorem Tryd.lays321 : Go.Proofs.Lays.n321 Tryd.prog Tryd.lays321_ren := {
  mixed := by kernel_rfl
  f321 := Tryd.func273.trans (congrArg some (by kernel_rfl))
  t5 := Tryd.underlying5
  a5 := Tryd.isAgg5
  z5 := Tryd.sizeOf5
  v5 := Tryd.zeroValue5 }
open Go.RowKit in
/-- internal/strconv.lower: 'c | ('x' - 'X')': the bit 32 set. The world is as it was. (LAID: no walk: one application.) -/
theorem Tryd.internal_strconv_lower (c : Int) (w : World) :
    Calls Tryd.prog 273 #[.int .u8 c] w fun e w' => e = .returned (.int .u8 (bits .or .u8 c 32)) ∧ w' = w := Any.internal_strconv_lower Tryd.lays321 c w
def Tryd.lays287_ren : Go.Shelf.Ren := ⟨fun | 287 => 268 | 321 => 273 | 322 => 274 | n => n, fun | 9 => 9 | 3 => 3 | 53 => 315 | 75 => 208 | 4 => 4 | 167 => 320 | 5 => 5 | 46 => 308 | 37 => 204 | 0 => 0 | 21 => 21 | 80 => 38 | n => n, fun | n => n⟩
theorem Tryd.lays287 : Go.Proofs.Lays.n287 Tryd.prog Tryd.lays287_ren := {
  mixed := by kernel_rfl
  f287 := Tryd.func268.trans (congrArg some (by kernel_rfl))
  f321 := Tryd.func273.trans (congrArg some (by kernel_rfl))
  f322 := Tryd.func274.trans (congrArg some (by kernel_rfl))
  t0 := Tryd.underlying0
  a0 := Tryd.isAgg0
  z0 := Tryd.sizeOf0
  v0 := Tryd.zeroValue0
  t3 := Tryd.underlying3
  a3 := Tryd.isAgg3
  z3 := Tryd.sizeOf3
  v3 := Tryd.zeroValue3
  t4 := Tryd.underlying4
  a4 := Tryd.isAgg4
  z4 := Tryd.sizeOf4
  v4 := Tryd.zeroValue4
  t5 := Tryd.underlying5
  a5 := Tryd.isAgg5
  z5 := Tryd.sizeOf5
  v5 := Tryd.zeroValue5
  t9 := Tryd.underlying9
  a9 := Tryd.isAgg9
  z9 := Tryd.sizeOf9
  v9 := Tryd.zeroValue9
  t21 := Tryd.underlying21
  a21 := Tryd.isAgg21
  z21 := Tryd.sizeOf21
  v21 := Tryd.zeroValue21
  t37 := Tryd.underlying204
  a37 := Tryd.isAgg204
  z37 := Tryd.sizeOf204
  v37 := Tryd.zeroValue204
  t46 := Tryd.underlying308
  a46 := Tryd.isAgg308
  z46 := Tryd.sizeOf308
  v46 := Tryd.zeroValue308
  t53 := Tryd.underlying315
  a53 := Tryd.isAgg315
  z53 := Tryd.sizeOf315
  v53 := Tryd.zeroValue315
  t75 := Tryd.underlying208
  a75 := Tryd.isAgg208
  z75 := Tryd.sizeOf208
  v75 := Tryd.zeroValue208
  t167 := Tryd.underlying320
  a167 := Tryd.isAgg320
  z167 := Tryd.sizeOf320
  v167 := Tryd.zeroValue320 }
open Go.RowKit in
/-- internal/strconv.ParseUint(s, 10, 0), s NOT EMPTY: 'Lib.parseUint10 0' OF ITS BYTES: the number; or (0, ErrSyntax); or (the greatest uint64, ErrRange). The world behind the call: the one new row that '[]byte(s)' lays. (LAID: no walk: one application.) -/
theorem Tryd.internal_strconv_ParseUint_10 (t : ByteArray) (hne : t.size ≠ 0) (hmax : t.size ≤ 9223372036854775806) (w : World) :
    Calls Tryd.prog 268 #[.string t, .int .i64 10, .int .i64 0] w fun e w' => e = .returned (Lib.uintTuple 320 (Lib.parseUint10 0 t.data.toList)) ∧ w' = Lib.bytesWorld w 5 t := Any.internal_strconv_ParseUint_10 Tryd.lays287 t hne hmax w
open Go.RowKit in
/-- internal/strconv.ParseUint("", 10, 0): (0, ErrSyntax). The world is as it was. (LAID: no walk: one application.) -/
theorem Tryd.internal_strconv_ParseUint_10_empty (w : World) :
    Calls Tryd.prog 268 #[.string ⟨#[]⟩, .int .i64 10, .int .i64 0] w fun e w' => e = .returned (Lib.uintTuple 320 .syntax) ∧ w' = w := Any.internal_strconv_ParseUint_10_empty Tryd.lays287 w
open Go.RowKit in
/-- internal/strconv.ParseUint(s, 10, 0): 'Lib.parseMag' OF ITS BYTES. The world: as it was (the empty string), or with the one new row that '[]byte(s)' lays. (LAID: no walk: one application.) -/
theorem Tryd.internal_strconv_ParseUint_10_any (t : ByteArray) (hmax : t.size ≤ 9223372036854775806) (w : World) :
    Calls Tryd.prog 268 #[.string t, .int .i64 10, .int .i64 0] w fun e w' => e = .returned (Lib.uintTuple 320 (Lib.parseMag t.data.toList)) ∧ (w' = w ∨ w' = Lib.bytesWorld w 5 t) := Any.internal_strconv_ParseUint_10_any Tryd.lays287 t hmax w
def Tryd.laysC247_ren : Go.Shelf.Ren := ⟨fun | 247 => 253 | 287 => 268 | 321 => 273 | 322 => 274 | n => n, fun | 9 => 9 | 3 => 3 | 2 => 2 | 75 => 208 | 4 => 4 | 167 => 320 | 5 => 5 | 53 => 315 | 175 => 341 | 46 => 308 | 37 => 204 | 0 => 0 | 21 => 21 | 80 => 38 | n => n, fun | n => n⟩
theorem Tryd.laysC247 : Go.Proofs.LaysC.n247 Tryd.prog Tryd.laysC247_ren := {
  mixed := by kernel_rfl
  f247 := Tryd.func253.trans (congrArg some (by kernel_rfl))
  f287 := Tryd.func268.trans (congrArg some (by kernel_rfl))
  f321 := Tryd.func273.trans (congrArg some (by kernel_rfl))
  f322 := Tryd.func274.trans (congrArg some (by kernel_rfl))
  t0 := Tryd.underlying0
  a0 := Tryd.isAgg0
  z0 := Tryd.sizeOf0
  v0 := Tryd.zeroValue0
  t2 := Tryd.underlying2
  a2 := Tryd.isAgg2
  z2 := Tryd.sizeOf2
  v2 := Tryd.zeroValue2
  t3 := Tryd.underlying3
  a3 := Tryd.isAgg3
  z3 := Tryd.sizeOf3
  v3 := Tryd.zeroValue3
  t4 := Tryd.underlying4
  a4 := Tryd.isAgg4
  z4 := Tryd.sizeOf4
  v4 := Tryd.zeroValue4
  t5 := Tryd.underlying5
  a5 := Tryd.isAgg5
  z5 := Tryd.sizeOf5
  v5 := Tryd.zeroValue5
  t9 := Tryd.underlying9
  a9 := Tryd.isAgg9
  z9 := Tryd.sizeOf9
  v9 := Tryd.zeroValue9
  t21 := Tryd.underlying21
  a21 := Tryd.isAgg21
  z21 := Tryd.sizeOf21
  v21 := Tryd.zeroValue21
  t37 := Tryd.underlying204
  a37 := Tryd.isAgg204
  z37 := Tryd.sizeOf204
  v37 := Tryd.zeroValue204
  t46 := Tryd.underlying308
  a46 := Tryd.isAgg308
  z46 := Tryd.sizeOf308
  v46 := Tryd.zeroValue308
  t53 := Tryd.underlying315
  a53 := Tryd.isAgg315
  z53 := Tryd.sizeOf315
  v53 := Tryd.zeroValue315
  t75 := Tryd.underlying208
  a75 := Tryd.isAgg208
  z75 := Tryd.sizeOf208
  v75 := Tryd.zeroValue208
  t167 := Tryd.underlying320
  a167 := Tryd.isAgg320
  z167 := Tryd.sizeOf320
  v167 := Tryd.zeroValue320
  t175 := Tryd.underlying341
  a175 := Tryd.isAgg341
  z175 := Tryd.sizeOf341
  v175 := Tryd.zeroValue341
  t80 := Tryd.underlying38
  a80 := Tryd.isAgg38
  z80 := Tryd.sizeOf38
  v80 := Tryd.zeroValue38
  i0 := by kernel_rfl
  i2 := by kernel_rfl
  i3 := by kernel_rfl
  i4 := by kernel_rfl
  i5 := by kernel_rfl
  i9 := by kernel_rfl
  i21 := by kernel_rfl
  i37 := by kernel_rfl
  i46 := by kernel_rfl
  i53 := by kernel_rfl
  i75 := by kernel_rfl
  i80 := by kernel_rfl
  i167 := by kernel_rfl
  i175 := by kernel_rfl
  c0 := by kernel_rfl
  c2 := by kernel_rfl
  c3 := by kernel_rfl
  c4 := by kernel_rfl
  c5 := by kernel_rfl
  c9 := by kernel_rfl
  c21 := by kernel_rfl
  c37 := by kernel_rfl
  c46 := by kernel_rfl
  c53 := by kernel_rfl
  c75 := by kernel_rfl
  c80 := by kernel_rfl
  c167 := by kernel_rfl
  c175 := by kernel_rfl }
open Go.RowKit in
/-- internal/strconv.ParseInt(s, 10, 0), s NOT EMPTY: 'Lib.atoiAll' OF ITS BYTES: (the number, nil); (0, ErrSyntax); (the greatest or the least int64 by the sign, ErrRange). The world: as it was, or with the one new row that '[]byte(..)' lays. (LAID: no walk: one application.) -/
theorem Tryd.internal_strconv_ParseInt_10 (s : ByteArray) (hne : s.size ≠ 0) (hmax : s.size ≤ 9223372036854775806) (w : World) :
    Calls Tryd.prog 253 #[.string s, .int .i64 10, .int .i64 0] w fun e w' => e = .returned (Lib.intTuple 320 (Lib.atoiSat s.data.toList) (Lib.atoiAll s.data.toList)) ∧ (w' = w ∨ ∃ t, w' = Lib.bytesWorld w 5 t) := Any.internal_strconv_ParseInt_10 Tryd.laysC247 s hne hmax w
def Tryd.laysC244_ren : Go.Shelf.Ren := ⟨fun | 244 => 240 | 247 => 253 | 287 => 268 | 321 => 273 | 322 => 274 | n => n, fun | 9 => 9 | 3 => 3 | 75 => 208 | 4 => 4 | 5 => 5 | 167 => 320 | 37 => 204 | 0 => 0 | 85 => 321 | 2 => 2 | 53 => 315 | 175 => 341 | 46 => 308 | 21 => 21 | 80 => 38 | n => n, fun | n => n⟩
theorem Tryd.laysC244 : Go.Proofs.LaysC.n244 Tryd.prog Tryd.laysC244_ren := {
  mixed := by kernel_rfl
  f244 := Tryd.func240.trans (congrArg some (by kernel_rfl))
  f247 := Tryd.func253.trans (congrArg some (by kernel_rfl))
  f287 := Tryd.func268.trans (congrArg some (by kernel_rfl))
  f321 := Tryd.func273.trans (congrArg some (by kernel_rfl))
  f322 := Tryd.func274.trans (congrArg some (by kernel_rfl))
  t0 := Tryd.underlying0
  a0 := Tryd.isAgg0
  z0 := Tryd.sizeOf0
  v0 := Tryd.zeroValue0
  t2 := Tryd.underlying2
  a2 := Tryd.isAgg2
  z2 := Tryd.sizeOf2
  v2 := Tryd.zeroValue2
  t3 := Tryd.underlying3
  a3 := Tryd.isAgg3
  z3 := Tryd.sizeOf3
  v3 := Tryd.zeroValue3
  t4 := Tryd.underlying4
  a4 := Tryd.isAgg4
  z4 := Tryd.sizeOf4
  v4 := Tryd.zeroValue4
  t5 := Tryd.underlying5
  a5 := Tryd.isAgg5
  z5 := Tryd.sizeOf5
  v5 := Tryd.zeroValue5
  t9 := Tryd.underlying9
  a9 := Tryd.isAgg9
  z9 := Tryd.sizeOf9
  v9 := Tryd.zeroValue9
  t21 := Tryd.underlying21
  a21 := Tryd.isAgg21
  z21 := Tryd.sizeOf21
  v21 := Tryd.zeroValue21
  t37 := Tryd.underlying204
  a37 := Tryd.isAgg204
  z37 := Tryd.sizeOf204
  v37 := Tryd.zeroValue204
  t46 := Tryd.underlying308
  a46 := Tryd.isAgg308
  z46 := Tryd.sizeOf308
  v46 := Tryd.zeroValue308
  t53 := Tryd.underlying315
  a53 := Tryd.isAgg315
  z53 := Tryd.sizeOf315
  v53 := Tryd.zeroValue315
  t75 := Tryd.underlying208
  a75 := Tryd.isAgg208
  z75 := Tryd.sizeOf208
  v75 := Tryd.zeroValue208
  t85 := Tryd.underlying321
  a85 := Tryd.isAgg321
  z85 := Tryd.sizeOf321
  v85 := Tryd.zeroValue321
  t167 := Tryd.underlying320
  a167 := Tryd.isAgg320
  z167 := Tryd.sizeOf320
  v167 := Tryd.zeroValue320
  t175 := Tryd.underlying341
  a175 := Tryd.isAgg341
  z175 := Tryd.sizeOf341
  v175 := Tryd.zeroValue341
  t80 := Tryd.underlying38
  a80 := Tryd.isAgg38
  z80 := Tryd.sizeOf38
  v80 := Tryd.zeroValue38
  i0 := by kernel_rfl
  i2 := by kernel_rfl
  i3 := by kernel_rfl
  i4 := by kernel_rfl
  i5 := by kernel_rfl
  i9 := by kernel_rfl
  i21 := by kernel_rfl
  i37 := by kernel_rfl
  i46 := by kernel_rfl
  i53 := by kernel_rfl
  i75 := by kernel_rfl
  i80 := by kernel_rfl
  i85 := by kernel_rfl
  i167 := by kernel_rfl
  i175 := by kernel_rfl
  c0 := by kernel_rfl
  c2 := by kernel_rfl
  c3 := by kernel_rfl
  c4 := by kernel_rfl
  c5 := by kernel_rfl
  c9 := by kernel_rfl
  c21 := by kernel_rfl
  c37 := by kernel_rfl
  c46 := by kernel_rfl
  c53 := by kernel_rfl
  c75 := by kernel_rfl
  c80 := by kernel_rfl
  c85 := by kernel_rfl
  c167 := by kernel_rfl
  c175 := by kernel_rfl }
open Go.RowKit in
/-- internal/strconv.Atoi, AT EVERY STRING OF 19 BYTES OR MORE: 'Lib.atoiAll' OF ITS BYTES: (the number, nil); (0, ErrSyntax); (the greatest or the least int by the sign, ErrRange). (LAID: no walk: one application.) -/
theorem Tryd.internal_strconv_Atoi_long (s : ByteArray) (h19 : 19 ≤ s.size) (hmax : s.size ≤ 9223372036854775806) (w : World) :
    Calls Tryd.prog 240 #[.string s] w fun e w' => e = .returned (Lib.intTuple 320 (Lib.atoiSat s.data.toList) (Lib.atoiAll s.data.toList)) ∧ (w' = w ∨ ∃ t, w' = Lib.bytesWorld w 5 t) := Any.internal_strconv_Atoi_long Tryd.laysC244 s h19 hmax w
open Go.RowKit in
/-- internal/strconv.Atoi, AT EVERY STRING: 'Lib.atoiAll' OF ITS BYTES: (the number, nil); (0, ErrSyntax); (the greatest or the least int by the sign, ErrRange). The world: as it was, or with the one new row that '[]byte(..)' lays. (LAID: no walk: one application.) -/
theorem Tryd.internal_strconv_Atoi_all (s : ByteArray) (hmax : s.size ≤ 9223372036854775806) (w : World) :
    Calls Tryd.prog 240 #[.string s] w fun e w' => e = .returned (Lib.intTuple 320 (Lib.atoiSat s.data.toList) (Lib.atoiAll s.data.toList)) ∧ (w' = w ∨ ∃ t, w' = Lib.bytesWorld w 5 t) := Any.internal_strconv_Atoi_all Tryd.laysC244 s hmax w
def Tryd.laysM280_ren : Go.Shelf.Ren := ⟨fun | 280 => 255 | 316 => 269 | n => n, fun | 9 => 9 | 168 => 323 | 75 => 208 | 210 => 344 | 3 => 3 | 4 => 4 | 37 => 204 | 0 => 0 | 127 => 286 | 80 => 38 | 5 => 5 | n => n, fun | 16 => 3 | n => n⟩
theorem Tryd.laysM280 : Go.Proofs.LaysM.n280 Tryd.prog Tryd.laysM280_ren := {
  mixed := by kernel_rfl
  f280 := Tryd.func255.trans (congrArg some (by kernel_rfl))
  f316 := Tryd.func269.trans (congrArg some (by kernel_rfl))
  t0 := Tryd.underlying0
  a0 := Tryd.isAgg0
  z0 := Tryd.sizeOf0
  v0 := Tryd.zeroValue0
  t3 := Tryd.underlying3
  a3 := Tryd.isAgg3
  z3 := Tryd.sizeOf3
  v3 := Tryd.zeroValue3
  t4 := Tryd.underlying4
  a4 := Tryd.isAgg4
  z4 := Tryd.sizeOf4
  v4 := Tryd.zeroValue4
  t9 := Tryd.underlying9
  a9 := Tryd.isAgg9
  z9 := Tryd.sizeOf9
  v9 := Tryd.zeroValue9
  t37 := Tryd.underlying204
  a37 := Tryd.isAgg204
  z37 := Tryd.sizeOf204
  v37 := Tryd.zeroValue204
  t75 := Tryd.underlying208
  a75 := Tryd.isAgg208
  z75 := Tryd.sizeOf208
  v75 := Tryd.zeroValue208
  t127 := Tryd.underlying286
  a127 := Tryd.isAgg286
  z127 := Tryd.sizeOf286
  v127 := Tryd.zeroValue286
  t168 := Tryd.underlying323
  a168 := Tryd.isAgg323
  z168 := Tryd.sizeOf323
  v168 := Tryd.zeroValue323
  t210 := Tryd.underlying344
  a210 := Tryd.isAgg344
  z210 := Tryd.sizeOf344
  v210 := Tryd.zeroValue344
  g16 := by kernel_rfl
  t5 := Tryd.underlying5
  a5 := Tryd.isAgg5
  z5 := Tryd.sizeOf5
  v5 := Tryd.zeroValue5
  t80 := Tryd.underlying38
  a80 := Tryd.isAgg38
  z80 := Tryd.sizeOf38
  v80 := Tryd.zeroValue38
  i0 := by kernel_rfl
  i3 := by kernel_rfl
  i4 := by kernel_rfl
  i5 := by kernel_rfl
  i9 := by kernel_rfl
  i37 := by kernel_rfl
  i75 := by kernel_rfl
  i80 := by kernel_rfl
  i127 := by kernel_rfl
  i168 := by kernel_rfl
  i210 := by kernel_rfl
  m16 := by kernel_rfl }
open Go.RowKit in
/-- strconv.rangeError: '&NumError{fn, stringslite.Clone(str), ErrRange}': A POINTER TO A NEW BLOCK that holds fn, str's bytes, and what the variable ErrRange holds. Of what was there nothing has turned. (LAID: no walk: one application.) -/
theorem Tryd.strconv_rangeError (fn s : ByteArray) (ev : Value) (w : World) (hlim : s.size ≤ 281474976710656) (hv : w.cell? ⟨3, 0, none⟩ = some ev) (hev : ev = .nilIface ∨ ∃ te pe, ev = .iface te pe) :
    Calls Tryd.prog 255 #[.string fn, .string s] w fun e w' => ∃ N, e = .returned (.pointer (some ⟨N, 0, none⟩)) ∧ w.heap.size ≤ N ∧ w'.heap[N]? = some (.cells #[.string fn, .string s, ev] 344 (0, 0)) ∧ Below w.heap.size w w' := Any.strconv_rangeError Tryd.laysM280 fn s ev w hlim hv hev
open Go.RowKit in
/-- strconv.toError, at the inner package's ErrRange: 'rangeError(fn, s)' as an error: A *NumError IN A NEW BLOCK. (LAID: no walk: one application.) -/
theorem Tryd.strconv_toError_range (fn s : ByteArray) (base bits : Int) (ev : Value) (w : World) (hlim : s.size ≤ 281474976710656) (hv : w.cell? ⟨3, 0, none⟩ = some ev) (hev : ev = .nilIface ∨ ∃ te pe, ev = .iface te pe) :
    Calls Tryd.prog 241 #[.string fn, .string s, .int .i64 base, .int .i64 bits, .iface 320 (.int .i64 1)] w fun e w' => ∃ N, e = .returned (.iface 323 (.pointer (some ⟨N, 0, none⟩))) ∧ w.heap.size ≤ N ∧ w'.heap[N]? = some (.cells #[.string fn, .string s, ev] 344 (0, 0)) ∧ Below w.heap.size w w' := Any.strconv_toError_range Tryd.laysC245 fn s base bits ev w hlim hv hev
def Tryd.laysC172_ren : Go.Shelf.Ren := ⟨fun | 172 => 215 | 244 => 240 | 245 => 241 | 247 => 253 | 279 => 254 | 280 => 255 | 281 => 256 | 282 => 257 | 287 => 268 | 316 => 269 | 171 => 141 | 205 => 270 | 321 => 273 | 322 => 274 | 243 => 213 | 246 => 238 | 283 => 248 | 284 => 249 | 285 => 250 | 286 => 251 | 129 => 264 | 317 => 263 | 318 => 265 | 319 => 266 | 320 => 267 | 337 => 271 | 338 => 272 | n => n, fun | 9 => 9 | 3 => 3 | 75 => 208 | 76 => 209 | 4 => 4 | 5 => 5 | 167 => 320 | 37 => 204 | 0 => 0 | 85 => 321 | 2 => 2 | 168 => 323 | 53 => 315 | 175 => 341 | 46 => 308 | 210 => 344 | 127 => 286 | 145 => 350 | 143 => 348 | 21 => 21 | 171 => 314 | 173 => 318 | 212 => 338 | 51 => 327 | 20 => 20 | 213 => 339 | 232 => 351 | 233 => 352 | 80 => 38 | n => n, fun | 15 => 2 | 16 => 3 | 17 => 0 | 18 => 4 | 19 => 5 | n => n⟩
theorem Tryd.laysC172 : Go.Proofs.LaysC.n172 Tryd.prog Tryd.laysC172_ren := {
  mixed := by kernel_rfl
  f129 := Tryd.func264.trans (congrArg some (by kernel_rfl))
  f171 := Tryd.func141.trans (congrArg some (by kernel_rfl))
  f172 := Tryd.func215.trans (congrArg some (by kernel_rfl))
  f205 := Tryd.func270.trans (congrArg some (by kernel_rfl))
  f243 := Tryd.func213.trans (congrArg some (by kernel_rfl))
  f244 := Tryd.func240.trans (congrArg some (by kernel_rfl))
  f245 := Tryd.func241.trans (congrArg some (by kernel_rfl))
  f246 := Tryd.func238.trans (congrArg some (by kernel_rfl))
  f247 := Tryd.func253.trans (congrArg some (by kernel_rfl))
  f279 := Tryd.func254.trans (congrArg some (by kernel_rfl))
  f280 := Tryd.func255.trans (congrArg some (by kernel_rfl))
  f281 := Tryd.func256.trans (congrArg some (by kernel_rfl))
  f282 := Tryd.func257.trans (congrArg some (by kernel_rfl))
  f283 := Tryd.func248.trans (congrArg some (by kernel_rfl))
  f284 := Tryd.func249.trans (congrArg some (by kernel_rfl))
  f285 := Tryd.func250.trans (congrArg some (by kernel_rfl))
  f286 := Tryd.func251.trans (congrArg some (by kernel_rfl))
  f287 := Tryd.func268.trans (congrArg some (by kernel_rfl))
  f316 := Tryd.func269.trans (congrArg some (by kernel_rfl))
  f317 := Tryd.func263.trans (congrArg some (by kernel_rfl))
  f318 := Tryd.func265.trans (congrArg some (by kernel_rfl))
  f319 := Tryd.func266.trans (congrArg some (by kernel_rfl))
  f320 := Tryd.func267.trans (congrArg some (by kernel_rfl))
  f321 := Tryd.func273.trans (congrArg some (by kernel_rfl))
  f322 := Tryd.func274.trans (congrArg some (by kernel_rfl))
  f337 := Tryd.func271.trans (congrArg some (by kernel_rfl))
  f338 := Tryd.func272.trans (congrArg some (by kernel_rfl))
  t0 := Tryd.underlying0
  a0 := Tryd.isAgg0
  z0 := Tryd.sizeOf0
  v0 := Tryd.zeroValue0
  t2 := Tryd.underlying2
  a2 := Tryd.isAgg2
  z2 := Tryd.sizeOf2
  v2 := Tryd.zeroValue2
  t3 := Tryd.underlying3
  a3 := Tryd.isAgg3
  z3 := Tryd.sizeOf3
  v3 := Tryd.zeroValue3
  t4 := Tryd.underlying4
  a4 := Tryd.isAgg4
  z4 := Tryd.sizeOf4
  v4 := Tryd.zeroValue4
  t5 := Tryd.underlying5
  a5 := Tryd.isAgg5
  z5 := Tryd.sizeOf5
  v5 := Tryd.zeroValue5
  t9 := Tryd.underlying9
  a9 := Tryd.isAgg9
  z9 := Tryd.sizeOf9
  v9 := Tryd.zeroValue9
  t20 := Tryd.underlying20
  a20 := Tryd.isAgg20
  z20 := Tryd.sizeOf20
  v20 := Tryd.zeroValue20
  t21 := Tryd.underlying21
  a21 := Tryd.isAgg21
  z21 := Tryd.sizeOf21
  v21 := Tryd.zeroValue21
  t37 := Tryd.underlying204
  a37 := Tryd.isAgg204
  z37 := Tryd.sizeOf204
  v37 := Tryd.zeroValue204
  t46 := Tryd.underlying308
  a46 := Tryd.isAgg308
  z46 := Tryd.sizeOf308
  v46 := Tryd.zeroValue308
  t51 := Tryd.underlying327
  a51 := Tryd.isAgg327
  z51 := Tryd.sizeOf327
  v51 := Tryd.zeroValue327
  t53 := Tryd.underlying315
  a53 := Tryd.isAgg315
  z53 := Tryd.sizeOf315
  v53 := Tryd.zeroValue315
  t75 := Tryd.underlying208
  a75 := Tryd.isAgg208
  z75 := Tryd.sizeOf208
  v75 := Tryd.zeroValue208
  t76 := Tryd.underlying209
  a76 := Tryd.isAgg209
  z76 := Tryd.sizeOf209
  v76 := Tryd.zeroValue209
  t85 := Tryd.underlying321
  a85 := Tryd.isAgg321
  z85 := Tryd.sizeOf321
  v85 := Tryd.zeroValue321
  t127 := Tryd.underlying286
  a127 := Tryd.isAgg286
  z127 := Tryd.sizeOf286
  v127 := Tryd.zeroValue286
  t143 := Tryd.underlying348
  a143 := Tryd.isAgg348
  z143 := Tryd.sizeOf348
  v143 := Tryd.zeroValue348
  t145 := Tryd.underlying350
  a145 := Tryd.isAgg350
  z145 := Tryd.sizeOf350
  v145 := Tryd.zeroValue350
  t167 := Tryd.underlying320
  a167 := Tryd.isAgg320
  z167 := Tryd.sizeOf320
  v167 := Tryd.zeroValue320
  t168 := Tryd.underlying323
  a168 := Tryd.isAgg323
  z168 := Tryd.sizeOf323
  v168 := Tryd.zeroValue323
  t171 := Tryd.underlying314
  a171 := Tryd.isAgg314
  z171 := Tryd.sizeOf314
  v171 := Tryd.zeroValue314
  t173 := Tryd.underlying318
  a173 := Tryd.isAgg318
  z173 := Tryd.sizeOf318
  v173 := Tryd.zeroValue318
  t175 := Tryd.underlying341
  a175 := Tryd.isAgg341
  z175 := Tryd.sizeOf341
  v175 := Tryd.zeroValue341
  t210 := Tryd.underlying344
  a210 := Tryd.isAgg344
  z210 := Tryd.sizeOf344
  v210 := Tryd.zeroValue344
  t212 := Tryd.underlying338
  a212 := Tryd.isAgg338
  z212 := Tryd.sizeOf338
  v212 := Tryd.zeroValue338
  t213 := Tryd.underlying339
  a213 := Tryd.isAgg339
  z213 := Tryd.sizeOf339
  t232 := Tryd.underlying351
  a232 := Tryd.isAgg351
  z232 := Tryd.sizeOf351
  v232 := Tryd.zeroValue351
  t233 := Tryd.underlying352
  a233 := Tryd.isAgg352
  z233 := Tryd.sizeOf352
  v233 := Tryd.zeroValue352
  g15 := by kernel_rfl
  g16 := by kernel_rfl
  g17 := by kernel_rfl
  g18 := by kernel_rfl
  g19 := by kernel_rfl
  t80 := Tryd.underlying38
  a80 := Tryd.isAgg38
  z80 := Tryd.sizeOf38
  v80 := Tryd.zeroValue38
  i0 := by kernel_rfl
  i2 := by kernel_rfl
  i3 := by kernel_rfl
  i4 := by kernel_rfl
  i5 := by kernel_rfl
  i9 := by kernel_rfl
  i20 := by kernel_rfl
  i21 := by kernel_rfl
  i37 := by kernel_rfl
  i46 := by kernel_rfl
  i51 := by kernel_rfl
  i53 := by kernel_rfl
  i75 := by kernel_rfl
  i76 := by kernel_rfl
  i80 := by kernel_rfl
  i85 := by kernel_rfl
  i127 := by kernel_rfl
  i143 := by kernel_rfl
  i145 := by kernel_rfl
  i167 := by kernel_rfl
  i168 := by kernel_rfl
  i171 := by kernel_rfl
  i173 := by kernel_rfl
  i175 := by kernel_rfl
  i210 := by kernel_rfl
  i212 := by kernel_rfl
  i232 := by kernel_rfl
  i233 := by kernel_rfl
  m15 := by kernel_rfl
  m16 := by kernel_rfl
  m17 := by kernel_rfl
  m18 := by kernel_rfl
  m19 := by kernel_rfl
  c0 := by kernel_rfl
  c2 := by kernel_rfl
  c3 := by kernel_rfl
  c4 := by kernel_rfl
  c5 := by kernel_rfl
  c9 := by kernel_rfl
  c20 := by kernel_rfl
  c21 := by kernel_rfl
  c37 := by kernel_rfl
  c46 := by kernel_rfl
  c51 := by kernel_rfl
  c53 := by kernel_rfl
  c75 := by kernel_rfl
  c76 := by kernel_rfl
  c80 := by kernel_rfl
  c85 := by kernel_rfl
  c127 := by kernel_rfl
  c143 := by kernel_rfl
  c145 := by kernel_rfl
  c167 := by kernel_rfl
  c168 := by kernel_rfl
  c171 := by kernel_rfl
  c173 := by kernel_rfl
  c175 := by kernel_rfl
  c210 := by kernel_rfl
  c212 := by kernel_rfl
  c213 := by kernel_rfl
  c232 := by kernel_rfl
  c233 := by kernel_rfl }
open Go.RowKit in
/-- strconv.Atoi, AT EVERY STRING THAT SPELLS AN int ('Lib.atoiAll .. = .ok v'; of whatever length: leading zeros count): v, AND NO ERROR. The world: as it was, or with the one new row that '[]byte(..)' lays. (LAID: no walk: one application.) -/
theorem Tryd.strconv_Atoi_ok (s : ByteArray) (hmax : s.size ≤ 9223372036854775806) (v : Int) (h : Lib.atoiAll s.data.toList = .ok v) (w : World) :
    Calls Tryd.prog 215 #[.string s] w fun e w' => e = .returned (.tuple #[.int .i64 v, .nilIface]) ∧ (w' = w ∨ ∃ t, w' = Lib.bytesWorld w 5 t) := Any.strconv_Atoi_ok Tryd.laysC172 s hmax v h w
open Go.RowKit in
/-- strconv.Atoi, AT EVERY STRING THAT IS NO DECIMAL NUMERAL ('.syntax'): 0, AND AN ERROR THAT IS NOT nil: a *NumError in a new block N: {Func: "Atoi", Num: s's bytes, Err: what the variable ErrSyntax holds}. Of what was there nothing has turned. (LAID: no walk: one application.) -/
theorem Tryd.strconv_Atoi_syntax (s : ByteArray) (hlim : s.size ≤ 281474976710656) (h : Lib.atoiAll s.data.toList = .syntax) (ev : Value) (w : World) (hv : w.cell? ⟨2, 0, none⟩ = some ev) (hev : ev = .nilIface ∨ ∃ te pe, ev = .iface te pe) :
    Calls Tryd.prog 215 #[.string s] w fun e w' => ∃ N, e = .returned (.tuple #[.int .i64 (0), .iface 323 (.pointer (some ⟨N, 0, none⟩))]) ∧ w.heap.size ≤ N ∧ w'.heap[N]? = some (.cells #[.string ⟨#[65, 116, 111, 105]⟩, .string s, ev] 344 (0, 0)) ∧ Below w.heap.size w w' := Any.strconv_Atoi_syntax Tryd.laysC172 s hlim h ev w hv hev
open Go.RowKit in
/-- strconv.Atoi, AT EVERY NUMERAL THAT NO int HOLDS ('.range'): THE GREATEST OR THE LEAST int, BY THE SIGN ('Lib.atoiSat'), AND AN ERROR THAT IS NOT nil: a *NumError in a new block N: {Func: "Atoi", Num: s's bytes, Err: what the variable ErrRange holds}. Of what was there nothing has turned. (LAID: no walk: one application.) -/
theorem Tryd.strconv_Atoi_range (s : ByteArray) (hlim : s.size ≤ 281474976710656) (h : Lib.atoiAll s.data.toList = .range) (ev : Value) (w : World) (hv : w.cell? ⟨3, 0, none⟩ = some ev) (hev : ev = .nilIface ∨ ∃ te pe, ev = .iface te pe) :
    Calls Tryd.prog 215 #[.string s] w fun e w' => ∃ N, e = .returned (.tuple #[.int .i64 (Lib.atoiSat s.data.toList), .iface 323 (.pointer (some ⟨N, 0, none⟩))]) ∧ w.heap.size ≤ N ∧ w'.heap[N]? = some (.cells #[.string ⟨#[65, 116, 111, 105]⟩, .string s, ev] 344 (0, 0)) ∧ Below w.heap.size w w' := Any.strconv_Atoi_range Tryd.laysC172 s hlim h ev w hv hev
open Go.RowKit in
theorem Tryd.strconv_Atoi_syntax_var (s : ByteArray) (hlim : s.size ≤ 281474976710656) (h : Lib.atoiAll s.data.toList = .syntax) (tp : TypeId) (p : Value) (w : World) (hvar : w.var? Tryd.prog "strconv.ErrSyntax" = some #[.iface tp p]) :
    Calls Tryd.prog 215 #[.string s] w fun e w' => ∃ N, e = .returned (.tuple #[.int .i64 0, .iface 323 (.pointer (some ⟨N, 0, none⟩))]) ∧ w.heap.size ≤ N ∧ w'.heap[N]? = some (.cells #[.string ⟨#[65, 116, 111, 105]⟩, .string s, .iface tp p] 344 (0, 0)) ∧ Below w.heap.size w w' := Any.strconv_Atoi_syntax_var Tryd.laysC172 s hlim h tp p w hvar
open Go.RowKit in
theorem Tryd.strconv_Atoi_range_var (s : ByteArray) (hlim : s.size ≤ 281474976710656) (h : Lib.atoiAll s.data.toList = .range) (tp : TypeId) (p : Value) (w : World) (hvar : w.var? Tryd.prog "strconv.ErrRange" = some #[.iface tp p]) :
    Calls Tryd.prog 215 #[.string s] w fun e w' => ∃ N, e = .returned (.tuple #[.int .i64 (Lib.atoiSat s.data.toList), .iface 323 (.pointer (some ⟨N, 0, none⟩))]) ∧ w.heap.size ≤ N ∧ w'.heap[N]? = some (.cells #[.string ⟨#[65, 116, 111, 105]⟩, .string s, .iface tp p] 344 (0, 0)) ∧ Below w.heap.size w w' := Any.strconv_Atoi_range_var Tryd.laysC172 s hlim h tp p w hvar
def Tryd.lays217_ren : Go.Shelf.Ren := ⟨fun | 217 => 239 | 266 => 252 | n => n, fun | 9 => 9 | 5 => 5 | 3 => 3 | n => n, fun | n => n⟩
theorem Tryd.lays217 : Go.Proofs.Lays.n217 Tryd.prog Tryd.lays217_ren := {
  mixed := by kernel_rfl
  f217 := Tryd.func239.trans (congrArg some (by kernel_rfl))
  f266 := Tryd.func252.trans (congrArg some (by kernel_rfl))
  t3 := Tryd.underlying3
  a3 := Tryd.isAgg3
  z3 := Tryd.sizeOf3
  v3 := Tryd.zeroValue3
  t5 := Tryd.underlying5
  a5 := Tryd.isAgg5
  z5 := Tryd.sizeOf5
  v5 := Tryd.zeroValue5
  t9 := Tryd.underlying9
  a9 := Tryd.isAgg9
  z9 := Tryd.sizeOf9
  v9 := Tryd.zeroValue9 }
open Go.RowKit Go.Lib in
/-- internal/stringslite.IndexByte (what strings.IndexByte calls): IT RETURNS 'Lib.indexByte s c'; the world is as it was. (LAID: no walk: one application.) -/
theorem Tryd.stringslite_IndexByte (s : ByteArray) (c : Int) (w : World) :
    Calls Tryd.prog 239 #[.string s, .int .u8 c] w fun e w' => e = .returned (.int .i64 (Lib.indexByte s.data.toList c.toNat.toUInt8)) ∧ w' = w := Any.stringslite_IndexByte Tryd.lays217 s c w
def Tryd.lays206_ren : Go.Shelf.Ren := ⟨fun | 206 => 258 | n => n, fun | 9 => 9 | 4 => 4 | 3 => 3 | n => n, fun | n => n⟩
theorem Tryd.lays206 : Go.Proofs.Lays.n206 Tryd.prog Tryd.lays206_ren := {
  mixed := by kernel_rfl
  f206 := Tryd.func258.trans (congrArg some (by kernel_rfl))
  t3 := Tryd.underlying3
  a3 := Tryd.isAgg3
  z3 := Tryd.sizeOf3
  v3 := Tryd.zeroValue3
  t4 := Tryd.underlying4
  a4 := Tryd.isAgg4
  z4 := Tryd.sizeOf4
  v4 := Tryd.zeroValue4
  t9 := Tryd.underlying9
  a9 := Tryd.isAgg9
  z9 := Tryd.sizeOf9
  v9 := Tryd.zeroValue9 }
open Go.RowKit Go.Lib in
/-- internal/stringslite.HasPrefix (what strings.HasPrefix calls). (LAID: no walk: one application.) -/
theorem Tryd.stringslite_HasPrefix (s p : ByteArray) (w : World) :
    Calls Tryd.prog 258 #[.string s, .string p] w fun e w' => e = .returned (.bool (Lib.hasPrefix s.data.toList p.data.toList)) ∧ w' = w := Any.stringslite_HasPrefix Tryd.lays206 s p w
def Tryd.lays264_ren : Go.Shelf.Ren := ⟨fun | 264 => 260 | n => n, fun | 53 => 315 | 46 => 308 | n => n, fun | n => n⟩
theorem Tryd.lays264 : Go.Proofs.Lays.n264 Tryd.prog Tryd.lays264_ren := {
  mixed := by kernel_rfl
  f264 := Tryd.func260.trans (congrArg some (by kernel_rfl))
  t46 := Tryd.underlying308
  a46 := Tryd.isAgg308
  z46 := Tryd.sizeOf308
  v46 := Tryd.zeroValue308
  t53 := Tryd.underlying315
  a53 := Tryd.isAgg315
  z53 := Tryd.sizeOf315
  v53 := Tryd.zeroValue315 }
open Go.RowKit Go.Lib in
theorem Tryd.bits_Mul64 (x y : Nat) (hx : x < 18446744073709551616) (hy : y < 18446744073709551616) (w : World) :
    Calls Tryd.prog 260 #[.int .u64 x, .int .u64 y] w fun e w' => e = .returned (.tuple #[.int .u64 ((x * y / 18446744073709551616 : Nat) : Int), .int .u64 ((x * y % 18446744073709551616 : Nat) : Int)]) ∧ w' = w := Any.bits_Mul64 Tryd.lays264 x y hx hy w
def Tryd.lays212_ren : Go.Shelf.Ren := ⟨fun | 212 => 244 | 263 => 259 | 264 => 260 | n => n, fun | 46 => 308 | 51 => 327 | 146 => 328 | 53 => 315 | 148 => 330 | n => n, fun | n => n⟩
theorem Tryd.lays212 : Go.Proofs.Lays.n212 Tryd.prog Tryd.lays212_ren := {
  mixed := by kernel_rfl
  f212 := Tryd.func244.trans (congrArg some (by kernel_rfl))
  f263 := Tryd.func259.trans (congrArg some (by kernel_rfl))
  f264 := Tryd.func260.trans (congrArg some (by kernel_rfl))
  t46 := Tryd.underlying308
  a46 := Tryd.isAgg308
  z46 := Tryd.sizeOf308
  v46 := Tryd.zeroValue308
  t51 := Tryd.underlying327
  a51 := Tryd.isAgg327
  z51 := Tryd.sizeOf327
  v51 := Tryd.zeroValue327
  t53 := Tryd.underlying315
  a53 := Tryd.isAgg315
  z53 := Tryd.sizeOf315
  v53 := Tryd.zeroValue315
  t146 := Tryd.underlying328
  a146 := Tryd.isAgg328
  z146 := Tryd.sizeOf328
  v146 := Tryd.zeroValue328
  t148 := Tryd.underlying330
  a148 := Tryd.isAgg330
  z148 := Tryd.sizeOf330
  v148 := Tryd.zeroValue330 }
open Go.RowKit Go.Lib in
/-- math/bits.Mul: "Mul returns the full-width product of x and y": on a machine of 64 bits: Mul64's. (LAID: no walk: one application.) -/
theorem Tryd.bits_Mul (x y : Nat) (hx : x < 18446744073709551616) (hy : y < 18446744073709551616) (w : World) :
    Calls Tryd.prog 244 #[.int .u64 x, .int .u64 y] w fun e w' => e = .returned (.tuple #[.int .u64 ((x * y / 18446744073709551616 : Nat) : Int), .int .u64 ((x * y % 18446744073709551616 : Nat) : Int)]) ∧ w' = w := Any.bits_Mul Tryd.lays212 x y hx hy w
def Tryd.lays108_ren : Go.Shelf.Ren := ⟨fun | 108 => 247 | n => n, fun | 28 => 22 | 3 => 3 | 0 => 0 | 4 => 4 | n => n, fun | n => n⟩
theorem Tryd.lays108 : Go.Proofs.Lays.n108 Tryd.prog Tryd.lays108_ren := {
  mixed := by kernel_rfl
  f108 := Tryd.func247.trans (congrArg some (by kernel_rfl))
  t0 := Tryd.underlying0
  a0 := Tryd.isAgg0
  z0 := Tryd.sizeOf0
  v0 := Tryd.zeroValue0
  t3 := Tryd.underlying3
  a3 := Tryd.isAgg3
  z3 := Tryd.sizeOf3
  v3 := Tryd.zeroValue3
  t4 := Tryd.underlying4
  a4 := Tryd.isAgg4
  z4 := Tryd.sizeOf4
  v4 := Tryd.zeroValue4
  t28 := Tryd.underlying22
  a28 := Tryd.isAgg22
  z28 := Tryd.sizeOf22
  v28 := Tryd.zeroValue22 }
open Go.Lib in
/-- slices.Index at []int: "Index returns the index of the first occurrence of v in s, or -1 if not present.": IT RETURNS 'Lib.idxOf (the elements) v'; the world is as it was. 'zs': what the cells behind the slice's address hold (its spare capacity too, if you have it); 'zs.take n': its elements. (LAID: no walk: one application.) -/
theorem Tryd.slices_Index_int (b off n c : Nat) (zs : List Int) (x : Int) (w : World) (hz : n ≤ zs.length) (hbig : n ≤ 9223372036854775807) (hc : ∀ j, j < zs.length → w.cell? ⟨b, off + j, none⟩ = some (.int .i64 (zs.getD j 0))) :
    Calls Tryd.prog 247 #[.slice (some ⟨b, off, none⟩) n c, .int .i64 x] w fun e w' => e = .returned (.int .i64 (Lib.idxOf (zs.take n) x)) ∧ w' = w := Any.slices_Index_int Tryd.lays108 b off n c zs x w hz hbig hc
open Go.Lib in
/-- The same at a slice of length 0, a nil one too: no cell is known, none is asked for. (LAID: no walk: one application.) -/
theorem Tryd.slices_Index_int_empty (a : Option Addr) (c : Nat) (x : Int) (w : World) :
    Calls Tryd.prog 247 #[.slice a 0 c, .int .i64 x] w fun e w' => e = .returned (.int .i64 (Lib.idxOf [] x)) ∧ w' = w := Any.slices_Index_int_empty Tryd.lays108 a c x w
def Tryd.lays107_ren : Go.Shelf.Ren := ⟨fun | 107 => 227 | 108 => 247 | n => n, fun | 28 => 22 | 3 => 3 | 4 => 4 | 0 => 0 | n => n, fun | n => n⟩
theorem Tryd.lays107 : Go.Proofs.Lays.n107 Tryd.prog Tryd.lays107_ren := {
  mixed := by kernel_rfl
  f107 := Tryd.func227.trans (congrArg some (by kernel_rfl))
  f108 := Tryd.func247.trans (congrArg some (by kernel_rfl))
  t0 := Tryd.underlying0
  a0 := Tryd.isAgg0
  z0 := Tryd.sizeOf0
  v0 := Tryd.zeroValue0
  t3 := Tryd.underlying3
  a3 := Tryd.isAgg3
  z3 := Tryd.sizeOf3
  v3 := Tryd.zeroValue3
  t4 := Tryd.underlying4
  a4 := Tryd.isAgg4
  z4 := Tryd.sizeOf4
  v4 := Tryd.zeroValue4
  t28 := Tryd.underlying22
  a28 := Tryd.isAgg22
  z28 := Tryd.sizeOf22
  v28 := Tryd.zeroValue22 }
open Go.Lib in
/-- slices.Contains at []int: "Contains reports whether v is present in s.": IT RETURNS 'elements.contains v'; the world is as it was. ITS CALLEE slices.Index IS MET BY ITS OWN CONTRACT OFF THE SHELF (lay that first): no loop is walked here. (LAID: no walk: one application.) -/
theorem Tryd.slices_Contains_int (b off n c : Nat) (zs : List Int) (x : Int) (w : World) (hz : n ≤ zs.length) (hbig : n ≤ 9223372036854775807) (hc : ∀ j, j < zs.length → w.cell? ⟨b, off + j, none⟩ = some (.int .i64 (zs.getD j 0))) :
    Calls Tryd.prog 227 #[.slice (some ⟨b, off, none⟩) n c, .int .i64 x] w fun e w' => e = .returned (.bool ((zs.take n).contains x)) ∧ w' = w := Any.slices_Contains_int Tryd.lays107 b off n c zs x w hz hbig hc
open Go.Lib in
/-- The same at a slice of length 0, a nil one too. (LAID: no walk: one application.) -/
theorem Tryd.slices_Contains_int_empty (a : Option Addr) (c : Nat) (x : Int) (w : World) :
    Calls Tryd.prog 227 #[.slice a 0 c, .int .i64 x] w fun e w' => e = .returned (.bool false) ∧ w' = w := Any.slices_Contains_int_empty Tryd.lays107 a c x w
def Tryd.laysNm215_ren : Go.Shelf.Ren := ⟨fun | 15 => 204 | n => n, fun | 22 => 22 | 3 => 3 | 4 => 4 | n => n, fun | n => n⟩
theorem Tryd.laysNm215 : Go.Proofs.Lays2.n15 Tryd.prog Tryd.laysNm215_ren := {
  mixed := by kernel_rfl
  f15 := Tryd.func204.trans (congrArg some (by kernel_rfl))
  t3 := Tryd.underlying3
  a3 := Tryd.isAgg3
  z3 := Tryd.sizeOf3
  v3 := Tryd.zeroValue3
  t4 := Tryd.underlying4
  a4 := Tryd.isAgg4
  z4 := Tryd.sizeOf4
  v4 := Tryd.zeroValue4
  t22 := Tryd.underlying22
  a22 := Tryd.isAgg22
  z22 := Tryd.sizeOf22
  v22 := Tryd.zeroValue22
  i3 := by kernel_rfl }
open Go.RowKit Go.Lib in
/-- slices.Clone at []int: "Clone returns a copy of the slice. The elements are copied using assignment, so this is a shallow clone. The result may have additional unused capacity. The result preserves the nilness of s.": OF A SLICE THAT IS NOT nil IT RETURNS A SLICE THAT IS NOT nil, OF THE SAME ELEMENTS, IN MEMORY OF THE CALL's OWN: in the how-to's words (6f): 'w'.ownsRow B e 1 v' n cells': v' begins at the head of a row among the blocks from B on (B: the heap's size at the call), not frozen, whose first cells are the elements · 'Below B w w'': below B all is as it was. The capacity is whatever the run-time gives. 'zs': what the cells behind the slice's address hold; 'zs.take n': its elements. (LAID: no walk: one application.) -/
theorem Tryd.slices_Clone_int (b off n c : Nat) (zs : List Int) (w : World) (hz : n ≤ zs.length) (hbig : n * 8 ≤ 140737488355328) (hc : ∀ j, j < zs.length → w.cell? ⟨b, off + j, none⟩ = some (.int .i64 (zs.getD j 0))) :
    Calls Tryd.prog 204 #[.slice (some ⟨b, off, none⟩) n c] w fun e w' => ∃ v', e = .returned v' ∧ w'.ownsRow w.heap.size 3 1 v' n ((zs.take n).map (Value.int .i64)) ∧ v' ≠ .slice none 0 0 ∧ Below w.heap.size w w' := Any.slices_Clone_int Tryd.laysNm215 b off n c zs w hz hbig hc
open Go.RowKit Go.Lib in
/-- The same at nil: nil comes back; the world is as it was. (LAID: no walk: one application.) -/
theorem Tryd.slices_Clone_int_nil (n c : Nat) (w : World) :
    Calls Tryd.prog 204 #[.slice none n c] w fun e w' => e = .returned (.slice none 0 0) ∧ w' = w := Any.slices_Clone_int_nil Tryd.laysNm215 n c w
open Go.RowKit Go.Lib in
/-- The same at a slice of length 0 that is not nil, WHATEVER ITS ADDRESS (no cell is asked for): a slice that is not nil and owns nothing comes back. (LAID: no walk: one application.) -/
theorem Tryd.slices_Clone_int_zero (a : Addr) (c : Nat) (w : World) :
    Calls Tryd.prog 204 #[.slice (some a) 0 c] w fun e w' => ∃ v', e = .returned v' ∧ w'.ownsRow w.heap.size 3 1 v' 0 [] ∧ v' ≠ .slice none 0 0 ∧ Below w.heap.size w w' := Any.slices_Clone_int_zero Tryd.laysNm215 a c w
end Go.Proofs
