import Derived.Shelf.Strconv.Itoa3
import Derived.Shelf.Pu.ParseUintPublic10
import Derived.Shelf.Bits.Mul64
import Derived.Shelf.Strings.OnBuilder
import Derived.Test.YtgmleamhjnlknaaGreatDoorProg
import Derived.Lib.ParseIntB
import Derived.Lib.Join
import Derived.Test.YtgmleamhjnlknaaGreatDoorY2
set_option linter.unusedVariables false
set_option linter.unusedSimpArgs false
/-
  DERIVED: THE SHELF's CONTRACTS AT THIS DUMP, IN PLAIN WORDS (tools/lay-plain.mjs out of 'TryzShelf.lean', which tools/lay-shelf.mjs wrote): THE SAME DECLARATIONS UNDER THE SAME NAMES: 'import', 'namespace', 'open', 'def', 'theorem' AND NOTHING ELSE: no command of the shelf's: FOR A HAND-IN. Each laying: the table of numbers ('.._ren') and one theorem, a field a fact of the dump's own or the kernel's comparison; each contract: ONE APPLICATION.
-/
namespace Go.Proofs
open Go.Shelf
def Tryz.lays156_ren : Go.Shelf.Ren := ⟨fun | 156 => 207 | 165 => 227 | 166 => 228 | 169 => 230 | 240 => 240 | 241 => 241 | 276 => 248 | 277 => 249 | n => n, fun | 31 => 254 | 9 => 9 | 3 => 3 | 4 => 4 | 0 => 0 | 20 => 20 | 72 => 275 | 76 => 277 | 70 => 273 | 37 => 269 | 75 => 233 | 127 => 286 | 164 => 300 | 5 => 5 | 80 => 209 | n => n, fun | n => n⟩
theorem Tryz.lays156 : Go.Proofs.Lays.n156 Tryz.prog Tryz.lays156_ren := {
  mixed := by kernel_rfl
  f156 := Tryz.func207.trans (congrArg some (by kernel_rfl))
  f165 := Tryz.func227.trans (congrArg some (by kernel_rfl))
  f166 := Tryz.func228.trans (congrArg some (by kernel_rfl))
  f169 := Tryz.func230.trans (congrArg some (by kernel_rfl))
  f240 := Tryz.func240.trans (congrArg some (by kernel_rfl))
  f241 := Tryz.func241.trans (congrArg some (by kernel_rfl))
  f276 := Tryz.func248.trans (congrArg some (by kernel_rfl))
  f277 := Tryz.func249.trans (congrArg some (by kernel_rfl))
  t0 := Tryz.underlying0
  a0 := Tryz.isAgg0
  z0 := Tryz.sizeOf0
  v0 := Tryz.zeroValue0
  t3 := Tryz.underlying3
  a3 := Tryz.isAgg3
  z3 := Tryz.sizeOf3
  v3 := Tryz.zeroValue3
  t4 := Tryz.underlying4
  a4 := Tryz.isAgg4
  z4 := Tryz.sizeOf4
  v4 := Tryz.zeroValue4
  t9 := Tryz.underlying9
  a9 := Tryz.isAgg9
  z9 := Tryz.sizeOf9
  v9 := Tryz.zeroValue9
  t20 := Tryz.underlying20
  a20 := Tryz.isAgg20
  z20 := Tryz.sizeOf20
  v20 := Tryz.zeroValue20
  t31 := Tryz.underlying254
  a31 := Tryz.isAgg254
  z31 := Tryz.sizeOf254
  v31 := Tryz.zeroValue254
  t37 := Tryz.underlying269
  a37 := Tryz.isAgg269
  z37 := Tryz.sizeOf269
  v37 := Tryz.zeroValue269
  t70 := Tryz.underlying273
  a70 := Tryz.isAgg273
  z70 := Tryz.sizeOf273
  v70 := Tryz.zeroValue273
  t72 := Tryz.underlying275
  a72 := Tryz.isAgg275
  z72 := Tryz.sizeOf275
  v72 := Tryz.zeroValue275
  t75 := Tryz.underlying233
  a75 := Tryz.isAgg233
  z75 := Tryz.sizeOf233
  v75 := Tryz.zeroValue233
  t76 := Tryz.underlying277
  a76 := Tryz.isAgg277
  z76 := Tryz.sizeOf277
  v76 := Tryz.zeroValue277
  t127 := Tryz.underlying286
  a127 := Tryz.isAgg286
  z127 := Tryz.sizeOf286
  v127 := Tryz.zeroValue286
  t164 := Tryz.underlying300
  a164 := Tryz.isAgg300
  z164 := Tryz.sizeOf300
  v164 := Tryz.zeroValue300 }
theorem Tryz.Builder_Extra_156 : Builder.Extra Tryz.prog Tryz.lays156_ren := {
  sizeBuilder := by kernel_rfl
  liesBuilder := by kernel_rfl
  t5 := Tryz.underlying5
  a5 := Tryz.isAgg5
  z5 := Tryz.sizeOf5
  v5 := Tryz.zeroValue5
  infoByte := by kernel_rfl
  cellsByte := by kernel_rfl
  sizeByte := by kernel_rfl
  neB5 := by decide }
open Go.RowKit in
/-- No element: the empty string; the world is as it was. (Whatever the slice's address and capacity: a nil slice too.) (LAID: no walk: one application.) -/
theorem Tryz.strings_Join_none (a : Option Addr) (c : Nat) (sep : ByteArray) (w : World) :
    Calls Tryz.prog 207 #[.slice a 0 c, .string sep] w fun e w' => e = .returned (.string ⟨#[]⟩) ∧ w' = w := Any.strings_Join_none Tryz.lays156 Tryz.Builder_Extra_156 a c sep w
open Go.RowKit in
/-- strings.Join: "Join concatenates the elements of its first argument to create a single string. The separator string sep is placed between elements in the resulting string.": HOWEVER MANY ELEMENTS. Below the heap's end the world is as it was. (LAID: no walk: one application.) -/
theorem Tryz.strings_Join (bk o c : Nat) (xs : List ByteArray) (sep : ByteArray) (w : World) (hcells : ∀ (j : Nat) x, xs[j]? = some x → w.cell? ⟨bk, o + j, none⟩ = some (.string x)) (hbk : bk < w.heap.size) (hN : xs.length ≤ 140737488355328) (hcap : xs.length ≤ c) (hlen : (Lib.join (xs.map (·.data.toList)) sep.data.toList).length ≤ 140737488355328) :
    Calls Tryz.prog 207 #[.slice (some ⟨bk, o, none⟩) xs.length c, .string sep] w fun e w' => e = .returned (.string ⟨(Lib.join (xs.map (·.data.toList)) sep.data.toList).toArray⟩) ∧ Below w.heap.size w w' := Any.strings_Join Tryz.lays156 Tryz.Builder_Extra_156 bk o c xs sep w hcells hbk hN hcap hlen
def Tryz.laysM171_ren : Go.Shelf.Ren := ⟨fun | 171 => 204 | 243 => 226 | 246 => 239 | 283 => 244 | 284 => 245 | 285 => 246 | 286 => 247 | 129 => 251 | 317 => 250 | 318 => 252 | 319 => 253 | 320 => 254 | 337 => 255 | 338 => 256 | n => n, fun | 3 => 3 | 9 => 9 | 2 => 2 | 4 => 4 | 171 => 295 | 0 => 0 | 53 => 145 | 37 => 269 | 5 => 5 | 173 => 298 | 212 => 304 | 51 => 193 | 20 => 20 | 213 => 305 | 46 => 98 | 232 => 308 | 233 => 309 | n => n, fun | 17 => 5 | 18 => 6 | 19 => 7 | n => n⟩
theorem Tryz.laysM171 : Go.Proofs.LaysM.n171 Tryz.prog Tryz.laysM171_ren := {
  mixed := by kernel_rfl
  f129 := Tryz.func251.trans (congrArg some (by kernel_rfl))
  f171 := Tryz.func204.trans (congrArg some (by kernel_rfl))
  f243 := Tryz.func226.trans (congrArg some (by kernel_rfl))
  f246 := Tryz.func239.trans (congrArg some (by kernel_rfl))
  f283 := Tryz.func244.trans (congrArg some (by kernel_rfl))
  f284 := Tryz.func245.trans (congrArg some (by kernel_rfl))
  f285 := Tryz.func246.trans (congrArg some (by kernel_rfl))
  f286 := Tryz.func247.trans (congrArg some (by kernel_rfl))
  f317 := Tryz.func250.trans (congrArg some (by kernel_rfl))
  f318 := Tryz.func252.trans (congrArg some (by kernel_rfl))
  f319 := Tryz.func253.trans (congrArg some (by kernel_rfl))
  f320 := Tryz.func254.trans (congrArg some (by kernel_rfl))
  f337 := Tryz.func255.trans (congrArg some (by kernel_rfl))
  f338 := Tryz.func256.trans (congrArg some (by kernel_rfl))
  t0 := Tryz.underlying0
  a0 := Tryz.isAgg0
  z0 := Tryz.sizeOf0
  v0 := Tryz.zeroValue0
  t2 := Tryz.underlying2
  a2 := Tryz.isAgg2
  z2 := Tryz.sizeOf2
  v2 := Tryz.zeroValue2
  t3 := Tryz.underlying3
  a3 := Tryz.isAgg3
  z3 := Tryz.sizeOf3
  v3 := Tryz.zeroValue3
  t4 := Tryz.underlying4
  a4 := Tryz.isAgg4
  z4 := Tryz.sizeOf4
  v4 := Tryz.zeroValue4
  t5 := Tryz.underlying5
  a5 := Tryz.isAgg5
  z5 := Tryz.sizeOf5
  v5 := Tryz.zeroValue5
  t9 := Tryz.underlying9
  a9 := Tryz.isAgg9
  z9 := Tryz.sizeOf9
  v9 := Tryz.zeroValue9
  t20 := Tryz.underlying20
  a20 := Tryz.isAgg20
  z20 := Tryz.sizeOf20
  v20 := Tryz.zeroValue20
  t37 := Tryz.underlying269
  a37 := Tryz.isAgg269
  z37 := Tryz.sizeOf269
  v37 := Tryz.zeroValue269
  t46 := Tryz.underlying98
  a46 := Tryz.isAgg98
  z46 := Tryz.sizeOf98
  v46 := Tryz.zeroValue98
  t51 := Tryz.underlying193
  a51 := Tryz.isAgg193
  z51 := Tryz.sizeOf193
  v51 := Tryz.zeroValue193
  t53 := Tryz.underlying145
  a53 := Tryz.isAgg145
  z53 := Tryz.sizeOf145
  v53 := Tryz.zeroValue145
  t171 := Tryz.underlying295
  a171 := Tryz.isAgg295
  z171 := Tryz.sizeOf295
  v171 := Tryz.zeroValue295
  t173 := Tryz.underlying298
  a173 := Tryz.isAgg298
  z173 := Tryz.sizeOf298
  v173 := Tryz.zeroValue298
  t212 := Tryz.underlying304
  a212 := Tryz.isAgg304
  z212 := Tryz.sizeOf304
  v212 := Tryz.zeroValue304
  t213 := Tryz.underlying305
  a213 := Tryz.isAgg305
  z213 := Tryz.sizeOf305
  t232 := Tryz.underlying308
  a232 := Tryz.isAgg308
  z232 := Tryz.sizeOf308
  v232 := Tryz.zeroValue308
  t233 := Tryz.underlying309
  a233 := Tryz.isAgg309
  z233 := Tryz.sizeOf309
  v233 := Tryz.zeroValue309
  g17 := by kernel_rfl
  g18 := by kernel_rfl
  g19 := by kernel_rfl
  i0 := by kernel_rfl
  i2 := by kernel_rfl
  i3 := by kernel_rfl
  i4 := by kernel_rfl
  i5 := by kernel_rfl
  i9 := by kernel_rfl
  i20 := by kernel_rfl
  i37 := by kernel_rfl
  i46 := by kernel_rfl
  i51 := by kernel_rfl
  i53 := by kernel_rfl
  i171 := by kernel_rfl
  i173 := by kernel_rfl
  i212 := by kernel_rfl
  i232 := by kernel_rfl
  i233 := by kernel_rfl
  m17 := by kernel_rfl
  m18 := by kernel_rfl
  m19 := by kernel_rfl }
open Go.RowKit Go.Sort Go.Lib in
/-- strconv.Itoa: "Itoa is equivalent to FormatInt(int64(i), 10).": i's DECIMAL NUMERAL ('Lib.itoa': a '-' where i is negative, then the digits), FOR EVERY int. The world behind the call: the world before it, new blocks behind the heap (the library's 'var a [24]byte'), draws. (LAID: no walk: one application.) -/
theorem Tryz.strconv_Itoa (n : Int) (h0 : -9223372036854775808 ≤ n) (h1 : n ≤ 9223372036854775807) (w : World) (htab : Lib.TabIs Tryz.prog w "internal/strconv.uint64pow10" .u64 Lib.pow10Tab) :
    Calls Tryz.prog 204 #[.int .i64 n] w fun e w' => e = .returned (.string ⟨(Lib.itoa n).toArray⟩) ∧ ∃ k os, w' = grow (w.drewN k) os := Any.strconv_Itoa Tryz.laysM171 n h0 h1 w htab
def Tryz.laysPu14_ren : Go.Shelf.Ren := ⟨fun | 14 => 183 | 16 => 202 | 17 => 203 | 19 => 220 | 20 => 221 | 21 => 222 | 22 => 223 | 23 => 224 | 24 => 225 | 25 => 237 | 27 => 204 | 26 => 238 | 28 => 226 | 29 => 239 | 30 => 244 | 31 => 245 | 32 => 246 | 33 => 247 | 35 => 251 | 34 => 250 | 36 => 252 | 37 => 253 | 38 => 254 | 39 => 255 | 40 => 256 | n => n, fun | 9 => 9 | 3 => 3 | 22 => 145 | 24 => 233 | 25 => 234 | 4 => 4 | 34 => 267 | 5 => 5 | 36 => 98 | 37 => 269 | 0 => 0 | 39 => 270 | 21 => 21 | 44 => 283 | 47 => 286 | 50 => 294 | 48 => 292 | 2 => 2 | 52 => 295 | 55 => 298 | 59 => 304 | 60 => 193 | 20 => 20 | 61 => 305 | 65 => 308 | 66 => 309 | 67 => 209 | n => n, fun | 0 => 1 | 1 => 2 | 2 => 5 | 3 => 6 | 4 => 7 | n => n⟩
theorem Tryz.laysPu14 : Go.Proofs.LaysPu.n14 Tryz.prog Tryz.laysPu14_ren := {
  mixed := by kernel_rfl
  f14 := Tryz.func183.trans (congrArg some (by kernel_rfl))
  f16 := Tryz.func202.trans (congrArg some (by kernel_rfl))
  f17 := Tryz.func203.trans (congrArg some (by kernel_rfl))
  f19 := Tryz.func220.trans (congrArg some (by kernel_rfl))
  f20 := Tryz.func221.trans (congrArg some (by kernel_rfl))
  f21 := Tryz.func222.trans (congrArg some (by kernel_rfl))
  f22 := Tryz.func223.trans (congrArg some (by kernel_rfl))
  f23 := Tryz.func224.trans (congrArg some (by kernel_rfl))
  f24 := Tryz.func225.trans (congrArg some (by kernel_rfl))
  f25 := Tryz.func237.trans (congrArg some (by kernel_rfl))
  f26 := Tryz.func238.trans (congrArg some (by kernel_rfl))
  f27 := Tryz.func204.trans (congrArg some (by kernel_rfl))
  f28 := Tryz.func226.trans (congrArg some (by kernel_rfl))
  f29 := Tryz.func239.trans (congrArg some (by kernel_rfl))
  f30 := Tryz.func244.trans (congrArg some (by kernel_rfl))
  f31 := Tryz.func245.trans (congrArg some (by kernel_rfl))
  f32 := Tryz.func246.trans (congrArg some (by kernel_rfl))
  f33 := Tryz.func247.trans (congrArg some (by kernel_rfl))
  f34 := Tryz.func250.trans (congrArg some (by kernel_rfl))
  f35 := Tryz.func251.trans (congrArg some (by kernel_rfl))
  f36 := Tryz.func252.trans (congrArg some (by kernel_rfl))
  f37 := Tryz.func253.trans (congrArg some (by kernel_rfl))
  f38 := Tryz.func254.trans (congrArg some (by kernel_rfl))
  f39 := Tryz.func255.trans (congrArg some (by kernel_rfl))
  f40 := Tryz.func256.trans (congrArg some (by kernel_rfl))
  t0 := Tryz.underlying0
  a0 := Tryz.isAgg0
  z0 := Tryz.sizeOf0
  v0 := Tryz.zeroValue0
  i0 := by kernel_rfl
  t2 := Tryz.underlying2
  a2 := Tryz.isAgg2
  z2 := Tryz.sizeOf2
  v2 := Tryz.zeroValue2
  i2 := by kernel_rfl
  t3 := Tryz.underlying3
  a3 := Tryz.isAgg3
  z3 := Tryz.sizeOf3
  v3 := Tryz.zeroValue3
  i3 := by kernel_rfl
  t4 := Tryz.underlying4
  a4 := Tryz.isAgg4
  z4 := Tryz.sizeOf4
  v4 := Tryz.zeroValue4
  i4 := by kernel_rfl
  t5 := Tryz.underlying5
  a5 := Tryz.isAgg5
  z5 := Tryz.sizeOf5
  v5 := Tryz.zeroValue5
  i5 := by kernel_rfl
  t9 := Tryz.underlying9
  a9 := Tryz.isAgg9
  z9 := Tryz.sizeOf9
  v9 := Tryz.zeroValue9
  i9 := by kernel_rfl
  t20 := Tryz.underlying20
  a20 := Tryz.isAgg20
  z20 := Tryz.sizeOf20
  v20 := Tryz.zeroValue20
  i20 := by kernel_rfl
  t21 := Tryz.underlying21
  a21 := Tryz.isAgg21
  z21 := Tryz.sizeOf21
  v21 := Tryz.zeroValue21
  i21 := by kernel_rfl
  t22 := Tryz.underlying145
  a22 := Tryz.isAgg145
  z22 := Tryz.sizeOf145
  v22 := Tryz.zeroValue145
  i22 := by kernel_rfl
  t24 := Tryz.underlying233
  a24 := Tryz.isAgg233
  z24 := Tryz.sizeOf233
  v24 := Tryz.zeroValue233
  i24 := by kernel_rfl
  t25 := Tryz.underlying234
  a25 := Tryz.isAgg234
  z25 := Tryz.sizeOf234
  v25 := Tryz.zeroValue234
  i25 := by kernel_rfl
  t34 := Tryz.underlying267
  a34 := Tryz.isAgg267
  z34 := Tryz.sizeOf267
  v34 := Tryz.zeroValue267
  i34 := by kernel_rfl
  c34 := by kernel_rfl
  t36 := Tryz.underlying98
  a36 := Tryz.isAgg98
  z36 := Tryz.sizeOf98
  v36 := Tryz.zeroValue98
  i36 := by kernel_rfl
  t37 := Tryz.underlying269
  a37 := Tryz.isAgg269
  z37 := Tryz.sizeOf269
  v37 := Tryz.zeroValue269
  i37 := by kernel_rfl
  t39 := Tryz.underlying270
  a39 := Tryz.isAgg270
  z39 := Tryz.sizeOf270
  v39 := Tryz.zeroValue270
  i39 := by kernel_rfl
  t44 := Tryz.underlying283
  a44 := Tryz.isAgg283
  z44 := Tryz.sizeOf283
  v44 := Tryz.zeroValue283
  i44 := by kernel_rfl
  t47 := Tryz.underlying286
  a47 := Tryz.isAgg286
  z47 := Tryz.sizeOf286
  v47 := Tryz.zeroValue286
  i47 := by kernel_rfl
  t48 := Tryz.underlying292
  a48 := Tryz.isAgg292
  z48 := Tryz.sizeOf292
  v48 := Tryz.zeroValue292
  i48 := by kernel_rfl
  t50 := Tryz.underlying294
  a50 := Tryz.isAgg294
  z50 := Tryz.sizeOf294
  v50 := Tryz.zeroValue294
  i50 := by kernel_rfl
  t52 := Tryz.underlying295
  a52 := Tryz.isAgg295
  z52 := Tryz.sizeOf295
  v52 := Tryz.zeroValue295
  i52 := by kernel_rfl
  t55 := Tryz.underlying298
  a55 := Tryz.isAgg298
  z55 := Tryz.sizeOf298
  v55 := Tryz.zeroValue298
  i55 := by kernel_rfl
  t59 := Tryz.underlying304
  a59 := Tryz.isAgg304
  z59 := Tryz.sizeOf304
  v59 := Tryz.zeroValue304
  i59 := by kernel_rfl
  t60 := Tryz.underlying193
  a60 := Tryz.isAgg193
  z60 := Tryz.sizeOf193
  v60 := Tryz.zeroValue193
  i60 := by kernel_rfl
  t61 := Tryz.underlying305
  a61 := Tryz.isAgg305
  z61 := Tryz.sizeOf305
  t65 := Tryz.underlying308
  a65 := Tryz.isAgg308
  z65 := Tryz.sizeOf308
  v65 := Tryz.zeroValue308
  i65 := by kernel_rfl
  t66 := Tryz.underlying309
  a66 := Tryz.isAgg309
  z66 := Tryz.sizeOf309
  v66 := Tryz.zeroValue309
  i66 := by kernel_rfl
  t67 := Tryz.underlying209
  a67 := Tryz.isAgg209
  z67 := Tryz.sizeOf209
  v67 := Tryz.zeroValue209
  i67 := by kernel_rfl
  g0 := by kernel_rfl
  m0 := by kernel_rfl
  g1 := by kernel_rfl
  m1 := by kernel_rfl
  g2 := by kernel_rfl
  m2 := by kernel_rfl
  g3 := by kernel_rfl
  m3 := by kernel_rfl
  g4 := by kernel_rfl
  m4 := by kernel_rfl }
open Go.RowKit in
/-- strconv.ParseUint(s, 10, 32), AT EVERY STRING THAT SPELLS A uint32 ('Lib.parseUintB 32 s.data.toList = .ok u'): u, AND NO ERROR. (LAID: no walk: one application.) -/
theorem Tryz.strconv_ParseUint_10_at32_ok (s : ByteArray) (hmax : s.size ≤ 9223372036854775806) (u : Nat) (h : Lib.parseUintB 32 s.data.toList = .ok u) (w : World) :
    Calls Tryz.prog 183 #[.string s, .int .i64 10, .int .i64 32] w fun e w' => e = .returned (.tuple #[.int .u64 u, .nilIface]) ∧ (w' = w ∨ w' = Lib.bytesWorld w 5 s) := Any.strconv_ParseUint_10_at32_ok Tryz.laysPu14 s hmax u h w
def Tryz.lays212_ren : Go.Shelf.Ren := ⟨fun | 212 => 169 | 263 => 190 | 264 => 191 | n => n, fun | 46 => 98 | 51 => 193 | 146 => 240 | 53 => 145 | 148 => 242 | n => n, fun | n => n⟩
theorem Tryz.lays212 : Go.Proofs.Lays.n212 Tryz.prog Tryz.lays212_ren := {
  mixed := by kernel_rfl
  f212 := Tryz.func169.trans (congrArg some (by kernel_rfl))
  f263 := Tryz.func190.trans (congrArg some (by kernel_rfl))
  f264 := Tryz.func191.trans (congrArg some (by kernel_rfl))
  t46 := Tryz.underlying98
  a46 := Tryz.isAgg98
  z46 := Tryz.sizeOf98
  v46 := Tryz.zeroValue98
  t51 := Tryz.underlying193
  a51 := Tryz.isAgg193
  z51 := Tryz.sizeOf193
  v51 := Tryz.zeroValue193
  t53 := Tryz.underlying145
  a53 := Tryz.isAgg145
  z53 := Tryz.sizeOf145
  v53 := Tryz.zeroValue145
  t146 := Tryz.underlying240
  a146 := Tryz.isAgg240
  z146 := Tryz.sizeOf240
  v146 := Tryz.zeroValue240
  t148 := Tryz.underlying242
  a148 := Tryz.isAgg242
  z148 := Tryz.sizeOf242
  v148 := Tryz.zeroValue242 }
open Go.RowKit Go.Lib in
/-- math/bits.Mul: "Mul returns the full-width product of x and y": on a machine of 64 bits: Mul64's. (LAID: no walk: one application.) -/
theorem Tryz.bits_Mul (x y : Nat) (hx : x < 18446744073709551616) (hy : y < 18446744073709551616) (w : World) :
    Calls Tryz.prog 169 #[.int .u64 x, .int .u64 y] w fun e w' => e = .returned (.tuple #[.int .u64 ((x * y / 18446744073709551616 : Nat) : Int), .int .u64 ((x * y % 18446744073709551616 : Nat) : Int)]) ∧ w' = w := Any.bits_Mul Tryz.lays212 x y hx hy w
end Go.Proofs

/-
  Digits at the ends of a text, cut off. No program in sight.
-/
namespace Go.Ax.Bg
open Go.Ax.Tb (digit)

def dg (c : UInt8) : Bool := decide (48 ≤ c.toNat ∧ c.toNat < 58)
theorem dg_iff {c : UInt8} : dg c = true ↔ digit c := by
  unfold dg digit
  simp only [decide_eq_true_eq]
  constructor <;> intro h <;> exact ⟨by omega, by omega⟩
def trR (s : List UInt8) : List UInt8 := (s.reverse.dropWhile dg).reverse
def trL (s : List UInt8) : List UInt8 := s.dropWhile dg
theorem dropWhile_skip {l m : List UInt8} (h : l.all dg = true) : (l ++ m).dropWhile dg = m.dropWhile dg := by
  induction l with
  | nil => rfl
  | cons x r ih =>
    simp only [List.all_cons, Bool.and_eq_true] at h
    rw [List.cons_append, List.dropWhile_cons_of_pos h.1, ih h.2]
theorem trR_of {s : List UInt8} {k : Nat} (hk : k ≤ s.length) (h : (s.drop k).all dg = true) (h2 : k = 0 ∨ dg (s.getD (k - 1) 0) = false) : trR s = s.take k := by
  unfold trR
  conv => lhs; rw [← List.take_append_drop k s]
  rw [List.reverse_append, dropWhile_skip (by rw [List.all_reverse]; exact h)]
  rcases h2 with h2 | h2
  · subst h2; rfl
  · rcases Nat.eq_zero_or_pos k with q | q
    · subst q; rfl
    · have e : s.take k = s.take (k - 1) ++ [s.getD (k - 1) 0] := by
        have := take_succ_getD s 0 (k - 1) (by omega)
        rwa [show k - 1 + 1 = k by omega] at this
      rw [e, List.reverse_append, List.reverse_singleton, List.singleton_append, List.dropWhile_cons_of_neg (by rw [h2]; decide)]
      simp
theorem trL_of {s : List UInt8} {k : Nat} (h : (s.take k).all dg = true) (h2 : s.length ≤ k ∨ dg (s.getD k 0) = false) : trL s = s.drop k := by
  unfold trL
  conv => lhs; rw [← List.take_append_drop k s]
  rw [dropWhile_skip h]
  rcases h2 with h2 | h2
  · rw [List.drop_of_length_le h2]; rfl
  · rcases Nat.lt_or_ge k s.length with q | q
    · rw [drop_getD s 0 k q, List.dropWhile_cons_of_neg (by rw [h2]; decide)]
    · rw [List.drop_of_length_le q]; rfl
theorem dw_nil {l : List UInt8} : l.dropWhile dg = [] ↔ l.all dg = true := by
  induction l with
  | nil => simp
  | cons x r ih =>
    cases h : dg x with
    | true => rw [List.dropWhile_cons_of_pos h, ih]; simp [h]
    | false => rw [List.dropWhile_cons_of_neg (by rw [h]; decide)]; simp [h]
theorem dw_head {l : List UInt8} {x : UInt8} {r : List UInt8} (h : l.dropWhile dg = x :: r) : dg x = false := by
  induction l with
  | nil => cases h
  | cons y q ih =>
    cases hy : dg y with
    | true => rw [List.dropWhile_cons_of_pos hy] at h; exact ih h
    | false =>
      rw [List.dropWhile_cons_of_neg (by rw [hy]; decide)] at h
      cases h; exact hy
theorem trR_nil {s : List UInt8} : trL (trR s) = [] ↔ s.all dg = true := by
  unfold trL trR
  rw [dw_nil, List.all_reverse]
  constructor
  · intro h
    cases hq : s.reverse.dropWhile dg with
    | nil => rw [dw_nil, List.all_reverse] at hq; exact hq
    | cons x r =>
      rw [hq] at h
      have := dw_head hq
      simp [this] at h
  · intro h
    have : s.reverse.dropWhile dg = [] := by rw [dw_nil, List.all_reverse]; exact h
    rw [this]; rfl
/-- Up to nine digits as a number. -/
theorem parse_go {l : List UInt8} (hd : ∀ c ∈ l, digit c) : ∀ (a : Nat), decV a l ≤ 4294967295 → Lib.parseUintM 4294967295 a l = .ok (decV a l) := by
  induction l with
  | nil => intro a _; rfl
  | cons c r ih =>
    intro a h
    have hc := hd c (by simp)
    unfold digit at hc
    rw [decV_cons] at h ⊢
    have h1 : a * 10 + (c.toNat - 48) ≤ 4294967295 := by
      refine Nat.le_trans ?_ h
      rw [decV_acc r]
      have : (a * 10 + (c.toNat - 48)) * 1 ≤ (a * 10 + (c.toNat - 48)) * 10 ^ r.length := Nat.mul_le_mul_left _ (Nat.one_le_pow _ _ (by decide))
      omega
    have i := ih (fun x hx => hd x (by simp [hx])) _ h
    unfold Lib.parseUintM
    rw [if_pos (by omega), if_neg (by omega), if_neg (by omega)]
    exact i
theorem parse_ok {l : List UInt8} (h0 : l ≠ []) (hd : ∀ c ∈ l, digit c) (h9 : l.length ≤ 9) : Lib.parseUintB 32 l = .ok (decV 0 l) ∧ decV 0 l < 1000000000 := by
  have hlt := decV_lt hd
  have hp : 10 ^ l.length ≤ 10 ^ 9 := Nat.pow_le_pow_right (by decide) h9
  have e9 : (10 : Nat) ^ 9 = 1000000000 := by decide
  rw [e9] at hp
  unfold Lib.parseUintB
  rw [if_neg h0]
  have e32 : (2 : Nat) ^ 32 - 1 = 4294967295 := by decide
  rw [e32]
  exact ⟨parse_go hd 0 (by omega), by omega⟩
theorem join_flat : ∀ (ls : List (List UInt8)), Lib.join ls [] = ls.flatten
  | [] => rfl
  | x :: r => by
    rw [Lib.join_cons, List.flatten_cons]
    congr 1
    unfold Lib.joinTail
    congr 1
    simp
end Go.Ax.Bg

namespace Go.Proofs.YtgmleamhjnlknaaGreatDoor
open Go.Ax Go.Ax.Bg Go.RowKit
set_option maxRecDepth 100000
set_option maxHeartbeats 4000000

theorem below_grow' (w : World) (q : Nat) (os : Array Obj) : Below w.heap.size w (Go.Sort.grow (w.drewN q) os) := by
  refine ⟨rfl, rfl, rfl, ?_, fun k hk => ?_⟩
  · show w.heap.size ≤ (w.heap ++ os).size
    simp
  · show (w.heap ++ os)[k]? = w.heap[k]?
    rw [Array.getElem?_append_left hk]
theorem vals1 {w : World} {S : Nat → Prop} {σ : Nat → Option Blk} {a : AV} {vals : Array Value} (hv : VRs w S σ [a] vals) : ∃ x, vals = #[x] ∧ VR w S σ a x := by
  obtain ⟨h1, h2⟩ := hv
  have q := h2 0 (by simp)
  have hl : vals.toList.length = 1 := by simpa using h1
  match hq : vals.toList, hl with
  | [x], _ =>
    have e : vals = #[x] := by rw [← Array.toArray_toList (xs := vals), hq]
    subst e
    exact ⟨x, rfl, by simpa using q⟩
theorem vals2 {w : World} {S : Nat → Prop} {σ : Nat → Option Blk} {a b : AV} {vals : Array Value} (hv : VRs w S σ [a, b] vals) : ∃ x y, vals = #[x, y] ∧ VR w S σ a x ∧ VR w S σ b y := by
  obtain ⟨h1, h2⟩ := hv
  have q := h2 0 (by simp)
  have q1 := h2 1 (by simp)
  have hl : vals.toList.length = 2 := by simpa using h1
  match hq : vals.toList, hl with
  | [x, y], _ =>
    have e : vals = #[x, y] := by rw [← Array.toArray_toList (xs := vals), hq]
    subst e
    exact ⟨x, y, rfl, by simpa using q, by simpa using q1⟩
theorem vals3 {w : World} {S : Nat → Prop} {σ : Nat → Option Blk} {a b c : AV} {vals : Array Value} (hv : VRs w S σ [a, b, c] vals) : ∃ x y z, vals = #[x, y, z] ∧ VR w S σ a x ∧ VR w S σ b y ∧ VR w S σ c z := by
  obtain ⟨h1, h2⟩ := hv
  have q := h2 0 (by simp)
  have q1 := h2 1 (by simp)
  have q2 := h2 2 (by simp)
  have hl : vals.toList.length = 3 := by simpa using h1
  match hq : vals.toList, hl with
  | [x, y, z], _ =>
    have e : vals = #[x, y, z] := by rw [← Array.toArray_toList (xs := vals), hq]
    subst e
    exact ⟨x, y, z, rfl, by simpa using q, by simpa using q1, by simpa using q2⟩
theorem itoa (n : Int) (h : -9223372036854775808 ≤ n ∧ n ≤ 9223372036854775807) : VCall Tryz.prog 204 [.int .i64 n] (.str (Lib.itoa n)) := by
  refine VCall.of_below ⟨Tryz.f204, rfl, by kernel_rfl, rfl⟩ rfl rfl (fun w S vals hG hS hv => ?_)
  obtain ⟨x, rfl, a⟩ := vals1 hv
  have hx : x = .int .i64 n := by cases a; rfl
  subst hx
  have hp : pinG w := hG
  refine (Tryz.strconv_Itoa n h.1 h.2 w hp.2.1).mono ?_
  rintro e w' ⟨rfl, k, os, rfl⟩
  exact ⟨_, rfl, below_grow' w k os, .str _ _⟩
theorem itoaN (n : Nat) (h : n ≤ 9223372036854775807) : VCall Tryz.prog 204 [.int .i64 (n : Nat)] (.str (Lib.decDigits n)) := by
  have := itoa n ⟨by omega, by omega⟩
  rwa [Go.Ax.Tb.itoa_nat] at this
theorem mulB (a b : Nat) (ha : a < 18446744073709551616) (hb : b < 18446744073709551616) : VCall Tryz.prog 169 [.int .u64 (a : Nat), .int .u64 (b : Nat)] (.tup [.int .u64 (a * b / 18446744073709551616 : Nat), .int .u64 (a * b % 18446744073709551616 : Nat)]) := by
  refine VCall.of_below ⟨Tryz.f169, rfl, by kernel_rfl, rfl⟩ rfl rfl (fun w S vals hG hS hv => ?_)
  obtain ⟨x, y, rfl, p, q⟩ := vals2 hv
  have hx : x = .int .u64 (a : Nat) := by cases p; rfl
  have hy : y = .int .u64 (b : Nat) := by cases q; rfl
  subst hx hy
  refine (Tryz.bits_Mul a b ha hb w).mono ?_
  rintro e w' ⟨rfl, rfl⟩
  refine ⟨_, rfl, Below.refl _ _, .tup _ _ _ rfl (fun i hi => ?_)⟩
  match i, hi with
  | 0, _ => exact .int _ _ _
  | 1, _ => exact .int _ _ _
theorem parse32 (s : List UInt8) (u : Nat) (hl : s.length ≤ 1000) (h : Lib.parseUintB 32 s = .ok u) : VCall Tryz.prog 183 [.str s, .int .i64 10, .int .i64 32] (.tup [.int .u64 (u : Nat), .nilif]) := by
  refine VCall.of_below ⟨Tryz.f183, rfl, by kernel_rfl, rfl⟩ rfl rfl (fun w S vals hG hS hv => ?_)
  obtain ⟨x, y, z, rfl, p, q, r⟩ := vals3 hv
  have hx : x = strV s := by cases p; rfl
  have hy : y = .int .i64 10 := by cases q; rfl
  have hz : z = .int .i64 32 := by cases r; rfl
  subst hx hy hz
  have hd : (⟨s.toArray⟩ : ByteArray).data.toList = s := by simp
  have hsz : (⟨s.toArray⟩ : ByteArray).size = s.length := by simp [ByteArray.size]
  refine (Tryz.strconv_ParseUint_10_at32_ok ⟨s.toArray⟩ (by rw [hsz]; omega) u (by rw [hd]; exact h) w).mono ?_
  rintro e w' ⟨rfl, hw⟩
  refine ⟨_, rfl, ?_, .tup _ _ _ rfl (fun i hi => ?_)⟩
  · rcases hw with rfl | rfl
    · exact Below.refl _ _
    · exact Lib.bytesWorld_below _ _ _
  · match i, hi with
    | 0, _ => exact .int _ _ _
    | 1, _ => exact .nilif _
theorem join (ls : List (List UInt8)) (sep : List UInt8) (hN : ls.length ≤ 140737488355328) (hj : (Lib.join ls sep).length ≤ 140737488355328) : VCall Tryz.prog 207 [.ro (.strs ls) 0 ls.length, .str sep] (.str (Lib.join ls sep)) := by
  refine VCall.of_below ⟨Tryz.f207, rfl, by kernel_rfl, rfl⟩ rfl rfl (fun w S vals hG hS hv => ?_)
  obtain ⟨x, y, rfl, a, b⟩ := vals2 hv
  have hy : y = strV sep := by cases b; rfl
  subst hy
  have hsep : (⟨sep.toArray⟩ : ByteArray).data.toList = sep := by simp
  have hbyte : ∀ l : List UInt8, (⟨l.toArray⟩ : ByteArray).data.toList = l := fun l => by simp
  generalize hn : ls.length = n at a
  cases a with
  | ro0 _ _ _ ad cap =>
    have : ls = [] := List.length_eq_zero_iff.mp hn
    subst this
    refine (Tryz.strings_Join_none ad cap ⟨sep.toArray⟩ w).mono ?_
    rintro e w' ⟨rfl, rfl⟩
    exact ⟨_, rfl, Below.refl _ _, .str _ []⟩
  | ro _ _ _ _ bk o cap val hSb hlen hc hvv h1' =>
    subst hn
    have hxs : (ls.map (fun l => (⟨l.toArray⟩ : ByteArray))).length = ls.length := by simp
    have c := Tryz.strings_Join bk o cap (ls.map (fun l => (⟨l.toArray⟩ : ByteArray))) ⟨sep.toArray⟩ w (fun j x hx => ?_) (hS _ hSb) (by simpa using hN) (by simpa using hlen) ?_
    · rw [hxs] at c
      refine c.mono ?_
      rintro e w' ⟨rfl, hb⟩
      have e2 : ((ls.map (fun l => (⟨l.toArray⟩ : ByteArray))).map (fun x => x.data.toList)) = ls := by rw [List.map_map]; exact (List.map_congr_left (fun x _ => rfl)).trans (List.map_id _)
      rw [e2, hsep]
      exact ⟨_, rfl, hb, .str _ _⟩
    · simp only [List.getElem?_map, Option.map_eq_some_iff] at hx
      obtain ⟨l, hl, rfl⟩ := hx
      have hlt : j < ls.length := (List.getElem?_eq_some_iff.1 hl).1
      have q := hc j 0 hlt (by simp [Cells.sz])
      have v := hvv j 0 hlt (by simp [Cells.sz])
      simp only [Cells.sz, Nat.mul_one, Nat.add_zero] at q
      simp only [Cells.at, Nat.zero_add, List.getD, hl, Option.getD_some] at v
      rw [q]
      generalize val j 0 = z at v
      cases v; rfl
    · have e2 : ((ls.map (fun l => (⟨l.toArray⟩ : ByteArray))).map (fun x => x.data.toList)) = ls := by rw [List.map_map]; exact (List.map_congr_left (fun x _ => rfl)).trans (List.map_id _)
      rw [e2, hsep]; exact hj
end Go.Proofs.YtgmleamhjnlknaaGreatDoor

namespace Go.Proofs.YtgmleamhjnlknaaGreatDoor
open Go.Ax Go.Ax.Bg Go.RowKit
attribute [local irreducible] Ax Post QOp ACall
set_option maxRecDepth 100000
set_option maxHeartbeats 4000000

def preB (s p : List UInt8) : Bool := decide (p.length ≤ s.length ∧ s.take p.length = p)
theorem prefix1 (s p : List UInt8) (hs : s.length ≤ 9223372036854775807) (hp : p.length ≤ 9223372036854775807) : VCall Tryz.prog 179 [.str s, .str p] (.bool (preB s p)) := by
  refine ACall.value0 (acall_of_ax (P := Tryz.prog) (fn := Tryz.f179) rfl rfl (by kernel_rfl) rfl (fun c hR hfix => ?_)) (fix := fun _ => False) (fun _ h => h) rfl rfl
  repeat (first | refine ax_q (q_move rfl) ?_ | refine ax_q (q_assign rfl) ?_ | refine ax_ops_nil ?_ | refine ax_post_code ?_ | refine ax_seq ?_ | refine ax_region rfl ?_ | refine ax_q (q_geq rfl rfl) ?_ | refine ax_q (q_lenstr rfl rfl) ?_)
  refine ax_gsplit rfl rfl (fun h0 => ?_) (fun h0 => ?_)
  · repeat (first | refine ax_q (q_move rfl) ?_ | refine ax_q (q_assign rfl) ?_ | refine ax_ops_nil ?_ | refine ax_post_code ?_ | refine ax_guard rfl rfl ?_ | refine ax_return ?_ | refine ax_q (q_pick rfl rfl) ?_ | refine ax_q (q_lenstr rfl rfl) ?_ | refine ax_q (q_streql rfl rfl) ?_ | refine ax_q (q_strslice rfl rfl rfl rfl rfl rfl (by omega)) ?_)
    refine ax_ret hR rfl ?_
    show AV.bool (decide ((List.drop _ s).take _ = p)) = _
    unfold preB
    congr 1
    rw [decide_eq_decide]
    simp only [Int.toNat_zero, List.drop_zero, Int.toNat_natCast, Nat.sub_zero]
    exact ⟨fun h => ⟨by omega, h⟩, fun h => h.2⟩
  · repeat (first | refine ax_q (q_assign rfl) ?_ | refine ax_ops_nil ?_ | refine ax_post_code ?_ | refine ax_skip_not rfl rfl rfl ?_ | refine ax_return ?_ | refine ax_q (q_pick rfl rfl) ?_)
    refine ax_ret hR rfl ?_
    show AV.bool false = _
    unfold preB
    rw [decide_eq_false]
    exact fun h => h0 (by omega)
theorem prefix2 (s p : List UInt8) (hs : s.length ≤ 9223372036854775807) (hp : p.length ≤ 9223372036854775807) : VCall Tryz.prog 146 [.str s, .str p] (.bool (preB s p)) := by
  have hc := prefix1 s p hs hp
  refine ACall.value0 (acall_of_ax (P := Tryz.prog) (fn := Tryz.f146) rfl rfl (by kernel_rfl) rfl (fun c hR hfix => ?_)) (fix := fun _ => False) (fun _ h => h) rfl rfl
  generalize preB s p = b at *
  repeat (first | refine ax_q (q_move rfl) ?_ | refine ax_q (q_assign rfl) ?_ | refine ax_ops_nil ?_ | refine ax_post_code ?_ | refine ax_seq ?_ | refine ax_region rfl ?_)
  refine ax_callv rfl rfl rfl hc ?_
  repeat (first | refine ax_q (q_assign rfl) ?_ | refine ax_ops_nil ?_ | refine ax_post_code ?_ | refine ax_return ?_)
  exact ax_ret hR rfl rfl
/-- strings.Repeat("0", n), n small. -/
theorem repeat0 (n : Nat) (hn : n ≤ 60) : VCall Tryz.prog 205 [.str [48], .int .i64 (n : Nat)] (.str (List.replicate n 48)) := by
  refine ACall.value0 (acall_of_ax (P := Tryz.prog) (fn := Tryz.f205) rfl rfl (by kernel_rfl) rfl (fun c hR hfix => ?_)) (fix := fun _ => False) (fun _ h => h) rfl rfl
  repeat (first | refine ax_q (q_move rfl) ?_ | refine ax_q (q_assign rfl) ?_ | refine ax_ops_nil ?_ | refine ax_post_code ?_ | refine ax_seq ?_ | refine ax_region rfl ?_ | refine ax_block ?_ | refine ax_q (q_eql rfl rfl) ?_)
  refine ax_cond_dec rfl (fun h0 => ?_) (fun h0 => ?_)
  · have : n = 0 := by omega
    subst this
    repeat (first | refine ax_q (q_assign rfl) ?_ | refine ax_ops_nil ?_ | refine ax_post_code ?_ | refine ax_seq ?_ | refine ax_region rfl ?_ | refine ax_return ?_ | refine ax_ret_code ?_ | refine ax_ret_blk ?_)
    exact ax_ret hR rfl rfl
  repeat (first | refine ax_q (q_assign rfl) ?_ | refine ax_ops_nil ?_ | refine ax_post_code ?_ | refine ax_seq ?_ | refine ax_region rfl ?_ | refine ax_q (q_eql rfl rfl) ?_)
  refine ax_cond_dec rfl (fun h1 => ?_) (fun h1 => ?_)
  · have : n = 1 := by omega
    subst this
    repeat (first | refine ax_q (q_move rfl) ?_ | refine ax_q (q_assign rfl) ?_ | refine ax_ops_nil ?_ | refine ax_post_code ?_ | refine ax_seq ?_ | refine ax_region rfl ?_ | refine ax_return ?_ | refine ax_ret_code ?_ | refine ax_ret_blk ?_)
    exact ax_ret hR rfl rfl
  repeat (first | refine ax_q (q_move rfl) ?_ | refine ax_ops_nil ?_ | refine ax_post_code ?_ | refine ax_seq ?_ | refine ax_region rfl ?_ | refine ax_cond_false rfl ?_ | refine ax_post_blk ?_ | refine ax_skip ?_ | refine ax_q (q_lss rfl rfl) ?_ | refine ax_q (q_lenstr rfl rfl) ?_)
  have hm := mulB 1 n (by omega) (by omega)
  rw [Nat.one_mul, Nat.div_eq_of_lt (by omega), Nat.mod_eq_of_lt (by omega)] at hm
  have p1 : VCall Tryz.prog 146 [.str (List.replicate 128 32), .str [48]] (.bool false) := prefix2 _ _ (by decide) (by decide)
  have p2 : VCall Tryz.prog 146 [.str (List.replicate 128 45), .str [48]] (.bool false) := prefix2 _ _ (by decide) (by decide)
  have p3 : VCall Tryz.prog 146 [.str (List.replicate 64 48), .str [48]] (.bool true) := prefix2 _ _ (by decide) (by decide)
  refine ax_q (q_uconv (m := 1) rfl rfl rfl uk64 (by decide)) ?_
  repeat (refine ax_q (q_move rfl) ?_)
  refine ax_q (q_uconv (m := n) rfl rfl rfl uk64 (by omega)) ?_
  refine ax_callv rfl rfl rfl hm ?_
  repeat (first | refine ax_q (q_move rfl) ?_ | refine ax_q (q_assign rfl) ?_ | refine ax_ops_nil ?_ | refine ax_post_code ?_ | refine ax_seq ?_ | refine ax_region rfl ?_ | refine ax_guard rfl rfl ?_ | refine ax_q (q_gtr rfl rfl) ?_ | refine ax_q (q_pick rfl rfl) ?_ | refine ax_q (q_extract rfl rfl) ?_)
  refine ax_cond_dec rfl (fun h => absurd h (by omega)) (fun h => ?_)
  repeat (first | refine ax_q (q_move rfl) ?_ | refine ax_post_code ?_ | refine ax_seq ?_ | refine ax_region rfl ?_ | refine ax_skip ?_)
  refine ax_q (q_conv64 (m := n) rfl rfl rfl (by omega)) ?_
  repeat (first | refine ax_q (q_move rfl) ?_ | refine ax_q (q_assign rfl) ?_ | refine ax_ops_nil ?_ | refine ax_post_code ?_ | refine ax_seq ?_ | refine ax_region rfl ?_ | refine ax_cond_true rfl ?_ | refine ax_cond_false rfl ?_ | refine ax_block ?_ | refine ax_skip ?_ | refine ax_q (q_eql rfl rfl) ?_ | refine ax_q (q_leq rfl rfl) ?_ | refine ax_q (q_lenstr rfl rfl) ?_ | refine ax_q (q_stridx rfl rfl rfl (by first | assumption | omega | simp)) ?_)
  refine ax_gsplit rfl rfl (fun h3 => ?_) (fun h3 => absurd (show (n : Int) ≤ 128 by omega) h3)
  repeat (first | refine ax_q (q_move rfl) ?_ | refine ax_guard rfl rfl ?_)
  refine ax_callv rfl rfl rfl p1 ?_
  repeat (first | refine ax_q (q_move rfl) ?_ | refine ax_q (q_assign rfl) ?_ | refine ax_ops_nil ?_ | refine ax_post_code ?_ | refine ax_seq ?_ | refine ax_region rfl ?_ | refine ax_cond_false rfl ?_ | refine ax_q (q_leq rfl rfl) ?_ | refine ax_q (q_pick rfl rfl) ?_)
  refine ax_gsplit rfl rfl (fun h4 => ?_) (fun h4 => absurd (show (n : Int) ≤ 128 by omega) h4)
  repeat (first | refine ax_q (q_move rfl) ?_ | refine ax_guard rfl rfl ?_)
  refine ax_callv rfl rfl rfl p2 ?_
  repeat (first | refine ax_q (q_move rfl) ?_ | refine ax_q (q_assign rfl) ?_ | refine ax_ops_nil ?_ | refine ax_post_code ?_ | refine ax_seq ?_ | refine ax_region rfl ?_ | refine ax_cond_false rfl ?_ | refine ax_q (q_leq rfl rfl) ?_ | refine ax_q (q_pick rfl rfl) ?_)
  refine ax_gsplit rfl rfl (fun h5 => ?_) (fun h5 => absurd (show (n : Int) ≤ 64 by omega) h5)
  repeat (first | refine ax_q (q_move rfl) ?_ | refine ax_guard rfl rfl ?_)
  refine ax_callv rfl rfl rfl p3 ?_
  repeat (first | refine ax_q (q_move rfl) ?_ | refine ax_q (q_assign rfl) ?_ | refine ax_ops_nil ?_ | refine ax_post_code ?_ | refine ax_seq ?_ | refine ax_region rfl ?_ | refine ax_cond_true rfl ?_ | refine ax_q (q_pick rfl rfl) ?_)
  refine ax_q (q_strslice rfl rfl rfl rfl rfl rfl (by show (0 : Int) ≤ 0 ∧ (0 : Int) ≤ (n : Nat) ∧ ((n : Nat) : Int) ≤ ((64 : Nat) : Int); omega)) ?_
  repeat (first | refine ax_q (q_assign rfl) ?_ | refine ax_ops_nil ?_ | refine ax_post_code ?_ | refine ax_return ?_ | refine ax_ret_code ?_ | refine ax_ret_blk ?_)
  refine ax_ret hR rfl ?_
  show AV.str ((List.drop 0 (List.replicate 64 48)).take (n - 0)) = _
  rw [List.drop_zero, Nat.sub_zero, List.take_replicate, Nat.min_eq_left (by omega)]

/-- strings.asciiSet: the digits. -/
def setL (k : Nat) : List AV := (List.range 256).map fun j => AV.bool (decide (48 ≤ j ∧ j < 48 + k))
theorem setL_len (k : Nat) : (setL k).length = 256 := by unfold setL; simp
theorem setL_at (k j : Nat) (hj : j < 256) : (setL k)[j]? = some (AV.bool (decide (48 ≤ j ∧ j < 48 + k))) := by
  unfold setL
  rw [List.getElem?_map, List.getElem?_range hj]; rfl
theorem setL_set (k : Nat) (hk : k < 10) : (setL k).set (48 + k) (.bool true) = setL (k + 1) := by
  apply List.ext_getElem?
  intro i
  rcases Nat.lt_or_ge i 256 with hi | hi
  · rw [setL_at (k + 1) i hi]
    by_cases h : i = 48 + k
    · subst h
      rw [List.getElem?_set_self (by rw [setL_len]; exact hi)]
      congr 2
      exact (decide_eq_true (by omega)).symm
    · rw [List.getElem?_set_ne (Ne.symm h), setL_at k i hi]
      congr 2
      rw [decide_eq_decide]; omega
  · rw [List.getElem?_eq_none (by rw [List.length_set, setL_len]; exact hi), List.getElem?_eq_none (by rw [setL_len]; exact hi)]
def digS : List UInt8 := [48, 49, 50, 51, 52, 53, 54, 55, 56, 57]
theorem digS_at (k : Nat) (hk : k < 10) : (digS.getD k 0).toNat = 48 + k := by
  have : k = 0 ∨ k = 1 ∨ k = 2 ∨ k = 3 ∨ k = 4 ∨ k = 5 ∨ k = 6 ∨ k = 7 ∨ k = 8 ∨ k = 9 := by omega
  rcases this with rfl | rfl | rfl | rfl | rfl | rfl | rfl | rfl | rfl | rfl <;> rfl
theorem box_all (l : List AV) : (List.range (Cells.box l).sz).map ((Cells.box l).at 0) = l := by
  apply List.ext_getElem?
  intro i
  rcases Nat.lt_or_ge i l.length with h | h
  · rw [List.getElem?_map, List.getElem?_range (by exact h)]
    show some (l.getD i .any) = _
    rw [List.getD, List.getElem?_eq_getElem h]; rfl
  · rw [List.getElem?_eq_none (by simpa [Cells.sz] using h), List.getElem?_eq_none h]
theorem set_ok : VCall Tryz.prog 197 [.str digS] (.tup [.agg (setL 10), .bool true]) := by
  refine ACall.value0 (acall_of_ax (P := Tryz.prog) (fn := Tryz.f197) rfl rfl (by kernel_rfl) rfl (fun c hR hfix => ?_)) (fix := fun _ => False) (fun _ h => h) rfl (by kernel_rfl)
  repeat (first | refine ax_q (q_assign rfl) ?_ | refine ax_ops_nil ?_ | refine ax_post_code ?_ | refine ax_seq ?_ | refine ax_region rfl ?_ | refine ax_block ?_ | refine ax_alloc rfl rfl rfl ?_)
  refine ax_heap_eq [some ⟨248, .box (setL 0)⟩] (by kernel_rfl) ?_
  refine ax_loop (ι := Nat) (fun k => [(0, .str digS), (2, .ptr 0 0 0), (4, .int .i64 (k : Nat))]) (fun k => [some ⟨248, .box (setL k)⟩]) (fun k => k ≤ 10) (fun k => 10 - k) 0 ⟨⟨rfl, rfl, rfl, trivial⟩, rfl, by omega⟩ ?_
  rintro k hk
  have hdl : digS.length = 10 := rfl
  repeat (first | refine ax_q (q_move rfl) ?_ | refine ax_ops_nil ?_ | refine ax_post_code ?_ | refine ax_seq ?_ | refine ax_region rfl ?_ | refine ax_q (q_lss rfl rfl) ?_ | refine ax_q (q_lenstr rfl rfl) ?_)
  refine ax_cond_dec rfl (fun h1 => ?_) (fun h1 => ?_)
  · have hk2 : k < 10 := by omega
    repeat (first | refine ax_q (q_move rfl) ?_ | refine ax_q (q_assign rfl) ?_ | refine ax_ops_nil ?_ | refine ax_post_code ?_ | refine ax_seq ?_ | refine ax_region rfl ?_ | refine ax_block ?_ | refine ax_skip ?_ | refine ax_q (q_geq rfl rfl) ?_ | refine ax_q (q_stridx rfl rfl rfl (by first | assumption | omega | simp)) ?_)
    refine ax_cond_dec rfl (fun h2 => absurd h2 (by rw [Int.toNat_natCast, digS_at k hk2]; omega)) (fun h2 => ?_)
    repeat (first | refine ax_q (q_move rfl) ?_ | refine ax_post_code ?_ | refine ax_region rfl ?_ | refine ax_skip ?_)
    refine ax_slot_ops 18 (.int .u8 (48 + k : Nat)) rfl (AEq.of_eq (by rw [Int.toNat_natCast, digS_at k hk2])) ?_
    refine ax_q (q_idxarr_ptr (m := ((48 + k : Nat) : Int)) (jx := 48 + k) rfl rfl rfl rfl (by rw [Int.toNat_natCast, Nat.zero_add]) (by omega)) ?_
    refine ax_store rfl rfl rfl rfl rfl (by rw [show (Cells.box (setL k)).sz = 256 from setL_len k]; exact Nat.ble_eq.symm ▸ (by omega : 48 + k + 1 ≤ 256)) rfl Nat.zero_lt_one ?_
    repeat (first | refine ax_q (q_move rfl) ?_ | refine ax_q (q_assign rfl) ?_ | refine ax_ops_nil ?_ | refine ax_post_code ?_ | refine ax_region rfl ?_ | refine ax_post_blk ?_ | refine ax_q (q_add rfl rfl (by omega)) ?_)
    refine ax_post_inv ⟨k + 1, by omega, by omega, ⟨rfl, rfl, rfl, trivial⟩, ?_⟩
    show ([some ⟨_, .box ((setL k).set (48 + k) (.bool true))⟩] : AHeap) = _
    rw [setL_set k hk2]
  · have hke : k = 10 := by omega
    subst hke
    repeat (first | refine ax_post_code ?_ | refine ax_seq ?_ | refine ax_region rfl ?_ | refine ax_exit ?_ | refine ax_exit_here ?_ | refine ax_exit_code ?_ | refine ax_exit_inv ?_)
    refine ax_q (q_loadagg_ptr (ob := ⟨248, .box (setL 10)⟩) rfl rfl rfl (setL_len 10).symm rfl rfl (box_all _) Nat.zero_lt_one) ?_
    refine ax_storeagg (c' := .box (setL 10)) rfl rfl (by rw [show (Cells.box (setL 10)).sz = 256 from setL_len 10]; rfl) rfl (by rw [show (Cells.box (setL 10)).sz = 256 from setL_len 10]; exact setL_len 10) Nat.zero_lt_one rfl rfl (fun i' j' hi' hj' => ?_) ?_
    · rw [if_pos (Nat.lt_one_iff.1 hi')]; rfl
    repeat (first | refine ax_q (q_assign rfl) ?_ | refine ax_ops_nil ?_ | refine ax_post_code ?_ | refine ax_return ?_)
    exact ax_ret hR rfl rfl
theorem contains_ok (ch : UInt8) : VCall Tryz.prog 216 [.rp (.box (setL 10)) 0 0, .int .u8 (ch.toNat : Nat)] (.bool (dg ch)) := by
  have hlt := ch.toNat_lt
  have hat := setL_at 10 ch.toNat (by simpa using hlt)
  refine ACall.value0 (acall_of_ax (P := Tryz.prog) (fn := Tryz.f216) rfl rfl (by kernel_rfl) rfl (fun c hR hfix => ?_)) (fix := fun _ => False) (fun _ h => h) rfl rfl
  repeat (first | refine ax_q (q_move rfl) ?_ | refine ax_q (q_assign rfl) ?_ | refine ax_ops_nil ?_ | refine ax_post_code ?_ | refine ax_seq ?_ | refine ax_region rfl ?_ | refine ax_q (q_nilcheck_rp rfl) ?_)
  refine ax_q (q_idxarr_rp (m := ((ch.toNat : Nat) : Int)) (jx := ch.toNat) rfl rfl rfl rfl (by rw [Int.toNat_natCast, Nat.zero_add]) (by omega)) ?_
  refine ax_q (q_loadb_rp rfl rfl rfl hat) ?_
  repeat (first | refine ax_q (q_assign rfl) ?_ | refine ax_ops_nil ?_ | refine ax_post_code ?_ | refine ax_return ?_)
  exact ax_ret hR rfl rfl
theorem right_ok (s : List UInt8) (hs : s.length ≤ 9223372036854775807) : VCall Tryz.prog 199 [.str s, .rp (.box (setL 10)) 0 0] (.str (trR s)) := by
  refine ACall.value0 (acall_of_ax (P := Tryz.prog) (fn := Tryz.f199) rfl rfl (by kernel_rfl) rfl (fun c hR hfix => ?_)) (fix := fun _ => False) (fun _ h => h) rfl rfl
  repeat (first | refine ax_q (q_assign rfl) ?_ | refine ax_ops_nil ?_ | refine ax_post_code ?_ | refine ax_seq ?_ | refine ax_region rfl ?_ | refine ax_block ?_)
  refine ax_loop (ι := Nat) (fun k => [(0, .str (s.take k)), (1, .rp (.box (setL 10)) 0 0)]) (fun _ => []) (fun k => k ≤ s.length ∧ (s.drop k).all dg = true) (fun k => k) s.length ⟨⟨by rw [List.take_length]; rfl, rfl, trivial⟩, rfl, Nat.le_refl _, by simp⟩ ?_
  rintro k ⟨hk, hd⟩
  have hlen : (s.take k).length = k := by simp; omega
  have hof := trR_of hk hd
  repeat (first | refine ax_q (q_move rfl) ?_ | refine ax_ops_nil ?_ | refine ax_post_code ?_ | refine ax_seq ?_ | refine ax_region rfl ?_ | refine ax_q (q_gtr rfl rfl) ?_ | refine ax_q (q_lenstr rfl rfl) ?_)
  refine ax_cond_dec rfl (fun h1 => ?_) (fun h1 => ?_)
  · have hk1 : 0 < k := by omega
    have hg : (s.take k).getD (k - 1) 0 = s.getD (k - 1) 0 := by
      simp only [List.getD, List.getElem?_take, show k - 1 < k by omega, if_true]
    have e1 : ((k : Int) - 1).toNat = k - 1 := by omega
    have hc := contains_ok (s.getD (k - 1) 0)
    repeat (first | refine ax_q (q_move rfl) ?_ | refine ax_post_code ?_ | refine ax_seq ?_ | refine ax_region rfl ?_ | refine ax_block ?_ | refine ax_skip ?_ | refine ax_q (q_lenstr rfl rfl) ?_ | refine ax_q (q_sub rfl rfl (by omega)) ?_ | refine ax_q (q_stridx rfl rfl rfl (by first | assumption | omega | simp)) ?_)
    refine ax_slot_ops 13 (.int .u8 ((s.getD (k - 1) 0).toNat : Nat)) rfl (AEq.of_eq (by rw [hlen, e1, hg])) ?_
    refine ax_callv rfl rfl rfl hc ?_
    repeat (first | refine ax_ops_nil ?_ | refine ax_post_code ?_ | refine ax_q (q_not rfl) ?_)
    refine ax_cond rfl (fun h2 => ?_) (fun h2 => ?_)
    · have h3 : dg (s.getD (k - 1) 0) = false := by simpa using h2
      repeat (first | refine ax_q (q_move rfl) ?_ | refine ax_q (q_assign rfl) ?_ | refine ax_ops_nil ?_ | refine ax_post_code ?_ | refine ax_seq ?_ | refine ax_region rfl ?_ | refine ax_exit ?_ | refine ax_exit_here ?_ | refine ax_exit_code ?_ | refine ax_exit_inv ?_ | refine ax_exit_on rfl ?_ | refine ax_return ?_)
      refine ax_ret hR rfl ?_
      rw [hof (.inr h3)]; rfl
    · have h3 : dg (s.getD (k - 1) 0) = true := by simpa using h2
      repeat (first | refine ax_q (q_move rfl) ?_ | refine ax_post_code ?_ | refine ax_region rfl ?_ | refine ax_skip ?_ | refine ax_q (q_lenstr rfl rfl) ?_ | refine ax_q (q_sub rfl rfl (by omega)) ?_)
      refine ax_q (q_strslice rfl rfl rfl rfl rfl rfl (by omega)) ?_
      repeat (first | refine ax_q (q_assign rfl) ?_ | refine ax_ops_nil ?_ | refine ax_post_blk ?_)
      refine ax_post_inv ⟨k - 1, ⟨by omega, ?_⟩, by omega, ⟨?_, rfl, trivial⟩, rfl⟩
      · rw [drop_getD s 0 (k - 1) (by omega), show k - 1 + 1 = k by omega, List.all_cons, h3, hd]; rfl
      · show some (AV.str ((List.drop 0 (s.take k)).take ((((s.take k).length : Int) - 1).toNat - 0))) = _
        rw [List.drop_zero, hlen, e1, Nat.sub_zero, List.take_take, Nat.min_eq_left (by omega)]
  · have hk0 : k = 0 := by omega
    subst hk0
    repeat (first | refine ax_q (q_move rfl) ?_ | refine ax_q (q_assign rfl) ?_ | refine ax_ops_nil ?_ | refine ax_post_code ?_ | refine ax_seq ?_ | refine ax_region rfl ?_ | refine ax_exit ?_ | refine ax_exit_here ?_ | refine ax_exit_code ?_ | refine ax_exit_inv ?_ | refine ax_return ?_)
    refine ax_ret hR rfl ?_
    rw [hof (.inl rfl)]; rfl
theorem left_ok (s : List UInt8) (hs : s.length ≤ 9223372036854775807) : VCall Tryz.prog 198 [.str s, .rp (.box (setL 10)) 0 0] (.str (trL s)) := by
  refine ACall.value0 (acall_of_ax (P := Tryz.prog) (fn := Tryz.f198) rfl rfl (by kernel_rfl) rfl (fun c hR hfix => ?_)) (fix := fun _ => False) (fun _ h => h) rfl rfl
  repeat (first | refine ax_q (q_assign rfl) ?_ | refine ax_ops_nil ?_ | refine ax_post_code ?_ | refine ax_seq ?_ | refine ax_region rfl ?_ | refine ax_block ?_)
  refine ax_loop (ι := Nat) (fun k => [(0, .str (s.drop k)), (1, .rp (.box (setL 10)) 0 0)]) (fun _ => []) (fun k => k ≤ s.length ∧ (s.take k).all dg = true) (fun k => s.length - k) 0 ⟨⟨by rw [List.drop_zero]; rfl, rfl, trivial⟩, rfl, Nat.zero_le _, by simp⟩ ?_
  rintro k ⟨hk, hd⟩
  have hlen : (s.drop k).length = s.length - k := by simp
  have hof := trL_of hd
  repeat (first | refine ax_q (q_move rfl) ?_ | refine ax_ops_nil ?_ | refine ax_post_code ?_ | refine ax_seq ?_ | refine ax_region rfl ?_ | refine ax_q (q_gtr rfl rfl) ?_ | refine ax_q (q_lenstr rfl rfl) ?_)
  refine ax_cond_dec rfl (fun h1 => ?_) (fun h1 => ?_)
  · have hk1 : k < s.length := by omega
    have hg : (s.drop k).getD 0 0 = s.getD k 0 := by simp [List.getD]
    have hc := contains_ok (s.getD k 0)
    repeat (first | refine ax_q (q_move rfl) ?_ | refine ax_post_code ?_ | refine ax_seq ?_ | refine ax_region rfl ?_ | refine ax_block ?_ | refine ax_skip ?_ | refine ax_q (q_stridx rfl rfl rfl (by first | assumption | omega | simp)) ?_)
    refine ax_slot_ops 10 (.int .u8 ((s.getD k 0).toNat : Nat)) rfl (AEq.of_eq (by rw [Int.toNat_zero, hg])) ?_
    refine ax_callv rfl rfl rfl hc ?_
    repeat (first | refine ax_ops_nil ?_ | refine ax_post_code ?_ | refine ax_q (q_not rfl) ?_)
    refine ax_cond rfl (fun h2 => ?_) (fun h2 => ?_)
    · have h3 : dg (s.getD k 0) = false := by simpa using h2
      repeat (first | refine ax_q (q_move rfl) ?_ | refine ax_q (q_assign rfl) ?_ | refine ax_ops_nil ?_ | refine ax_post_code ?_ | refine ax_seq ?_ | refine ax_region rfl ?_ | refine ax_exit ?_ | refine ax_exit_here ?_ | refine ax_exit_code ?_ | refine ax_exit_inv ?_ | refine ax_exit_on rfl ?_ | refine ax_return ?_)
      refine ax_ret hR rfl ?_
      rw [hof (.inr h3)]; rfl
    · have h3 : dg (s.getD k 0) = true := by simpa using h2
      repeat (first | refine ax_q (q_move rfl) ?_ | refine ax_post_code ?_ | refine ax_region rfl ?_ | refine ax_skip ?_)
      refine ax_q (q_strslice rfl rfl rfl rfl rfl rfl (by omega)) ?_
      repeat (first | refine ax_q (q_assign rfl) ?_ | refine ax_ops_nil ?_ | refine ax_post_blk ?_)
      refine ax_post_inv ⟨k + 1, ⟨by omega, ?_⟩, by omega, ⟨?_, rfl, trivial⟩, rfl⟩
      · rw [take_succ_getD s 0 k hk1, List.all_append, hd]; simp only [List.all_cons, List.all_nil, h3, Bool.and_true]
      · show some (AV.str ((List.drop 1 (s.drop k)).take ((s.drop k).length - 1))) = _
        rw [List.drop_drop, List.take_of_length_le (by simp; omega)]
  · have hk0 : s.length ≤ k := by omega
    repeat (first | refine ax_q (q_move rfl) ?_ | refine ax_q (q_assign rfl) ?_ | refine ax_ops_nil ?_ | refine ax_post_code ?_ | refine ax_seq ?_ | refine ax_region rfl ?_ | refine ax_exit ?_ | refine ax_exit_here ?_ | refine ax_exit_code ?_ | refine ax_exit_inv ?_ | refine ax_return ?_)
    refine ax_ret hR rfl ?_
    rw [hof (.inl hk0)]; rfl
theorem trim_ok (s : List UInt8) (hs : s.length ≤ 9223372036854775807) : VCall Tryz.prog 182 [.str s, .str digS] (.str (trL (trR s))) := by
  have h1 := set_ok
  have h2 := right_ok s hs
  have hle : (trR s).length ≤ s.length := by
    unfold trR
    rw [List.length_reverse]
    have := (List.dropWhile_sublist (p := dg) (l := s.reverse)).length_le
    simpa using this
  have h3 := left_ok (trR s) (by omega)
  refine ACall.value0 (acall_of_ax (P := Tryz.prog) (fn := Tryz.f182) rfl rfl (by kernel_rfl) rfl (fun c hR hfix => ?_)) (fix := fun _ => False) (fun _ h => h) rfl rfl
  have hl := setL_len 10
  repeat (first | refine ax_q (q_move rfl) ?_ | refine ax_q (q_assign rfl) ?_ | refine ax_ops_nil ?_ | refine ax_post_code ?_ | refine ax_seq ?_ | refine ax_region rfl ?_ | refine ax_q (q_streql rfl rfl) ?_)
  by_cases h0 : s = []
  · subst h0
    repeat (first | refine ax_q (q_move rfl) ?_ | refine ax_q (q_assign rfl) ?_ | refine ax_ops_nil ?_ | refine ax_post_code ?_ | refine ax_seq ?_ | refine ax_region rfl ?_ | refine ax_skip_not rfl rfl rfl ?_ | refine ax_cond_true rfl ?_ | refine ax_return ?_ | refine ax_ret_code ?_ | refine ax_q (q_pick rfl rfl) ?_)
    exact ax_ret hR rfl rfl
  rw [show decide (s = _) = false from decide_eq_false h0]
  repeat (first | refine ax_q (q_move rfl) ?_ | refine ax_ops_nil ?_ | refine ax_post_code ?_ | refine ax_seq ?_ | refine ax_region rfl ?_ | refine ax_guard rfl rfl ?_ | refine ax_skip_not rfl rfl rfl ?_ | refine ax_cond_false rfl ?_ | refine ax_skip ?_ | refine ax_q (q_eql rfl rfl) ?_ | refine ax_q (q_pick rfl rfl) ?_ | refine ax_q (q_lenstr rfl rfl) ?_ | refine ax_q (q_streql rfl rfl) ?_)
  refine ax_callv rfl rfl rfl h1 ?_
  repeat (first | refine ax_q (q_move rfl) ?_ | refine ax_q (q_extract rfl rfl) ?_ | refine ax_alloc rfl rfl rfl ?_)
  refine ax_storeagg (c' := .box (setL 10)) rfl rfl rfl rfl (setL_len 10) Nat.zero_lt_one rfl (setL_len 10) (fun i' j' hi' hj' => ?_) ?_
  · rw [if_pos (Nat.lt_one_iff.1 hi')]; rfl
  repeat (first | refine ax_q (q_move rfl) ?_ | refine ax_q (q_assign rfl) ?_ | refine ax_ops_nil ?_ | refine ax_post_code ?_ | refine ax_seq ?_ | refine ax_region rfl ?_ | refine ax_cond_true rfl ?_)
  have hrl : ∀ (h : Nat) (o : AObj), ([some ⟨248, .box (setL 10)⟩] : AHeap)[h]? = some (some o) → refless o.c := refl1 (fun i j hi hj => by
    show noRef ((setL 10).getD j .any) = true
    rw [List.getD, setL_at 10 j (by have : j < (setL 10).length := hj; rwa [setL_len] at this)]; rfl)
  refine ax_heap_eq_ops [some ⟨248, .box (setL 10)⟩] rfl ?_
  refine ax_calll rfl rfl rfl rfl h2 hrl ⟨trivial, fun o ho => by simp at ho; subst ho; exact Nat.zero_lt_one, trivial⟩ rfl rfl rfl ?_
  skip
  refine ax_calll rfl rfl rfl rfl h3 hrl ⟨trivial, fun o ho => by simp at ho; subst ho; exact Nat.zero_lt_one, trivial⟩ rfl rfl rfl ?_
  repeat (first | refine ax_q (q_assign rfl) ?_ | refine ax_ops_nil ?_ | refine ax_post_code ?_ | refine ax_return ?_ | refine ax_ret_code ?_)
  exact ax_ret hR rfl rfl
end Go.Proofs.YtgmleamhjnlknaaGreatDoor

namespace Go.Proofs.YtgmleamhjnlknaaGreatDoor
open Go.Ax Go.Ax.Bg Go.RowKit
open Go.Ax.Tb (digit digit_of digits_digit digits_ne)
attribute [local irreducible] Ax Post QOp ACall
set_option maxRecDepth 100000
set_option maxHeartbeats 4000000

theorem pow_le9 {i : Nat} (h : i ≤ 9) : 10 ^ i ≤ 1000000000 := by
  have := Nat.pow_le_pow_right (show 0 < 10 by decide) h
  exact Nat.le_trans this (by decide)
theorem read_ok (S : List UInt8) (hd : ∀ c ∈ S, digit c) (hl : S.length ≤ 1000000) : VCall Tryz.prog 151 [.str S] (natA (decV 0 S)) := by
  refine ACall.value0 (acall_of_ax (P := Tryz.prog) (fn := Tryz.f151) rfl rfl (by kernel_rfl) rfl (fun c hR hfix => ?_)) (fix := fun _ => False) (fun _ h => h) rfl rfl
  repeat (first | refine ax_q (q_assign rfl) ?_ | refine ax_ops_nil ?_ | refine ax_post_code ?_ | refine ax_seq ?_ | refine ax_region rfl ?_)
  refine ax_slot 3 (natA 0) rfl AEq.natNil ?_
  refine ax_block ?_
  refine ax_loop (ι := Nat × List UInt8) (fun p => [(0, .str p.2), (3, natA p.1)]) (fun _ => []) (fun p => p.2.length ≤ S.length ∧ (∀ c ∈ p.2, digit c) ∧ decV p.1 p.2 = decV 0 S ∧ p.1 < 10 ^ (S.length - p.2.length)) (fun p => p.2.length) (0, S) ⟨⟨rfl, rfl, trivial⟩, rfl, Nat.le_refl _, hd, rfl, by simp⟩ ?_
  rintro ⟨v, s⟩ ⟨h1, h2, h3, h4⟩
  simp only at *
  repeat (first | refine ax_q (q_move rfl) ?_ | refine ax_ops_nil ?_ | refine ax_post_code ?_ | refine ax_seq ?_ | refine ax_region rfl ?_ | refine ax_q (q_gtr rfl rfl) ?_ | refine ax_q (q_lenstr rfl rfl) ?_)
  refine ax_cond_dec rfl (fun h5 => ?_) (fun h5 => ?_)
  · have hs0 : s ≠ [] := by rintro rfl; simp at h5
    obtain ⟨k, hk, hk1, hk9, hks⟩ : ∃ k : Nat, (if (9 : Int) < (s.length : Nat) then (9 : Int) else (s.length : Nat)) = (k : Int) ∧ 1 ≤ k ∧ k ≤ 9 ∧ k ≤ s.length := by
      have : 0 < s.length := List.length_pos_iff.2 hs0
      by_cases hz : (9 : Int) < (s.length : Nat)
      · exact ⟨9, by rw [if_pos hz]; rfl, by omega, by omega, by omega⟩
      · exact ⟨s.length, by rw [if_neg hz], by omega, by omega, Nat.le_refl _⟩
    have ht0 : s.take k ≠ [] := by
      intro e
      have := congrArg List.length e
      rw [List.length_take, Nat.min_eq_left hks] at this
      simp at this; omega
    have htl : (s.take k).length = k := by rw [List.length_take, Nat.min_eq_left hks]
    obtain ⟨hp, hplt⟩ := parse_ok ht0 (fun c hc => h2 c (List.mem_of_mem_take hc)) (by omega)
    have hp32 := parse32 (s.take k) _ (by omega) hp
    have hdv : decV (v * 10 ^ k + decV 0 (s.take k)) (s.drop k) = decV 0 S := by
      rw [← h3]
      conv => rhs; rw [← List.take_append_drop k s]
      rw [decV_append, decV_acc (s.take k) v, htl]
    have hxlt := decV_lt (l := s.take k) (fun c hc => h2 c (List.mem_of_mem_take hc))
    rw [htl] at hxlt
    have hvn : v * 10 ^ k + decV 0 (s.take k) < 10 ^ (S.length - (s.drop k).length) := by
      rw [List.length_drop, show S.length - (s.length - k) = (S.length - s.length) + k by omega, Nat.pow_add]
      have : (v + 1) * 10 ^ k ≤ 10 ^ (S.length - s.length) * 10 ^ k := Nat.mul_le_mul_right _ h4
      rw [Nat.add_mul] at this
      omega
    obtain ⟨x, hx⟩ : ∃ x, decV 0 (s.take k) = x := ⟨_, rfl⟩
    rw [hx] at hplt hp32 hdv hvn
    have hvl : (natL v).length ≤ S.length - s.length := natL_len_le (Nat.lt_of_lt_of_le h4 (Nat.pow_le_pow_left (by decide) _))
    have hma := mulAdd_ok (natL v) (10 ^ k) x (natL_lim v) (by omega) (by have := pow_le9 hk9; omega) (by omega)
    rw [valL_natL] at hma
    repeat (first | refine ax_q (q_move rfl) ?_ | refine ax_q (q_assign rfl) ?_ | refine ax_ops_nil ?_ | refine ax_post_code ?_ | refine ax_seq ?_ | refine ax_region rfl ?_ | refine ax_block ?_ | refine ax_skip ?_ | refine ax_q (q_lenstr rfl rfl) ?_ | refine ax_q (q_min rfl rfl) ?_ | refine ax_q (q_strslice rfl rfl rfl rfl rfl rfl (by omega)) ?_)
    rw [hk]
    refine ax_slot_ops 17 (.str (s.take k)) rfl (AEq.of_eq (by
      show AV.str ((List.drop 0 s).take (k - 0)) = _
      rw [List.drop_zero, Nat.sub_zero])) ?_
    refine ax_callv rfl rfl rfl hp32 ?_
    repeat (first | refine ax_q (q_move rfl) ?_ | refine ax_q (q_assign rfl) ?_ | refine ax_ops_nil ?_ | refine ax_post_code ?_ | refine ax_seq ?_ | refine ax_region rfl ?_ | refine ax_block ?_ | refine ax_q (q_extract rfl rfl) ?_)
    refine ax_loop (ι := Nat) (fun i => [(0, .str s), (3, natA v), (4, .int .i64 (k : Nat)), (5, .int .u64 (x : Nat)), (7, .int .u32 (10 ^ i : Nat)), (21, .int .i64 (k : Nat)), (22, .int .i64 (i : Nat))]) (fun _ => []) (fun i => i ≤ k) (fun i => k - i) 0 ⟨⟨rfl, rfl, rfl, rfl, rfl, rfl, rfl, trivial⟩, rfl, Nat.zero_le _⟩ ?_
    rintro i hi
    repeat (first | refine ax_ops_nil ?_ | refine ax_post_code ?_ | refine ax_seq ?_ | refine ax_region rfl ?_ | refine ax_q (q_lss rfl rfl) ?_)
    refine ax_cond_dec rfl (fun h6 => ?_) (fun h6 => ?_)
    · have hpw := pow_le9 (show i + 1 ≤ 9 by omega)
      rw [Nat.pow_succ] at hpw
      repeat (first | refine ax_q (q_move rfl) ?_ | refine ax_post_code ?_ | refine ax_seq ?_ | refine ax_region rfl ?_ | refine ax_block ?_ | refine ax_skip ?_)
      refine ax_q (q_umul (m := 10 ^ i) (n := 10) rfl rfl uk32 (by omega)) ?_
      repeat (first | refine ax_q (q_move rfl) ?_ | refine ax_q (q_assign rfl) ?_ | refine ax_ops_nil ?_ | refine ax_post_code ?_ | refine ax_region rfl ?_ | refine ax_post_blk ?_ | refine ax_q (q_add rfl rfl (by omega)) ?_)
      exact ax_post_inv ⟨i + 1, by omega, by omega, ⟨rfl, rfl, rfl, rfl, rfl, rfl, rfl, trivial⟩, rfl⟩
    · have hie : i = k := by omega
      subst hie
      repeat (first | refine ax_q (q_move rfl) ?_ | refine ax_post_code ?_ | refine ax_seq ?_ | refine ax_region rfl ?_ | refine ax_exit ?_ | refine ax_exit_here ?_ | refine ax_exit_code ?_ | refine ax_exit_inv ?_)
      refine ax_q (q_uconv (m := x) rfl rfl rfl uk32 (by omega)) ?_
      refine ax_callv rfl rfl rfl hma ?_
      repeat (first | refine ax_q (q_move rfl) ?_ | refine ax_q (q_assign rfl) ?_ | refine ax_ops_nil ?_ | refine ax_post_code ?_ | refine ax_region rfl ?_ | refine ax_post_blk ?_ | refine ax_q (q_strslice rfl rfl rfl rfl rfl rfl (by omega)) ?_)
      refine ax_post_inv ⟨(v * 10 ^ i + x, s.drop i), ⟨by simp only [List.length_drop]; omega, fun c hc => h2 c (List.mem_of_mem_drop hc), hdv, hvn⟩, by simp only [List.length_drop]; omega, ⟨?_, rfl, trivial⟩, rfl⟩
      show some (AV.str ((List.drop i s).take (s.length - i))) = _
      rw [List.take_of_length_le (by simp)]
  · have hs0 : s = [] := by
      rcases s with _ | ⟨x, r⟩
      · rfl
      · exact absurd (by simp) h5
    subst hs0
    repeat (first | refine ax_q (q_move rfl) ?_ | refine ax_q (q_assign rfl) ?_ | refine ax_ops_nil ?_ | refine ax_post_code ?_ | refine ax_seq ?_ | refine ax_region rfl ?_ | refine ax_exit ?_ | refine ax_exit_here ?_ | refine ax_exit_code ?_ | refine ax_exit_inv ?_ | refine ax_return ?_)
    refine ax_ret hR rfl ?_
    rw [← h3]; rfl
theorem text_zero : VCall Tryz.prog 185 [natA 0] (.str (Lib.decDigits 0)) := by
  refine ACall.value0 (acall_of_ax (P := Tryz.prog) (fn := Tryz.f185) rfl rfl (by kernel_rfl) rfl (fun c hR hfix => ?_)) (fix := fun _ => False) (fun _ h => h) rfl rfl
  have en : natA 0 = .ro (.ints .u32 []) 0 0 := by unfold natA; rw [natL_zero]; rfl
  rw [en]
  repeat (first | refine ax_q (q_move rfl) ?_ | refine ax_q (q_assign rfl) ?_ | refine ax_ops_nil ?_ | refine ax_post_code ?_ | refine ax_seq ?_ | refine ax_region rfl ?_ | refine ax_cond_true rfl ?_ | refine ax_return ?_ | refine ax_ret_code ?_ | refine ax_q (q_eql rfl rfl) ?_ | refine ax_q (q_len rfl rfl rfl) ?_)
  refine ax_ret hR rfl ?_
  rw [Lib.decDigits_one (by decide)]; rfl
theorem digits_len_b {n L : Nat} (h : (natL n).length ≤ L) (hL : 1 ≤ L) : (Lib.decDigits n).length ≤ 10 * L := by
  have h1 := valL_lt (natL_lim n)
  rw [valL_natL] at h1
  have h2 : B ^ (natL n).length ≤ B ^ L := Nat.pow_le_pow_right (by decide) h
  have h3 : B ^ L ≤ (10 ^ 10) ^ L := Nat.pow_le_pow_left (by decide) L
  rw [← Nat.pow_mul] at h3
  exact digits_len_le (by omega) (by omega)
theorem text_ok (n : Nat) (h : (natL n).length ≤ 1000000) : VCall Tryz.prog 185 [natA n] (.str (Lib.decDigits n)) := by
  rcases Nat.eq_zero_or_pos n with h0 | h0
  · subst h0; exact text_zero
  have hdl := digits_len_b h (by decide)
  have hn0 : 0 < (natL n).length := natL_pos_len.2 (by omega)
  refine ACall.value0 (acall_of_ax (P := Tryz.prog) (fn := Tryz.f185) rfl rfl (by kernel_rfl) rfl (fun c hR hfix => ?_)) (fix := fun _ => False) (fun _ h => h) rfl rfl
  unfold natA
  repeat (first | refine ax_q (q_move rfl) ?_ | refine ax_q (q_assign rfl) ?_ | refine ax_ops_nil ?_ | refine ax_post_code ?_ | refine ax_seq ?_ | refine ax_region rfl ?_ | refine ax_q (q_eql rfl rfl) ?_ | refine ax_q (q_len rfl rfl rfl) ?_)
  refine ax_cond_dec rfl (fun q => absurd q (by omega)) (fun q => ?_)
  repeat (first | refine ax_q (q_assign rfl) ?_ | refine ax_ops_nil ?_ | refine ax_post_code ?_ | refine ax_seq ?_ | refine ax_region rfl ?_ | refine ax_skip ?_)
  refine ax_nilobj 3 ⟨9, .strs []⟩ rfl rfl ?_
  refine ax_block ?_
  refine ax_loop (ι := Nat × List (List UInt8)) (fun p => [(0, natA p.1), (3, .sl 0 0 p.2.length)]) (fun p => [some ⟨9, .strs p.2⟩]) (fun p => (natL p.1).length ≤ 1000000 ∧ p.2.length ≤ p.2.reverse.flatten.length ∧ (if p.1 = 0 then Lib.decDigits n = p.2.reverse.flatten else Lib.decDigits n = Lib.decDigits p.1 ++ p.2.reverse.flatten)) (fun p => p.1) (n, [])
    ⟨⟨rfl, rfl, trivial⟩, rfl, h, by simp, by rw [if_neg (by simp only; omega)]; simp⟩ ?_
  rintro ⟨m, ps⟩ ⟨h1, h2, h3⟩
  simp only at *
  have hpos : 0 < (natL m).length ↔ m ≠ 0 := natL_pos_len
  have hds := divSmall_ok (natL m) 1000000000 (natL_lim m) (by omega) (by decide)
  rw [valL_natL] at hds
  have hflen : ps.reverse.flatten.length ≤ 10000000 := by
    have e : ps.reverse.flatten.length ≤ (Lib.decDigits n).length := by
      split at h3
      · rw [h3]; exact Nat.le_refl _
      · rw [h3, List.length_append]; omega
    omega
  have en : natA m = .ro (.ints .u32 (natL m)) 0 (natL m).length := rfl
  rw [en]
  repeat (first | refine ax_q (q_move rfl) ?_ | refine ax_ops_nil ?_ | refine ax_post_code ?_ | refine ax_seq ?_ | refine ax_region rfl ?_ | refine ax_q (q_gtr rfl rfl) ?_ | refine ax_q (q_len rfl rfl rfl) ?_)
  refine ax_cond_dec rfl (fun h4 => ?_) (fun h4 => ?_)
  · have hm0 : m ≠ 0 := hpos.1 (by omega)
    rw [if_neg hm0] at h3
    have hr : m % 1000000000 < 1000000000 := Nat.mod_lt _ (by decide)
    have hlt : m / 1000000000 < m := Nat.div_lt_self (by omega) (by decide)
    have hit := itoaN (m % 1000000000) (by omega)
    have hpos2 : 0 < (natL (m / 1000000000)).length ↔ m / 1000000000 ≠ 0 := natL_pos_len
    have hlen2 := natL_mono_len hlt h1
    have hrl : (Lib.decDigits (m % 1000000000)).length ≤ 9 := digits_len_le (by decide) (by have e9 : (10 : Nat) ^ 9 = 1000000000 := by decide
                                                                                            rw [e9]; exact hr)
    have hrp := repeat0 (9 - (Lib.decDigits (m % 1000000000)).length) (by omega)
    obtain ⟨t, ht0, htl, htp, htn⟩ : ∃ t : List UInt8, t ≠ [] ∧ t.length ≤ 9 ∧ (m / 1000000000 ≠ 0 → t = List.replicate (9 - (Lib.decDigits (m % 1000000000)).length) 48 ++ Lib.decDigits (m % 1000000000)) ∧ (m / 1000000000 = 0 → t = Lib.decDigits (m % 1000000000)) := by
      by_cases z : m / 1000000000 = 0
      · exact ⟨_, digits_ne _, hrl, fun h => absurd z h, fun _ => rfl⟩
      · refine ⟨_, ?_, ?_, fun _ => rfl, fun h => absurd h z⟩
        · simp [digits_ne]
        · simp; omega
    have hsplit : m / 1000000000 ≠ 0 → Lib.decDigits m = Lib.decDigits (m / 1000000000) ++ t := fun z => by
      have e9 : (10 : Nat) ^ 9 = 1000000000 := by decide
      have hs := digits_split (n := m) (k := 9) (by decide) (by rw [e9]; omega)
      rw [e9] at hs
      rw [hs, htp z]; rfl
    have hone : m / 1000000000 = 0 → Lib.decDigits m = t := fun z => by
      rw [htn z]
      congr 1
      have := Nat.div_add_mod m 1000000000
      omega
    have hnew : (if m / 1000000000 = 0 then Lib.decDigits n = (ps ++ [t]).reverse.flatten else Lib.decDigits n = Lib.decDigits (m / 1000000000) ++ (ps ++ [t]).reverse.flatten) := by
      rw [List.reverse_append, List.reverse_singleton, List.singleton_append, List.flatten_cons]
      split
      · rename_i z; rw [h3, hone z]
      · rename_i z; rw [h3, hsplit z, List.append_assoc]
    obtain ⟨r, hrr⟩ : ∃ r, m % 1000000000 = r := ⟨_, rfl⟩
    obtain ⟨d, hdd⟩ : ∃ d, m / 1000000000 = d := ⟨_, rfl⟩
    simp only [hrr, hdd] at *
    repeat (first | refine ax_q (q_move rfl) ?_ | refine ax_q (q_assign rfl) ?_ | refine ax_ops_nil ?_ | refine ax_post_code ?_ | refine ax_seq ?_ | refine ax_region rfl ?_ | refine ax_block ?_ | refine ax_skip ?_)
    refine ax_callv rfl rfl rfl hds ?_
    repeat (first | refine ax_q (q_move rfl) ?_ | refine ax_q (q_assign rfl) ?_ | refine ax_ops_nil ?_ | refine ax_post_code ?_ | refine ax_seq ?_ | refine ax_region rfl ?_ | refine ax_q (q_extract rfl rfl) ?_)
    refine ax_q (q_conv64 (m := r) rfl rfl rfl (by omega)) ?_
    refine ax_callv rfl rfl rfl hit ?_
    have en2 : natA d = .ro (.ints .u32 (natL d)) 0 (natL d).length := rfl
    rw [en2]
    repeat (first | refine ax_q (q_move rfl) ?_ | refine ax_q (q_assign rfl) ?_ | refine ax_ops_nil ?_ | refine ax_post_code ?_ | refine ax_seq ?_ | refine ax_region rfl ?_ | refine ax_q (q_gtr rfl rfl) ?_ | refine ax_q (q_len rfl rfl rfl) ?_)
    apply ax_tail_code (H := [some ⟨9, .strs ps⟩]) [(0, natA d), (3, .sl 0 0 ps.length), (5, .str t)]
    · intro fin
      refine ax_cond_dec rfl (fun q2 => ?_) (fun q2 => ?_)
      · have hd0 : d ≠ 0 := hpos2.1 (by omega)
        repeat (first | refine ax_q (q_move rfl) ?_ | refine ax_region rfl ?_ | refine ax_q (q_lenstr rfl rfl) ?_ | refine ax_q (q_sub rfl rfl (by omega)) ?_)
        refine ax_slot_ops 25 (.int .i64 (9 - (Lib.decDigits r).length : Nat)) rfl (AEq.of_eq (by congr 1; omega)) ?_
        refine ax_callv rfl rfl rfl hrp ?_
        repeat (refine ax_q (q_move rfl) ?_)
        refine ax_q (q_concat rfl rfl (by simp; omega)) ?_
        repeat (first | refine ax_q (q_assign rfl) ?_ | refine ax_ops_nil ?_ | refine ax_post_code ?_)
        exact fin _ ⟨rfl, rfl, by rw [htp hd0]; rfl, trivial⟩
      · have hd0 : d = 0 := by
          rcases Nat.eq_zero_or_pos d with z | z
          · exact z
          · exact absurd (by have := hpos2.2 (by omega); omega) q2
        repeat (first | refine ax_post_code ?_ | refine ax_skip ?_)
        exact fin _ ⟨rfl, rfl, by rw [htn hd0]; rfl, trivial⟩
    repeat (first | refine ax_q (q_move rfl) ?_ | refine ax_region rfl ?_ | refine ax_buildSliceRo rfl rfl rfl rfl rfl rfl rfl rfl rfl rfl rfl ?_)
    refine ax_append rfl rfl rfl rfl rfl rfl rfl rfl rfl rfl rfl rfl (Nat.le_refl 1) rfl (by show (ps.length + 1) * 16 ≤ _ ∧ _; omega) (fun i j _ _ => rfl) (by rw [hfix]; exact fun h => h) ?_
    repeat (first | refine ax_q (q_assign rfl) ?_ | refine ax_ops_nil ?_ | refine ax_post_blk ?_)
    refine ax_post_inv ⟨(d, ps ++ [t]), ⟨hlen2, ?_, hnew⟩, hlt, ⟨rfl, ?_, trivial⟩, rfl⟩
    · simp only [List.reverse_append, List.reverse_singleton, List.singleton_append, List.flatten_cons, List.length_append, List.length_singleton]
      have := List.length_pos_iff.2 ht0
      omega
    · show some (AV.sl 0 0 (ps.length + 1)) = _
      simp
  · have hm0 : m = 0 := by
      rcases Nat.eq_zero_or_pos m with q | q
      · exact q
      · exact absurd (by have := hpos.2 (by omega); omega) h4
    rw [if_pos hm0] at h3
    have hrv := reverse_ok ps (by omega)
    have hjl : (Lib.join ps.reverse []).length ≤ 140737488355328 := by rw [join_flat]; omega
    have hjn := join ps.reverse [] (by rw [List.length_reverse]; omega) hjl
    rw [join_flat, ← h3, List.length_reverse] at hjn
    repeat (first | refine ax_q (q_move rfl) ?_ | refine ax_post_code ?_ | refine ax_seq ?_ | refine ax_region rfl ?_ | refine ax_exit ?_ | refine ax_exit_here ?_ | refine ax_exit_code ?_ | refine ax_exit_inv ?_)
    refine ax_callc (fix := fun h => h < 1) rfl rfl rfl hrv (fun h hh => hh) (fun h hh => hh) ?_
    rintro r H rfl
    repeat (first | refine ax_q (q_move rfl) ?_ | refine ax_ops_nil ?_ | refine ax_post_code ?_ | refine ax_seq ?_ | refine ax_region rfl ?_)
    refine ax_give 0 35 ps.length [] rfl refless_strs rfl (by show _ ≤ ps.reverse.length; simp) trivial ?_
    refine ax_callv rfl rfl rfl hjn ?_
    repeat (first | refine ax_q (q_assign rfl) ?_ | refine ax_ops_nil ?_ | refine ax_post_code ?_ | refine ax_return ?_)
    exact ax_ret hR rfl rfl
end Go.Proofs.YtgmleamhjnlknaaGreatDoor

/-
  Placements in plain Lean: counts, numbers of placements, ranks. No program in sight.
-/
namespace Go.Ax.Idx

def outC (n : Int) : Bool := decide (n < 0 ∨ 16 < n)
def outK (n : Int) : Bool := decide (n < 0 ∨ 6 < n)
/-- index.CheckCounts -/
def checkCountsF (l : List Int) : Int :=
  if l.length ≠ 7 then 3 else if l.any outC then 4 else if 16 < l.sum then 2 else 0
/-- index.Check -/
def checkF (l : List Int) : Int := if 16 < l.length then 2 else if l.any outK then 4 else 0

def wstep (s : Int × Int) (k : Nat) : Int × Int := (s.1 * (s.2 + 1) / (k + 1), s.2 + 1)
def wrow (s : Int × Int) (c : Int) : Int × Int := (List.range c.toNat).foldl wstep s
def waysS (l : List Int) : Int × Int := l.foldl wrow (1, 0)
def waysF (l : List Int) : Int := (waysS l).1

def fct : Nat → Int
  | 0 => 1
  | n + 1 => (n + 1) * fct n
theorem fct_pos : ∀ n, 1 ≤ fct n
  | 0 => by simp [fct]
  | n + 1 => by
    have := fct_pos n
    simp only [fct]
    have h : (1 : Int) * 1 ≤ (n + 1) * fct n := Int.mul_le_mul (by omega) this (by omega) (by omega)
    omega
theorem fct_mono : ∀ d m, fct m ≤ fct (m + d) := by
  intro d
  induction d with
  | zero => intro m; exact Int.le_refl _
  | succ d ih =>
    intro m
    have h := ih m
    have p := fct_pos (m + d)
    have : fct (m + d + 1) = (m + d + 1) * fct (m + d) := by simp only [fct]; congr 1
    rw [← Nat.add_assoc, this]
    have h5 : (1 : Int) * fct (m + d) ≤ (m + d + 1) * fct (m + d) := Int.mul_le_mul_of_nonneg_right (by omega) (by omega)
    omega
/-- What holds of the two numbers while 'ways' counts. -/
structure WOk (s : Int × Int) (n : Nat) : Prop where
  num : s.2 = n
  lo : 0 ≤ s.1
  hi : s.1 ≤ fct n
theorem WOk.step {s : Int × Int} {n : Nat} (h : WOk s n) (k : Nat) : WOk (wstep s k) (n + 1) := by
  obtain ⟨h1, h2, h3⟩ := h
  have hm : 0 ≤ s.1 * (s.2 + 1) := Int.mul_nonneg h2 (by omega)
  refine ⟨by simp only [wstep]; omega, Int.ediv_nonneg hm (by omega), ?_⟩
  simp only [wstep, fct]
  refine Int.le_trans (Int.ediv_le_self _ hm) ?_
  rw [h1, Int.mul_comm]
  exact Int.mul_le_mul_of_nonneg_left h3 (by omega)
theorem WOk.range {s : Int × Int} {n : Nat} (h : WOk s n) (j : Nat) : WOk ((List.range j).foldl wstep s) (n + j) := by
  induction j with
  | zero => exact h
  | succ j ih => rw [List.range_succ, List.foldl_append]; exact ih.step j
theorem WOk.mul {s : Int × Int} {n : Nat} (h : WOk s n) (hn : n ≤ 15) : 0 ≤ s.1 * (s.2 + 1) ∧ s.1 * (s.2 + 1) ≤ 9223372036854775807 := by
  obtain ⟨h1, h2, h3⟩ := h
  have h4 : fct n ≤ fct 15 := by
    have := fct_mono (15 - n) n
    rwa [show n + (15 - n) = 15 by omega] at this
  have h5 : fct 15 = 1307674368000 := by decide
  refine ⟨Int.mul_nonneg h2 (by omega), ?_⟩
  have : s.1 * (s.2 + 1) ≤ 1307674368000 * 16 := Int.mul_le_mul (by omega) (by omega) (by omega) (by omega)
  omega
theorem sum_nonneg : ∀ m : List Int, (∀ x ∈ m, 0 ≤ x) → 0 ≤ m.sum := by
  intro m
  induction m with
  | nil => intro _; simp
  | cons x r ih => intro hm; simp only [List.sum_cons]; have := hm x (by simp); have := ih (fun y hy => hm y (by simp [hy])); omega
theorem sum_take_le (l : List Int) (h0 : ∀ x ∈ l, 0 ≤ x) (k : Nat) : (l.take k).sum ≤ l.sum := by
  have h : l.sum = (l.take k).sum + (l.drop k).sum := by rw [← List.sum_append, List.take_append_drop]
  have := sum_nonneg (l.drop k) (fun x hx => h0 x (List.mem_of_mem_drop hx))
  omega
/-- The place of the first element with a property, or -1. -/
def idxF {α : Type} (p : α → Bool) : List α → Int
  | [] => -1
  | x :: r => if p x then 0 else if idxF p r < 0 then -1 else idxF p r + 1
theorem idxF_neg {α : Type} (p : α → Bool) (l : List α) (h : idxF p l < 0) : idxF p l = -1 := by
  cases l with
  | nil => rfl
  | cons x r =>
    simp only [idxF] at h ⊢
    by_cases h1 : p x = true
    · simp [h1] at h
    · by_cases h2 : idxF p r < 0
      · simp [h1, h2]
      · simp only [h1, h2, if_false, Bool.false_eq_true] at h
        omega
theorem idxF_take {α : Type} (p : α → Bool) (l : List α) (k : Nat) (h : (l.take k).any p = false) (hk : k ≤ l.length) : idxF p l = if idxF p (l.drop k) < 0 then -1 else idxF p (l.drop k) + k := by
  induction k generalizing l with
  | zero =>
    simp only [List.drop_zero]
    split
    · exact idxF_neg p l (by assumption)
    · omega
  | succ k ih => cases l with
    | nil => simp at hk
    | cons x r =>
      simp only [List.take_succ_cons, List.any_cons, Bool.or_eq_false_iff] at h
      have := ih r h.2 (by simpa using hk)
      simp only [idxF, h.1, List.drop_succ_cons, Bool.false_eq_true, if_false]
      rw [this]
      split <;> split <;> omega
theorem idxF_any {α : Type} (p : α → Bool) (l : List α) : decide (0 ≤ idxF p l) = l.any p := by
  induction l with
  | nil => rfl
  | cons x r ih =>
    simp only [idxF, List.any_cons]
    by_cases h1 : p x = true
    · simp [h1]
    · simp only [Bool.not_eq_true] at h1
      simp only [h1, Bool.false_eq_true, if_false, Bool.false_or]
      rw [← ih]
      by_cases h2 : idxF p r < 0
      · rw [if_pos h2]; simp; omega
      · rw [if_neg h2]; congr 1; simp; omega

/-- How often each kind occurs. -/
def cnt (m : List Int) : List Int := (List.range 7).map fun (i : Nat) => ((m.count (i : Int) : Nat) : Int)
theorem getD_set {l : List Int} {i j : Nat} {v : Int} (hi : i < l.length) : (l.set i v).getD j 0 = if j = i then v else l.getD j 0 := by
  by_cases h : j = i
  · subst h; simp [List.getD, hi]
  · simp only [List.getD, h, if_false]
    rw [List.getElem?_set_ne (fun e => h e.symm)]
/-- One less of kind i. -/
def less (l : List Int) (i : Nat) : List Int := l.set i (l.getD i 0 - 1)
/-- The numbers of placements that begin with a smaller kind. -/
def rrow (l : List Int) (c : Nat) : Int := ((List.range c).map fun i => if 0 < l.getD i 0 then waysF (less l i) else 0).sum
def rankF : List Int → Int
  | [] => 0
  | c :: r => rrow (cnt (c :: r)) c.toNat + rankF r
end Go.Ax.Idx

/-
  Decks of cards in plain Lean. No program in sight.
-/
namespace Go.Ax.Cd
open Go.Ax.Idx

def eqp (v y : Int) : Bool := decide (v = y)
/-- cards.Check, from some card on -/
def deckGo (seen : List Int) : List Int → Int
  | [] => 0
  | c :: r => if c < 0 ∨ 52 ≤ c then 4 else if seen.any (eqp c) then 7 else deckGo (seen ++ [c]) r
def deckF (l : List Int) : Int := if 52 < l.length then 2 else deckGo [] l
/-- cards.Fits -/
def fitsGo (n : Int) (j : Nat) : List Int → Int
  | [] => 0
  | d :: r => if d < 0 ∨ n - 1 - j < d then 4 else fitsGo n (j + 1) r
def fitsF (n : Int) (l : List Int) : Int := if (l.length : Int) ≠ (if 1 > n then 1 else n) - 1 then 3 else fitsGo n 0 l
/-- The first numbers. -/
def iota (n : Nat) : List Int := (List.range n).map fun (i : Nat) => (i : Int)
def swapF (l : List Int) (i k : Nat) : List Int := (l.set i (l.getD k 0)).set k (l.getD i 0)
/-- cards.Shuffle, from some draw on -/
def shufGo (l : List Int) (j : Nat) : List Int → List Int
  | [] => l
  | d :: r => shufGo (swapF l (l.length - 1 - j) d.toNat) (j + 1) r
def shufF (l draws : List Int) : List Int := shufGo l 0 draws
/-- The draws between two decks, from place i on downwards: what is still to be placed is 'now'. -/
def drawsGo (to : List Int) : Nat → List Int → List Int
  | 0, _ => []
  | i + 1, now => idxF (eqp (to.getD (i + 1) 0)) now :: drawsGo to i (swapF now (i + 1) (idxF (eqp (to.getD (i + 1) 0)) now).toNat)
def drawsF (l to : List Int) : List Int := drawsGo to (l.length - 1) l
def drawsE (l to : List Int) : Int := if l.length ≠ to.length then 3 else if to.any (fun c => !(l.any (eqp c))) then 3 else 0
end Go.Ax.Cd
namespace Go.Ax.Cd
open Go.Ax.Idx
end Go.Ax.Cd
namespace Go.Ax.Cd
open Go.Ax.Idx
/-- The hands behind so many cards. -/
def dealGo (P : Nat) (l : List Int) : Nat → List (List Int)
  | 0 => List.replicate P []
  | m + 1 => (dealGo P l m).set (m % P) ((dealGo P l m).getD (m % P) [] ++ [l.getD m 0])
end Go.Ax.Cd

namespace Go.Proofs.YtgmleamhjnlknaaGreatDoor
open Go.Ax Go.Ax.Idx Go.Ax.Cd
attribute [local irreducible] Ax Post QOp ACall
set_option maxRecDepth 100000
set_option maxHeartbeats 4000000

theorem indexI (l : List Int) (v : Int) (hlen : l.length ≤ 9223372036854775807) :
    VCall Tryz.prog 113 [.ro (.ints .i64 l) 0 l.length, .int .i64 v] (.int .i64 (idxF (eqp v) l)) := by
  refine ACall.value0 (acall_of_ax (P := Tryz.prog) (fn := Tryz.f113) rfl rfl (by kernel_rfl) rfl (fun c hR hfix => ?_)) (fix := fun _ => False) (fun _ h => h) rfl rfl
  repeat (first | refine ax_q (q_move rfl) ?_ | refine ax_q (q_assign rfl) ?_ | refine ax_ops_nil ?_ | refine ax_post_code ?_ | refine ax_seq ?_ | refine ax_region rfl ?_ | refine ax_block ?_ | refine ax_q (q_len rfl rfl rfl) ?_)
  refine ax_loop (ι := Nat) (fun k => [(0, .ro (.ints .i64 l) 0 l.length), (1, .int .i64 v), (7, .int .i64 (l.length : Nat)), (8, .int .i64 (k : Nat))]) (fun _ => [])
    (fun k => k ≤ l.length ∧ (l.take k).any (eqp v) = false) (fun k => l.length - k) 0 ⟨⟨rfl, rfl, rfl, rfl, trivial⟩, rfl, Nat.zero_le _, rfl⟩ ?_
  intro k ⟨hk, hany⟩
  repeat (first | refine ax_ops_nil ?_ | refine ax_post_code ?_ | refine ax_seq ?_ | refine ax_region rfl ?_ | refine ax_q (q_lss rfl rfl) ?_)
  refine ax_cond_dec rfl (fun h => ?_) (fun h => ?_)
  · have hk' : k < l.length := by omega
    have hanys := any_take_succ (eqp v) l 0 k hk'
    repeat (first | refine ax_q (q_move rfl) ?_ | refine ax_q (q_assign rfl) ?_ | refine ax_q (q_loadi_rp rfl rfl rfl) ?_ | refine ax_ops_nil ?_ | refine ax_post_code ?_ | refine ax_seq ?_ | refine ax_region rfl ?_ | refine ax_block ?_ | refine ax_skip ?_ | refine ax_q (q_eql rfl rfl) ?_ | refine ax_q (q_index_ro' rfl rfl rfl rfl (by first | (simp only [Nat.zero_add, Int.toNat_natCast, Int.toNat_zero]; exact rfl) | exact rfl) (by omega)) ?_)
    refine ax_cond_dec rfl (fun h2 => ?_) (fun h2 => ?_)
    · repeat (first | refine ax_q (q_move rfl) ?_ | refine ax_q (q_assign rfl) ?_ | refine ax_ops_nil ?_ | refine ax_post_code ?_ | refine ax_seq ?_ | refine ax_region rfl ?_ | refine ax_return ?_ | refine ax_ret_code ?_ | refine ax_ret_blk ?_ | refine ax_ret_inv ?_)
      refine ax_ret hR rfl ?_
      have := idxF_take (eqp v) l k hany hk
      rw [drop_getD l 0 k hk'] at this
      have h3 : eqp v (l.getD k 0) = true := by simpa [eqp] using h2
      simp only [idxF, h3, if_true] at this
      rw [this]; simp [tupOf]
    · repeat (first | refine ax_q (q_move rfl) ?_ | refine ax_ops_nil ?_ | refine ax_post_code ?_ | refine ax_region rfl ?_ | refine ax_post_blk ?_ | refine ax_skip ?_ | refine ax_q (q_add rfl rfl (by omega)) ?_)
      have h3 : eqp v (l.getD k 0) = false := by simpa [eqp] using h2
      refine ax_post_inv ⟨k + 1, ⟨by omega, by rw [hanys, hany, h3]; rfl⟩, by omega, ⟨rfl, rfl, rfl, rfl, trivial⟩, rfl⟩
  · have hk' : k = l.length := by omega
    subst hk'
    repeat (first | refine ax_q (q_assign rfl) ?_ | refine ax_ops_nil ?_ | refine ax_post_code ?_ | refine ax_seq ?_ | refine ax_region rfl ?_ | refine ax_exit ?_ | refine ax_exit_here ?_ | refine ax_exit_code ?_ | refine ax_exit_inv ?_ | refine ax_return ?_)
    refine ax_ret hR rfl ?_
    have := idxF_take (eqp v) l l.length hany hk
    rw [List.drop_length] at this
    rw [this]; rfl

theorem containsV (l : List Int) (v : Int) (hlen : l.length ≤ 9223372036854775807) :
    VCall Tryz.prog 45 [.ro (.ints .i64 l) 0 l.length, .int .i64 v] (.bool (l.any (eqp v))) := by
  refine ACall.value0 (acall_of_ax (P := Tryz.prog) (fn := Tryz.f45) rfl rfl (by kernel_rfl) rfl (fun c hR hfix => ?_)) (fix := fun _ => False) (fun _ h => h) rfl rfl
  repeat (first | refine ax_q (q_move rfl) ?_ | refine ax_q (q_assign rfl) ?_ | refine ax_ops_nil ?_ | refine ax_post_code ?_ | refine ax_seq ?_ | refine ax_region rfl ?_)
  refine ax_callv rfl rfl rfl (indexI l v hlen) ?_
  repeat (first | refine ax_q (q_assign rfl) ?_ | refine ax_ops_nil ?_ | refine ax_post_code ?_ | refine ax_return ?_ | refine ax_q (q_geq rfl rfl) ?_)
  refine ax_ret hR rfl ?_
  simp only [tupOf, idxF_any]

theorem equalI (a b : List Int) (hlen : a.length ≤ 9223372036854775807) (hlb : b.length ≤ 9223372036854775807) : VCall Tryz.prog 109 [.ro (.ints .i64 a) 0 a.length, .ro (.ints .i64 b) 0 b.length] (.bool (decide (a = b))) := by
  refine ACall.value0 (acall_of_ax (P := Tryz.prog) (fn := Tryz.f109) rfl rfl (by kernel_rfl) rfl (fun c hR hfix => ?_)) (fix := fun _ => False) (fun _ h => h) rfl rfl
  repeat (first | refine ax_q (q_move rfl) ?_ | refine ax_q (q_assign rfl) ?_ | refine ax_ops_nil ?_ | refine ax_post_code ?_ | refine ax_seq ?_ | refine ax_region rfl ?_ | refine ax_q (q_neq rfl rfl) ?_ | refine ax_q (q_len rfl rfl rfl) ?_)
  refine ax_cond_dec rfl (fun h => ?_) (fun h => ?_)
  · repeat (first | refine ax_q (q_assign rfl) ?_ | refine ax_ops_nil ?_ | refine ax_post_code ?_ | refine ax_seq ?_ | refine ax_region rfl ?_ | refine ax_return ?_ | refine ax_ret_code ?_)
    refine ax_ret hR rfl ?_
    have : ¬ a = b := by rintro rfl; exact h rfl
    simp [tupOf, this]
  have hab : a.length = b.length := by omega
  repeat (first | refine ax_q (q_move rfl) ?_ | refine ax_ops_nil ?_ | refine ax_post_code ?_ | refine ax_seq ?_ | refine ax_region rfl ?_ | refine ax_block ?_ | refine ax_skip ?_ | refine ax_q (q_len rfl rfl rfl) ?_)
  refine ax_loop (ι := Nat) (fun k => [(0, .ro (.ints .i64 a) 0 a.length), (1, .ro (.ints .i64 b) 0 b.length), (12, .int .i64 (a.length : Nat)), (13, .int .i64 (k : Nat))]) (fun _ => [])
    (fun k => k ≤ a.length ∧ a.take k = b.take k) (fun k => a.length - k) 0 ⟨⟨rfl, rfl, rfl, rfl, trivial⟩, rfl, Nat.zero_le _, rfl⟩ ?_
  intro k ⟨hk, heq⟩
  repeat (first | refine ax_ops_nil ?_ | refine ax_post_code ?_ | refine ax_seq ?_ | refine ax_region rfl ?_ | refine ax_q (q_lss rfl rfl) ?_)
  refine ax_cond_dec rfl (fun h2 => ?_) (fun h2 => ?_)
  · have hk' : k < a.length := by omega
    have ha := take_succ_getD a 0 k hk'
    have hb := take_succ_getD b 0 k (by omega)
    repeat (first | refine ax_q (q_move rfl) ?_ | refine ax_q (q_assign rfl) ?_ | refine ax_ops_nil ?_ | refine ax_post_code ?_ | refine ax_seq ?_ | refine ax_region rfl ?_ | refine ax_block ?_ | refine ax_skip ?_)
    refine ax_regionq (by kernel_rfl) (by kernel_rfl) rfl ?_
    repeat (first | refine ax_q (q_move rfl) ?_ | refine ax_q (q_loadi_rp rfl rfl rfl) ?_ | refine ax_ops_nil ?_ | refine ax_post_code ?_ | refine ax_q (q_neq rfl rfl) ?_ | refine ax_q (q_index_ro' rfl rfl rfl rfl (by first | (simp only [Nat.zero_add, Int.toNat_natCast, Int.toNat_zero]; exact rfl) | exact rfl) (by omega)) ?_)
    refine ax_cond_dec rfl (fun h3 => ?_) (fun h3 => ?_)
    · repeat (first | refine ax_q (q_assign rfl) ?_ | refine ax_ops_nil ?_ | refine ax_post_code ?_ | refine ax_seq ?_ | refine ax_region rfl ?_ | refine ax_return ?_ | refine ax_ret_code ?_ | refine ax_ret_blk ?_ | refine ax_ret_inv ?_)
      refine ax_ret hR rfl ?_
      have : ¬ a = b := by rintro rfl; exact h3 rfl
      simp [tupOf, this]
    · repeat (first | refine ax_q (q_move rfl) ?_ | refine ax_ops_nil ?_ | refine ax_post_code ?_ | refine ax_region rfl ?_ | refine ax_post_blk ?_ | refine ax_skip ?_ | refine ax_q (q_add rfl rfl (by omega)) ?_)
      have h4 : a.getD k 0 = b.getD k 0 := by omega
      exact ax_post_inv ⟨k + 1, ⟨by omega, by rw [ha, hb, heq, h4]⟩, by omega, ⟨rfl, rfl, rfl, rfl, trivial⟩, rfl⟩
  · have hk' : k = a.length := by omega
    subst hk'
    rw [List.take_length, hab, List.take_length] at heq
    repeat (first | refine ax_q (q_assign rfl) ?_ | refine ax_ops_nil ?_ | refine ax_post_code ?_ | refine ax_seq ?_ | refine ax_region rfl ?_ | refine ax_exit ?_ | refine ax_exit_here ?_ | refine ax_exit_code ?_ | refine ax_exit_inv ?_ | refine ax_return ?_)
    refine ax_ret hR rfl ?_
    simp [tupOf, heq]

theorem indexFuncI (l : List Int) (g : FuncId) (caps : List AV) (p : Int → Bool) (hc : noRef.noRefs caps = true) (hlen : l.length ≤ 9223372036854775807) (hp : ∀ x ∈ l, VCall Tryz.prog g ([.int .i64 x] ++ caps) (.bool (p x))) :
    VCall Tryz.prog 209 [.ro (.ints .i64 l) 0 l.length, .fn g caps] (.int .i64 (idxF p l)) := by
  refine ACall.value0 (acall_of_ax (P := Tryz.prog) (fn := Tryz.f209) rfl rfl (by kernel_rfl) rfl (fun c hR hfix => ?_)) (fix := fun _ => False) (fun _ h => h) (by simp [noRef.noRefs, noRef, hc]) rfl
  repeat (first | refine ax_q (q_move rfl) ?_ | refine ax_q (q_assign rfl) ?_ | refine ax_ops_nil ?_ | refine ax_post_code ?_ | refine ax_seq ?_ | refine ax_region rfl ?_ | refine ax_block ?_ | refine ax_q (q_len rfl rfl rfl) ?_)
  refine ax_loop (ι := Nat) (fun k => [(0, .ro (.ints .i64 l) 0 l.length), (1, .fn g caps), (7, .int .i64 (l.length : Nat)), (8, .int .i64 (k : Nat))]) (fun _ => [])
    (fun k => k ≤ l.length ∧ (l.take k).any p = false) (fun k => l.length - k) 0 ⟨⟨rfl, rfl, rfl, rfl, trivial⟩, rfl, Nat.zero_le _, rfl⟩ ?_
  intro k ⟨hk, hany⟩
  repeat (first | refine ax_ops_nil ?_ | refine ax_post_code ?_ | refine ax_seq ?_ | refine ax_region rfl ?_ | refine ax_q (q_lss rfl rfl) ?_)
  refine ax_cond_dec rfl (fun h => ?_) (fun h => ?_)
  · have hk' : k < l.length := by omega
    have hanys := any_take_succ p l 0 k hk'
    repeat (first | refine ax_q (q_move rfl) ?_ | refine ax_q (q_assign rfl) ?_ | refine ax_q (q_loadi_rp rfl rfl rfl) ?_ | refine ax_ops_nil ?_ | refine ax_post_code ?_ | refine ax_seq ?_ | refine ax_region rfl ?_ | refine ax_block ?_ | refine ax_skip ?_ | refine ax_q (q_index_ro' rfl rfl rfl rfl (by first | (simp only [Nat.zero_add, Int.toNat_natCast, Int.toNat_zero]; exact rfl) | exact rfl) (by omega)) ?_)
    refine ax_callv rfl rfl rfl (hp _ (getD_mem 0 hk')) ?_
    repeat (first | refine ax_ops_nil ?_ | refine ax_post_code ?_)
    refine ax_cond rfl (fun h2 => ?_) (fun h2 => ?_)
    · repeat (first | refine ax_q (q_move rfl) ?_ | refine ax_q (q_assign rfl) ?_ | refine ax_ops_nil ?_ | refine ax_post_code ?_ | refine ax_seq ?_ | refine ax_region rfl ?_ | refine ax_return ?_ | refine ax_ret_code ?_ | refine ax_ret_blk ?_ | refine ax_ret_inv ?_)
      refine ax_ret hR rfl ?_
      have := idxF_take p l k hany hk
      rw [drop_getD l 0 k hk'] at this
      simp only [idxF, h2, if_true] at this
      rw [this]; simp [tupOf]
    · repeat (first | refine ax_q (q_move rfl) ?_ | refine ax_ops_nil ?_ | refine ax_post_code ?_ | refine ax_region rfl ?_ | refine ax_post_blk ?_ | refine ax_skip ?_ | refine ax_q (q_add rfl rfl (by omega)) ?_)
      refine ax_post_inv ⟨k + 1, ⟨by omega, by rw [hanys, hany, h2]; rfl⟩, by omega, ⟨rfl, rfl, rfl, rfl, trivial⟩, rfl⟩
  · have hk' : k = l.length := by omega
    subst hk'
    repeat (first | refine ax_q (q_assign rfl) ?_ | refine ax_ops_nil ?_ | refine ax_post_code ?_ | refine ax_seq ?_ | refine ax_region rfl ?_ | refine ax_exit ?_ | refine ax_exit_here ?_ | refine ax_exit_code ?_ | refine ax_exit_inv ?_ | refine ax_return ?_)
    refine ax_ret hR rfl ?_
    have := idxF_take p l l.length hany hk
    rw [List.drop_length] at this
    rw [this]; rfl

theorem containsI (l : List Int) (g : FuncId) (caps : List AV) (p : Int → Bool) (hc : noRef.noRefs caps = true) (hlen : l.length ≤ 9223372036854775807) (hp : ∀ x ∈ l, VCall Tryz.prog g ([.int .i64 x] ++ caps) (.bool (p x))) :
    VCall Tryz.prog 187 [.ro (.ints .i64 l) 0 l.length, .fn g caps] (.bool (l.any p)) := by
  refine ACall.value0 (acall_of_ax (P := Tryz.prog) (fn := Tryz.f187) rfl rfl (by kernel_rfl) rfl (fun c hR hfix => ?_)) (fix := fun _ => False) (fun _ h => h) (by simp [noRef.noRefs, noRef, hc]) rfl
  repeat (first | refine ax_q (q_move rfl) ?_ | refine ax_q (q_assign rfl) ?_ | refine ax_ops_nil ?_ | refine ax_post_code ?_ | refine ax_seq ?_ | refine ax_region rfl ?_)
  refine ax_callv rfl rfl rfl (indexFuncI l g caps p hc hlen hp) ?_
  repeat (first | refine ax_q (q_assign rfl) ?_ | refine ax_ops_nil ?_ | refine ax_post_code ?_ | refine ax_return ?_ | refine ax_q (q_geq rfl rfl) ?_)
  refine ax_ret hR rfl ?_
  simp only [tupOf, idxF_any]

theorem indexFuncE (l : List Int) (g : FuncId) (caps : List AV) (p : Int → Bool) (hc : noRef.noRefs caps = true) (hlen : l.length ≤ 9223372036854775807) (hp : ∀ x ∈ l, VCall Tryz.prog g ([.int .i64 x] ++ caps) (.bool (p x))) :
    VCall Tryz.prog 153 [.ro (.ints .i64 l) 0 l.length, .fn g caps] (.int .i64 (idxF p l)) := by
  refine ACall.value0 (acall_of_ax (P := Tryz.prog) (fn := Tryz.f153) rfl rfl (by kernel_rfl) rfl (fun c hR hfix => ?_)) (fix := fun _ => False) (fun _ h => h) (by simp [noRef.noRefs, noRef, hc]) rfl
  repeat (first | refine ax_q (q_move rfl) ?_ | refine ax_q (q_assign rfl) ?_ | refine ax_ops_nil ?_ | refine ax_post_code ?_ | refine ax_seq ?_ | refine ax_region rfl ?_ | refine ax_block ?_ | refine ax_q (q_len rfl rfl rfl) ?_)
  refine ax_loop (ι := Nat) (fun k => [(0, .ro (.ints .i64 l) 0 l.length), (1, .fn g caps), (7, .int .i64 (l.length : Nat)), (8, .int .i64 (k : Nat))]) (fun _ => [])
    (fun k => k ≤ l.length ∧ (l.take k).any p = false) (fun k => l.length - k) 0 ⟨⟨rfl, rfl, rfl, rfl, trivial⟩, rfl, Nat.zero_le _, rfl⟩ ?_
  intro k ⟨hk, hany⟩
  repeat (first | refine ax_ops_nil ?_ | refine ax_post_code ?_ | refine ax_seq ?_ | refine ax_region rfl ?_ | refine ax_q (q_lss rfl rfl) ?_)
  refine ax_cond_dec rfl (fun h => ?_) (fun h => ?_)
  · have hk' : k < l.length := by omega
    have hanys := any_take_succ p l 0 k hk'
    repeat (first | refine ax_q (q_move rfl) ?_ | refine ax_q (q_assign rfl) ?_ | refine ax_q (q_loadi_rp rfl rfl rfl) ?_ | refine ax_ops_nil ?_ | refine ax_post_code ?_ | refine ax_seq ?_ | refine ax_region rfl ?_ | refine ax_block ?_ | refine ax_skip ?_ | refine ax_q (q_index_ro' rfl rfl rfl rfl (by first | (simp only [Nat.zero_add, Int.toNat_natCast, Int.toNat_zero]; exact rfl) | exact rfl) (by omega)) ?_)
    refine ax_callv rfl rfl rfl (hp _ (getD_mem 0 hk')) ?_
    repeat (first | refine ax_ops_nil ?_ | refine ax_post_code ?_)
    refine ax_cond rfl (fun h2 => ?_) (fun h2 => ?_)
    · repeat (first | refine ax_q (q_move rfl) ?_ | refine ax_q (q_assign rfl) ?_ | refine ax_ops_nil ?_ | refine ax_post_code ?_ | refine ax_seq ?_ | refine ax_region rfl ?_ | refine ax_return ?_ | refine ax_ret_code ?_ | refine ax_ret_blk ?_ | refine ax_ret_inv ?_)
      refine ax_ret hR rfl ?_
      have := idxF_take p l k hany hk
      rw [drop_getD l 0 k hk'] at this
      simp only [idxF, h2, if_true] at this
      rw [this]; simp [tupOf]
    · repeat (first | refine ax_q (q_move rfl) ?_ | refine ax_ops_nil ?_ | refine ax_post_code ?_ | refine ax_region rfl ?_ | refine ax_post_blk ?_ | refine ax_skip ?_ | refine ax_q (q_add rfl rfl (by omega)) ?_)
      refine ax_post_inv ⟨k + 1, ⟨by omega, by rw [hanys, hany, h2]; rfl⟩, by omega, ⟨rfl, rfl, rfl, rfl, trivial⟩, rfl⟩
  · have hk' : k = l.length := by omega
    subst hk'
    repeat (first | refine ax_q (q_assign rfl) ?_ | refine ax_ops_nil ?_ | refine ax_post_code ?_ | refine ax_seq ?_ | refine ax_region rfl ?_ | refine ax_exit ?_ | refine ax_exit_here ?_ | refine ax_exit_code ?_ | refine ax_exit_inv ?_ | refine ax_return ?_)
    refine ax_ret hR rfl ?_
    have := idxF_take p l l.length hany hk
    rw [List.drop_length] at this
    rw [this]; rfl

theorem containsE (l : List Int) (g : FuncId) (caps : List AV) (p : Int → Bool) (hc : noRef.noRefs caps = true) (hlen : l.length ≤ 9223372036854775807) (hp : ∀ x ∈ l, VCall Tryz.prog g ([.int .i64 x] ++ caps) (.bool (p x))) :
    VCall Tryz.prog 86 [.ro (.ints .i64 l) 0 l.length, .fn g caps] (.bool (l.any p)) := by
  refine ACall.value0 (acall_of_ax (P := Tryz.prog) (fn := Tryz.f86) rfl rfl (by kernel_rfl) rfl (fun c hR hfix => ?_)) (fix := fun _ => False) (fun _ h => h) (by simp [noRef.noRefs, noRef, hc]) rfl
  repeat (first | refine ax_q (q_move rfl) ?_ | refine ax_q (q_assign rfl) ?_ | refine ax_ops_nil ?_ | refine ax_post_code ?_ | refine ax_seq ?_ | refine ax_region rfl ?_)
  refine ax_callv rfl rfl rfl (indexFuncE l g caps p hc hlen hp) ?_
  repeat (first | refine ax_q (q_assign rfl) ?_ | refine ax_ops_nil ?_ | refine ax_post_code ?_ | refine ax_return ?_ | refine ax_q (q_geq rfl rfl) ?_)
  refine ax_ret hR rfl ?_
  simp only [tupOf, idxF_any]

def notOk (e : Int) : Bool := decide (e ≠ 0)
theorem fine1 (n : Int) : VCall Tryz.prog 87 [.int .i64 n] (.bool (notOk n)) := by
  refine ACall.value0 (acall_of_ax (P := Tryz.prog) (fn := Tryz.f87) rfl rfl (by kernel_rfl) rfl (fun c hR hfix => ?_)) (fix := fun _ => False) (fun _ h => h) rfl rfl
  repeat (first | refine ax_q (q_move rfl) ?_ | refine ax_q (q_assign rfl) ?_ | refine ax_ops_nil ?_ | refine ax_post_code ?_ | refine ax_seq ?_ | refine ax_region rfl ?_ | refine ax_return ?_ | refine ax_q (q_neq rfl rfl) ?_)
  refine ax_ret hR rfl ?_
  simp [tupOf, notOk]
theorem fineI (l : List Int) (hlen : l.length ≤ 1000) : VCall Tryz.prog 29 [.ro (.ints .i64 l) 0 l.length] (.bool (!(l.any notOk))) := by
  refine ACall.value0 (acall_of_ax (P := Tryz.prog) (fn := Tryz.f29) rfl rfl (by kernel_rfl) rfl (fun c hR hfix => ?_)) (fix := fun _ => False) (fun _ h => h) rfl rfl
  repeat (first | refine ax_q (q_move rfl) ?_ | refine ax_q (q_assign rfl) ?_ | refine ax_ops_nil ?_ | refine ax_post_code ?_ | refine ax_seq ?_ | refine ax_region rfl ?_)
  refine ax_callv rfl rfl rfl (containsE l 87 [] notOk rfl (by omega) (fun x _ => fine1 x)) ?_
  repeat (first | refine ax_q (q_assign rfl) ?_ | refine ax_ops_nil ?_ | refine ax_post_code ?_ | refine ax_return ?_ | refine ax_q (q_not rfl) ?_)
  exact ax_ret hR rfl rfl

end Go.Proofs.YtgmleamhjnlknaaGreatDoor

/-
  The functions of package nat, told on texts, in plain Lean. No program in sight.
-/
namespace Go.Ax.Bg
open Go.Ax.Tb (digit)

def canonB (s : List UInt8) : Bool := decide (s ≠ []) && s.all dg && (decide (s.getD 0 0 ≠ 48) || decide (s.length = 1))
theorem canonB_iff {s : List UInt8} : canonB s = true ↔ Canon s := by
  unfold canonB Canon
  simp only [Bool.and_eq_true, Bool.or_eq_true, decide_eq_true_eq, List.all_eq_true, dg_iff]
  constructor
  · rintro ⟨⟨h1, h2⟩, h3⟩; exact ⟨h1, h2, h3⟩
  · rintro ⟨h1, h2, h3⟩; exact ⟨⟨h1, h2⟩, h3⟩
def natE (s : List UInt8) : Int := if canonB s = false then 5 else if 2000 < s.length then 2 else 0
theorem natE_ok {s : List UInt8} (h : natE s = 0) : Canon s ∧ s.length ≤ 2000 := by
  unfold natE at h
  split at h
  · omega
  · split at h
    · omega
    · rename_i h1 h2
      exact ⟨canonB_iff.1 (by simpa using h1), by omega⟩
def twoE (a b : List UInt8) : Int := if natE a ≠ 0 then natE a else natE b
theorem val_len {s : List UInt8} (h : Canon s) {k : Nat} (hl : s.length ≤ k) : (natL (decV 0 s)).length ≤ k := by
  refine natL_len_le (Nat.lt_of_lt_of_le (decV_lt h.2.1) ?_)
  exact Nat.le_trans (Nat.pow_le_pow_right (by decide) hl) (Nat.pow_le_pow_left (by decide) k)
/-- A result, if it is not too long. -/
def resF (n : Nat) : List UInt8 × Int := if 2000 < (Lib.decDigits n).length then ([], 2) else (Lib.decDigits n, 0)
/-- Texts that are not too long spell numbers below this one. -/
def powT : Nat → Nat
  | 0 => 1
  | k + 1 => 10 * powT k
theorem powT_eq : ∀ k, powT k = 10 ^ k
  | 0 => rfl
  | k + 1 => by rw [powT, powT_eq k, Nat.pow_succ, Nat.mul_comm]
def TB : Nat := powT 2000
theorem TB_eq : TB = 10 ^ 2000 := powT_eq 2000
theorem TB_len {n : Nat} (h : n < TB) : (Lib.decDigits n).length ≤ 2000 := by
  rw [TB_eq] at h
  revert h
  generalize hk : 2000 = k
  intro h
  exact digits_len_le (by omega) h
theorem resF_ok {n : Nat} (h : n < TB) : resF n = (Lib.decDigits n, 0) := by
  unfold resF
  rw [if_neg (by have := TB_len h; omega)]
def addF (a b : List UInt8) : List UInt8 × Int := if twoE a b ≠ 0 then ([], twoE a b) else resF (decV 0 a + decV 0 b)
def mulF (a b : List UInt8) : List UInt8 × Int := if twoE a b ≠ 0 then ([], twoE a b) else resF (decV 0 a * decV 0 b)
def subF (a b : List UInt8) : List UInt8 × Int := if twoE a b ≠ 0 then ([], twoE a b) else if decV 0 a < decV 0 b then ([], 4) else resF (decV 0 a - decV 0 b)
def divF (a b : List UInt8) : List UInt8 × List UInt8 × Int := if twoE a b ≠ 0 then ([], [], twoE a b) else if decV 0 b = 0 then ([], [], 18) else (Lib.decDigits (decV 0 a / decV 0 b), Lib.decDigits (decV 0 a % decV 0 b), 0)
def gcdF (a b : List UInt8) : List UInt8 × Int := if twoE a b ≠ 0 then ([], twoE a b) else (Lib.decDigits (Nat.gcd (decV 0 a) (decV 0 b)), 0)
def ncmpF (a b : List UInt8) : Int × Int := if twoE a b ≠ 0 then (0, twoE a b) else (cmpZ (decV 0 a) (decV 0 b), 0)
/-- Products of numbers from one to another. -/
def prodF (low : Nat) : Nat → Nat
  | 0 => 1
  | k + 1 => prodF low k * (low + k)
def factN (n : Nat) : Nat := prodF 1 n
def factF (n : Int) : List UInt8 × Int := if n < 0 ∨ 1000 < n then ([], 4) else resF (factN n.toNat)
def binoF (n k : Int) : List UInt8 × Int := if n < 0 ∨ 1000 < n ∨ k < 0 ∨ n < k then ([], 4) else (Lib.decDigits (prodF (n.toNat - k.toNat + 1) k.toNat / factN k.toNat), 0)
/-- A text that spells n. -/
def IsN (s : List UInt8) (n : Nat) : Prop := natE s = 0 ∧ decV 0 s = n
theorem IsN.self {s : List UInt8} (h : natE s = 0) : IsN s (decV 0 s) := ⟨h, rfl⟩
theorem IsN.dig {s : List UInt8} {n : Nat} (h : IsN s n) : s = Lib.decDigits n := by
  rw [← h.2, canon_eq (natE_ok h.1).1]
theorem IsN.two {a b : List UInt8} {m n : Nat} (ha : IsN a m) (hb : IsN b n) : twoE a b = 0 := by
  unfold twoE; rw [if_neg (by simp [ha.1])]; exact hb.1
theorem IsN.lt {a : List UInt8} {m k : Nat} (ha : IsN a m) (h : a.length ≤ k) : m < 10 ^ k := by
  rw [← ha.2]
  exact Nat.lt_of_lt_of_le (decV_lt (natE_ok ha.1).1.2.1) (Nat.pow_le_pow_right (by decide) h)
theorem IsN.lt2 {a : List UInt8} {m : Nat} (ha : IsN a m) : m < TB := by
  have h := (natE_ok ha.1).2
  rw [TB_eq]
  revert h
  generalize 2000 = j
  intro h
  exact ha.lt h
theorem IsN.add {a b : List UInt8} {m n : Nat} (ha : IsN a m) (hb : IsN b n) (h : m + n < TB) : addF a b = (Lib.decDigits (m + n), 0) := by
  unfold addF; rw [if_neg (by simp [ha.two hb]), ha.2, hb.2, resF_ok h]
theorem IsN.mul {a b : List UInt8} {m n : Nat} (ha : IsN a m) (hb : IsN b n) (h : m * n < TB) : mulF a b = (Lib.decDigits (m * n), 0) := by
  unfold mulF; rw [if_neg (by simp [ha.two hb]), ha.2, hb.2, resF_ok h]
theorem IsN.sub {a b : List UInt8} {m n : Nat} (ha : IsN a m) (hb : IsN b n) : subF a b = if m < n then ([], 4) else (Lib.decDigits (m - n), 0) := by
  unfold subF; rw [if_neg (by simp [ha.two hb]), ha.2, hb.2, resF_ok (by have := ha.lt2; omega)]
theorem IsN.gcd {a b : List UInt8} {m n : Nat} (ha : IsN a m) (hb : IsN b n) : gcdF a b = (Lib.decDigits (Nat.gcd m n), 0) := by
  unfold gcdF; rw [if_neg (by simp [ha.two hb]), ha.2, hb.2]
theorem IsN.inj {a b : List UInt8} {n : Nat} (ha : IsN a n) (hb : IsN b n) : a = b := by rw [ha.dig, hb.dig]
theorem lt_big {n k : Nat} (h : n < 10 ^ k) (hk : k ≤ 2000) : n < TB := by
  rw [TB_eq]
  revert hk
  generalize 2000 = j
  intro hk
  exact Nat.lt_of_lt_of_le h (Nat.pow_le_pow_right (by decide) hk)
theorem mul_big {m n j k : Nat} (hm : m < 10 ^ j) (hn : n < 10 ^ k) : m * n < 10 ^ (j + k) := by
  rw [Nat.pow_add]; exact Nat.mul_lt_mul'' hm hn
theorem add_big {m n k : Nat} (hm : m < 10 ^ k) (hn : n < 10 ^ k) : m + n < 10 ^ (k + 1) := by
  rw [Nat.pow_succ]; omega
/-- Choices. -/
def ch : Nat → Nat → Nat
  | _, 0 => 1
  | 0, _ + 1 => 0
  | n + 1, k + 1 => ch n k + ch n (k + 1)
end Go.Ax.Bg

namespace Go.Proofs.YtgmleamhjnlknaaGreatDoor
open Go.Ax Go.Ax.Bg Go.RowKit
open Go.Ax.Tb (digit digit_of digits_digit digits_ne)
attribute [local irreducible] Ax Post QOp ACall
set_option maxRecDepth 100000
set_option maxHeartbeats 4000000

theorem digits_ok (s : List UInt8) (hs : s.length ≤ 9223372036854775807) : VCall Tryz.prog 150 [.str s] (.bool (canonB s)) := by
  have ht := trim_ok s hs
  have hn := trR_nil (s := s)
  have hc : canonB s = (decide (s ≠ []) && s.all dg && (decide (s.getD 0 0 ≠ 48) || decide (s.length = 1))) := rfl
  refine ACall.value0 (acall_of_ax (P := Tryz.prog) (fn := Tryz.f150) rfl rfl (by kernel_rfl) rfl (fun c hR hfix => ?_)) (fix := fun _ => False) (fun _ h => h) rfl rfl
  generalize trL (trR s) = u at *
  generalize canonB s = b at *
  by_cases h0 : s = []
  · subst h0
    repeat (first | refine ax_q (q_move rfl) ?_ | refine ax_q (q_assign rfl) ?_ | refine ax_ops_nil ?_ | refine ax_post_code ?_ | refine ax_seq ?_ | refine ax_region rfl ?_ | refine ax_skip_undef rfl rfl ?_ | refine ax_skip_not rfl rfl rfl ?_ | refine ax_return ?_ | refine ax_q (q_pick rfl rfl) ?_ | refine ax_q (q_strneq rfl rfl) ?_)
    refine ax_ret hR rfl ?_
    rw [hc]; rfl
  have hlen : 0 < s.length := List.length_pos_iff.2 h0
  repeat (first | refine ax_q (q_move rfl) ?_ | refine ax_q (q_assign rfl) ?_ | refine ax_ops_nil ?_ | refine ax_post_code ?_ | refine ax_seq ?_ | refine ax_region rfl ?_ | refine ax_q (q_strneq rfl rfl) ?_)
  refine ax_gsplit rfl rfl (fun h1 => ?_) (fun h1 => absurd h0 h1)
  repeat (first | refine ax_q (q_move rfl) ?_ | refine ax_guard rfl rfl ?_)
  refine ax_callv rfl rfl rfl ht ?_
  repeat (first | refine ax_q (q_move rfl) ?_ | refine ax_guard rfl rfl ?_ | refine ax_q (q_pick rfl rfl) ?_ | refine ax_q (q_streql rfl rfl) ?_)
  refine ax_gsplit rfl rfl (fun h2 => ?_) (fun h2 => ?_)
  · have ha : s.all dg = true := hn.1 h2
    rw [decide_eq_true h0, ha, Bool.true_and, Bool.true_and] at hc
    repeat (first | refine ax_q (q_move rfl) ?_ | refine ax_guard rfl rfl ?_ | refine ax_q (q_neq rfl rfl) ?_ | refine ax_q (q_stridx rfl rfl rfl (by first | assumption | omega | simp)) ?_)
    refine ax_gsplit rfl rfl (fun h3 => ?_) (fun h3 => ?_)
    · have h4 : decide (s.getD 0 0 ≠ 48) = true := decide_eq_true (fun e => h3 (by simp only [Int.toNat_zero]; rw [e]; rfl))
      rw [h4, Bool.true_or] at hc
      repeat (first | refine ax_q (q_assign rfl) ?_ | refine ax_ops_nil ?_ | refine ax_post_code ?_ | refine ax_guard rfl rfl ?_ | refine ax_skip_not rfl rfl rfl ?_ | refine ax_return ?_ | refine ax_q (q_pick rfl rfl) ?_)
      refine ax_ret hR rfl ?_
      rw [hc]; rfl
    · have h5 : s.getD 0 0 = 48 := by
        simp only [Int.toNat_zero] at h3
        apply UInt8.toNat_inj.1
        have : ((s.getD 0 0).toNat : Int) = 48 := by omega
        show (s.getD 0 0).toNat = 48
        omega
      have h4 : decide (s.getD 0 0 ≠ 48) = false := decide_eq_false (fun e => e h5)
      rw [h4, Bool.false_or] at hc
      repeat (first | refine ax_q (q_move rfl) ?_ | refine ax_q (q_assign rfl) ?_ | refine ax_ops_nil ?_ | refine ax_post_code ?_ | refine ax_guard rfl rfl ?_ | refine ax_return ?_ | refine ax_q (q_eql rfl rfl) ?_ | refine ax_q (q_pick rfl rfl) ?_ | refine ax_q (q_lenstr rfl rfl) ?_)
      refine ax_ret hR rfl ?_
      rw [hc]
      show AV.bool (decide ((s.length : Int) = 1)) = _
      congr 1
      rw [decide_eq_decide]; omega
  · have ha : s.all dg = false := by
      cases hq : s.all dg with
      | false => rfl
      | true => exact absurd (hn.2 hq) h2
    rw [ha, Bool.and_false, Bool.false_and] at hc
    repeat (first | refine ax_q (q_assign rfl) ?_ | refine ax_ops_nil ?_ | refine ax_post_code ?_ | refine ax_skip_undef rfl rfl ?_ | refine ax_skip_not rfl rfl rfl ?_ | refine ax_return ?_ | refine ax_q (q_pick rfl rfl) ?_)
    refine ax_ret hR rfl ?_
    rw [hc]; rfl
def twoA (a b : List UInt8) : AV := .tup (if twoE a b ≠ 0 then [.nil, .nil, .int .i64 (twoE a b)] else [natA (decV 0 a), natA (decV 0 b), .int .i64 0])
def pairA (p : List UInt8 × Int) : AV := .tup [.str p.1, .int .i64 p.2]
end Go.Proofs.YtgmleamhjnlknaaGreatDoor

namespace Go.Proofs.YtgmleamhjnlknaaGreatDoor
open Go.Ax Go.Ax.Bg Go.RowKit
open Go.Ax.Tb (digit digit_of digits_digit digits_ne)
attribute [local irreducible] Ax Post QOp ACall
set_option maxRecDepth 100000
set_option maxHeartbeats 4000000

theorem len_mul {a b k : Nat} (ha : (natL a).length ≤ k) (hb : (natL b).length ≤ k) : (natL (a * b)).length ≤ k + k := by
  have h1 := valL_lt (natL_lim a)
  have h2 := valL_lt (natL_lim b)
  rw [valL_natL] at h1 h2
  refine natL_len_le ?_
  rw [Nat.pow_add]
  refine Nat.mul_lt_mul'' (Nat.lt_of_lt_of_le h1 (Nat.pow_le_pow_right (by decide) ha)) (Nat.lt_of_lt_of_le h2 (Nat.pow_le_pow_right (by decide) hb))
theorem len_add {a b k : Nat} (ha : (natL a).length ≤ k) (hb : (natL b).length ≤ k) : (natL (a + b)).length ≤ k + 1 := by
  have h1 := valL_lt (natL_lim a)
  have h2 := valL_lt (natL_lim b)
  rw [valL_natL] at h1 h2
  refine natL_len_le ?_
  have h3 : B ^ (natL a).length ≤ B ^ k := Nat.pow_le_pow_right (by decide) ha
  have h4 : B ^ (natL b).length ≤ B ^ k := Nat.pow_le_pow_right (by decide) hb
  rw [Nat.pow_succ]
  have : B ^ k * 2 ≤ B ^ k * B := Nat.mul_le_mul_left _ (by decide)
  omega
def tripA (p : List UInt8 × List UInt8 × Int) : AV := .tup [.str p.1, .str p.2.1, .int .i64 p.2.2]
end Go.Proofs.YtgmleamhjnlknaaGreatDoor

/-
  A region whose order is open, all of whose operations but the last ones leave the memory as it is: whatever order, one end.
-/
namespace Go.Ax
variable [Pins]
open Go.RowKit

theorem knows_of {fr : Fr} : ∀ {K : Fr}, (∀ p ∈ K, look p.1 fr = some p.2) → knows fr K
  | [], _ => have _pin := (inferInstance : Pins); trivial
  | (t, v) :: r, h => ⟨h (t, v) (by simp), knows_of (fun p hp => h p (by simp [hp]))⟩
theorem of_knows {fr : Fr} : ∀ {K : Fr}, knows fr K → ∀ p ∈ K, look p.1 fr = some p.2
  | [], _, p, hp => have _pin := (inferInstance : Pins); by simp at hp
  | (t, v) :: r, h, p, hp => by
    rcases List.mem_cons.1 hp with rfl | hp
    · exact h.1
    · exact of_knows h.2 p hp
theorem ev_knows {fr K : Fr} (h : knows fr K) {o : Operand} {v : AV} (he : ev K o = some v) : ev fr o = some v := by
  have _pin := (inferInstance : Pins)
  cases o with
  | tmp t => exact look_knows h he
  | const x => exact he
  | «global» g => cases he
  | func f => exact he
theorem evs_knows {fr K : Fr} (h : knows fr K) : ∀ {xs : List Operand} {l : List AV}, evs K xs = some l → evs fr xs = some l
  | [], l, he => have _pin := (inferInstance : Pins); he
  | x :: r, l, he => by
    simp only [evs] at he ⊢
    split at he
    · rename_i v hv
      split at he
      · rename_i q hq
        rw [ev_knows h hv, evs_knows h hq]
        exact he
      · cases he
    · cases he
section
variable {P : Program} {fn : Func} {c : Ctx} {fr : Fr} {H : AHeap} {k : List It}
/-- An operation that yields v and leaves the memory as it is told. -/
def PureOp (P : Program) (fn : Func) (c : Ctx) (H : AHeap) (all : Array Oper) (K : Fr) (o : Oper) (d : Nat) (v : AV) : Prop :=
  ∀ (k : List It) (fr : Fr), knows fr K → Ax P fn c (.ops false all [] k) ((d, v) :: fr) H → Ax P fn c (.ops false all [o] k) fr H
theorem pure_q {all : Array Oper} {K : Fr} {d : Nat} {op : Op} {ty : TypeId} {pos : String} {after : Array Edge} {v : AV} (h : QOp false P fn c K H ⟨some d, op, ty, pos, after, none⟩ v) : PureOp P fn c H all K ⟨some d, op, ty, pos, after, none⟩ d v :=
  fun k fr hk h2 => ax_q (fun w a σ S hr => h w a σ S (hr.weaken hk)) h2
theorem pure_v {all : Array Oper} {K : Fr} {d : Nat} {g : Operand} {args : List Operand} {ats : Array TypeId} {ty : TypeId} {pos : String} {after : Array Edge} {f : FuncId} {caps ags ags' : List AV} {r : AV} (hg : ev K g = some (.fn f caps)) (ha : evs K args = some ags) (has : ags ++ caps = ags') (hcall : VCall P f ags' r) :
    PureOp P fn c H all K ⟨some d, .call { callee := .value g, args := args.toArray, argTypes := ats }, ty, pos, after, none⟩ d r :=
  fun k fr hk h2 => ax_callv (ev_knows hk hg) (evs_knows hk ha) has hcall h2
/-- A guard that holds. -/
theorem pure_gyes {all : Array Oper} {K : Fr} {d : Nat} {op : Op} {ty : TypeId} {pos : String} {after : Array Edge} {v : AV} {j t : Nat} {p : Bool} (hy : yslot all j = some t) (hb : look t K = some (.bool p)) (h : PureOp P fn c H all K ⟨some d, op, ty, pos, after, none⟩ d v) : PureOp P fn c H all K ⟨some d, op, ty, pos, after, some (j, p)⟩ d v :=
  fun k fr hk h2 => ax_guard hy (look_knows hk hb) (h k fr hk h2)
/-- A guard that does not hold: nothing is left in the slot. -/
theorem pure_gno {all : Array Oper} {K : Fr} {d : Nat} {op : Op} {ty : TypeId} {pos : String} {after : Array Edge} {j t : Nat} {p b : Bool} (hy : yslot all j = some t) (hb : look t K = some (.bool b)) (hne : (b == p) = false) : PureOp P fn c H all K ⟨some d, op, ty, pos, after, some (j, p)⟩ d (.tup []) :=
  fun k fr hk h2 => ax_skip_not hy (look_knows hk hb) hne h2
abbrev Steps := List (Nat × Nat × AV)
def frmOf (st : Steps) (K0 : Fr) (o : Oper) : Fr := ((st.filter (fun s => o.after.toList.any (fun e => Nat.beq e.on s.1 && Region.binds .any e))).map (fun s => s.2)) ++ K0
/-- One operation after the other, in the order that is given. -/
def PRun (P : Program) (fn : Func) (c : Ctx) (H : AHeap) (all : Array Oper) (K0 : Fr) : List Nat → Steps → (Steps → Prop) → Prop
  | [], st, G => G st
  | i :: r, st, G => ∃ o d v, all[i]? = some o ∧ o.dst = some d ∧ PureOp P fn c H all (frmOf st K0 o) o d v ∧ PRun P fn c H all K0 r ((i, d, v) :: st) G
theorem px_step {all : Array Oper} {K0 : Fr} {i : Nat} {r : List Nat} {st : Steps} {G : Steps → Prop} {d : Nat} {op : Op} {ty : TypeId} {pos : String} {after : Array Edge} {v : AV} (hi : all[i]? = some ⟨some d, op, ty, pos, after, none⟩)
    (hop : PureOp P fn c H all (frmOf st K0 ⟨some d, op, ty, pos, after, none⟩) ⟨some d, op, ty, pos, after, none⟩ d v) (h : PRun P fn c H all K0 r ((i, d, v) :: st) G) : PRun P fn c H all K0 (i :: r) st G :=
  ⟨_, _, _, hi, rfl, hop, h⟩
theorem px_q {all : Array Oper} {K0 : Fr} {i : Nat} {r : List Nat} {st : Steps} {G : Steps → Prop} {d : Nat} {op : Op} {ty : TypeId} {pos : String} {after : Array Edge} {v : AV} {K : Fr} (hi : all[i]? = some ⟨some d, op, ty, pos, after, none⟩)
    (hK : frmOf st K0 ⟨some d, op, ty, pos, after, none⟩ = K) (hop : QOp false P fn c K H ⟨some d, op, ty, pos, after, none⟩ v) (h : PRun P fn c H all K0 r ((i, d, v) :: st) G) : PRun P fn c H all K0 (i :: r) st G :=
  px_step hi (hK ▸ pure_q hop) h
theorem px_v {all : Array Oper} {K0 : Fr} {i : Nat} {r : List Nat} {st : Steps} {G : Steps → Prop} {d : Nat} {g : Operand} {args : List Operand} {ats : Array TypeId} {ty : TypeId} {pos : String} {after : Array Edge} {f : FuncId} {caps ags ags' : List AV} {v : AV} {K : Fr} (hi : all[i]? = some ⟨some d, .call { callee := .value g, args := args.toArray, argTypes := ats }, ty, pos, after, none⟩)
    (hK : frmOf st K0 ⟨some d, .call { callee := .value g, args := args.toArray, argTypes := ats }, ty, pos, after, none⟩ = K) (hg : ev K g = some (.fn f caps)) (ha : evs K args = some ags) (has : ags ++ caps = ags') (hcall : VCall P f ags' v)
    (h : PRun P fn c H all K0 r ((i, d, v) :: st) G) : PRun P fn c H all K0 (i :: r) st G :=
  px_step hi (hK ▸ pure_v hg ha has hcall) h
theorem px_gq {all : Array Oper} {K0 : Fr} {i : Nat} {r : List Nat} {st : Steps} {G : Steps → Prop} {d : Nat} {op : Op} {ty : TypeId} {pos : String} {after : Array Edge} {v : AV} {K : Fr} {j t : Nat} {p : Bool} (hi : all[i]? = some ⟨some d, op, ty, pos, after, some (j, p)⟩)
    (hK : frmOf st K0 ⟨some d, op, ty, pos, after, some (j, p)⟩ = K) (hy : yslot all j = some t) (hb : look t K = some (.bool p)) (hop : QOp false P fn c K H ⟨some d, op, ty, pos, after, none⟩ v) (h : PRun P fn c H all K0 r ((i, d, v) :: st) G) : PRun P fn c H all K0 (i :: r) st G :=
  ⟨_, _, _, hi, rfl, hK ▸ pure_gyes hy hb (pure_q hop), h⟩
theorem px_gno {all : Array Oper} {K0 : Fr} {i : Nat} {r : List Nat} {st : Steps} {G : Steps → Prop} {d : Nat} {op : Op} {ty : TypeId} {pos : String} {after : Array Edge} {K : Fr} {j t : Nat} {p b : Bool} (hi : all[i]? = some ⟨some d, op, ty, pos, after, some (j, p)⟩)
    (hK : frmOf st K0 ⟨some d, op, ty, pos, after, some (j, p)⟩ = K) (hy : yslot all j = some t) (hb : look t K = some (.bool b)) (hne : (b == p) = false) (h : PRun P fn c H all K0 r ((i, d, .tup []) :: st) G) : PRun P fn c H all K0 (i :: r) st G :=
  ⟨_, _, _, hi, rfl, hK ▸ pure_gno hy hb hne, h⟩
theorem px_done {all : Array Oper} {K0 : Fr} {st : Steps} {G : Steps → Prop} (h : G st) : PRun P fn c H all K0 [] st G := h

/-- What the steps tell. -/
def StepOk (P : Program) (fn : Func) (c : Ctx) (H : AHeap) (all : Array Oper) (K0 : Fr) (st : Steps) (s : Nat × Nat × AV) : Prop :=
  ∃ o K, all[s.1]? = some o ∧ o.dst = some s.2.1 ∧ PureOp P fn c H all K o s.2.1 s.2.2 ∧ ∀ p ∈ K, p ∈ K0 ∨ ∃ s' ∈ st, (∃ e ∈ o.after, Region.binds .any e = true ∧ e.on = s'.1) ∧ s'.2 = p
theorem StepOk.mono {all : Array Oper} {K0 : Fr} {st st' : Steps} {s : Nat × Nat × AV} (hs : ∀ x ∈ st, x ∈ st') (h : StepOk P fn c H all K0 st s) : StepOk P fn c H all K0 st' s := by
  obtain ⟨o, K, h1, h2, h3, h4⟩ := h
  refine ⟨o, K, h1, h2, h3, fun p hp => ?_⟩
  rcases h4 p hp with q | ⟨s', q1, q2⟩
  · exact .inl q
  · exact .inr ⟨s', hs _ q1, q2⟩
theorem prun_steps {all : Array Oper} {K0 : Fr} {G : Steps → Prop} : ∀ {idx : List Nat} {st : Steps}, PRun P fn c H all K0 idx st G → (∀ s ∈ st, StepOk P fn c H all K0 st s) → ∃ st', G st' ∧ st'.map (·.1) = idx.reverse ++ st.map (·.1) ∧ (∀ s ∈ st', StepOk P fn c H all K0 st' s)
  | [], st, h, hs => ⟨st, h, by simp, hs⟩
  | i :: r, st, h, hs => by
    obtain ⟨o, d, v, h1, h2, h3, h4⟩ := h
    have hsub : ∀ x ∈ st, x ∈ (i, d, v) :: st := fun x hx => List.mem_cons_of_mem _ hx
    have hstep : StepOk P fn c H all K0 ((i, d, v) :: st) (i, d, v) := by
      refine ⟨o, frmOf st K0 o, h1, h2, h3, fun p hp => ?_⟩
      unfold frmOf at hp
      rcases List.mem_append.1 hp with q | q
      · obtain ⟨s, q1, q2⟩ := List.mem_map.1 q
        obtain ⟨q3, q4⟩ := List.mem_filter.1 q1
        obtain ⟨e, q5, q6⟩ := List.any_eq_true.1 q4
        rw [Bool.and_eq_true] at q6
        exact .inr ⟨s, hsub _ q3, ⟨e, Array.mem_toList_iff.1 q5, q6.2, Nat.eq_of_beq_eq_true q6.1⟩, q2⟩
      · exact .inl q
    obtain ⟨st', g1, g2, g3⟩ := prun_steps h4 (fun s hs' => by
      rcases List.mem_cons.1 hs' with rfl | q
      · exact hstep
      · exact (hs s q).mono hsub)
    exact ⟨st', g1, by rw [g2]; simp, g3⟩
theorem allR_of {all : Array Oper} {fuel : Nat} {listed : Array Bool} : ∀ {is : List Nat}, (∀ i ∈ is, ∀ o, all[i]? = some o → Ax P fn c (.ops false all [o] (.any all fuel (listed.setIfInBounds i true) :: k)) fr H) → AllR P fn c all fuel listed k fr H is
  | [], _ => trivial
  | i :: r, h => ⟨h i (by simp), allR_of (fun j hj => h j (by simp [hj]))⟩
/-- May these operations run in any order, ahead of all others? -/
def okRun (all : Array Oper) (listed : Array Bool) (idx : List Nat) (k0 : List Nat) : Bool :=
  (idx.all fun i => !listed.getD i true && (match all[i]? with
    | some o => (match o.dst with | some d => !k0.contains d | none => false) && o.after.toList.all (fun e => !Region.binds .any e || (Nat.blt e.on i && (idx.contains e.on || listed.getD e.on false)))
    | none => false)) &&
  ((List.range all.size).all fun j => idx.contains j || listed.getD j true || (match all[j]? with
    | some o => idx.all (fun i => o.after.toList.any (fun e => Nat.beq e.on i && Region.binds .any e))
    | none => true)) &&
  (idx.all fun i => idx.all fun j => Nat.beq i j || !(match all[i]?, all[j]? with | some o, some o' => o.dst == o'.dst | _, _ => false))
def setAll (listed : Array Bool) (idx : List Nat) : Array Bool := idx.foldl (fun a i => a.setIfInBounds i true) listed
theorem setAll_size : ∀ (idx : List Nat) (listed : Array Bool), (setAll listed idx).size = listed.size
  | [], _ => have _pin := (inferInstance : Pins); rfl
  | i :: r, listed => by
    have := setAll_size r (listed.setIfInBounds i true)
    simpa [setAll] using this
theorem setAll_get : ∀ (idx : List Nat) (listed : Array Bool) (j : Nat), j < listed.size → (setAll listed idx)[j]? = if j ∈ idx then some true else listed[j]?
  | [], _, j, _ => have _pin := (inferInstance : Pins); by simp [setAll]
  | i :: r, listed, j, hj => by
    have h := setAll_get r (listed.setIfInBounds i true) j (by simpa using hj)
    have e : setAll listed (i :: r) = setAll (listed.setIfInBounds i true) r := rfl
    rw [e, h]
    by_cases h1 : j ∈ r
    · simp [h1]
    · by_cases h2 : i = j
      · subst h2; simp [h1, hj]
      · have h3 : ¬ j = i := fun e => h2 e.symm
        simp [h1, h2, h3, Array.getElem?_setIfInBounds]
def unl (cur : Array Bool) (st : Steps) : Nat := (st.filter (fun s => !cur.getD s.1 true)).length
theorem ax_any_run {all : Array Oper} {fuel : Nat} {listed listed' : Array Bool} (idx : List Nat) (K0 : Fr) (hK : knows fr K0) (hok : okRun all listed idx (K0.map (·.1)) = true) (hnd : idx.Nodup) (hd : dstsOK fn.ntmps all.toList = true) (hl : setAll listed idx = listed')
    (h : PRun P fn c H all K0 idx [] (fun st => Ax P fn c (.any all fuel listed' k) (st.map (·.2) ++ K0) H)) : Ax P fn c (.any all (fuel + idx.length) listed k) fr H := by
  obtain ⟨st, hG, hidx, hst⟩ := prun_steps h (fun s hs => by simp at hs)
  rw [List.map_nil, List.append_nil] at hidx
  clear h
  unfold okRun at hok
  simp only [Bool.and_eq_true] at hok
  obtain ⟨⟨ok1, ok2⟩, ok3⟩ := hok
  rw [List.all_eq_true] at ok1 ok2 ok3
  have hmem : ∀ i, i ∈ idx ↔ ∃ s ∈ st, s.1 = i := fun i => by
    have : i ∈ idx.reverse ↔ ∃ s ∈ st, s.1 = i := by rw [← hidx]; simp
    rw [← this, List.mem_reverse]
  have hlen : st.length = idx.length := by
    have := congrArg List.length hidx
    simpa using this
  have hnd' : (st.map (·.1)).Nodup := by rw [hidx]; exact (List.reverse_perm idx).nodup_iff.2 hnd
  have hlt : ∀ i ∈ idx, i < listed.size := fun i hi => by
    have := ok1 i hi
    simp only [Bool.and_eq_true, Bool.not_eq_true'] at this
    rcases Nat.lt_or_ge i listed.size with q | q
    · exact q
    · have h1 := this.1
      simp only [Array.getD, show ¬ i < listed.size by omega, dite_false] at h1
      cases h1
  -- the induction
  have key : ∀ (m : Nat) (cur : Array Bool) (fr : Fr), cur.size = listed.size → (∀ j, j ∉ idx → cur[j]? = listed[j]?) → unl cur st = m → (∀ s ∈ st, cur.getD s.1 true = true → look s.2.1 fr = some s.2.2) → knows fr K0 → Ax P fn c (.any all (fuel + m) cur k) fr H := by
    intro m
    induction m with
    | zero =>
      intro cur fr hcs hco hcm hck hk0
      have hall : ∀ s ∈ st, cur.getD s.1 true = true := fun s hs => by
        cases hq : cur.getD s.1 true with
        | true => rfl
        | false =>
          exfalso
          have h0 : st.filter (fun s => !cur.getD s.1 true) = [] := List.length_eq_zero_iff.1 hcm
          have : s ∈ st.filter (fun s => !cur.getD s.1 true) := List.mem_filter.2 ⟨hs, by rw [hq]; rfl⟩
          rw [h0] at this; simp at this
      have hcur : cur = listed' := by
        rw [← hl]
        apply Array.ext_getElem?
        intro j
        rcases Nat.lt_or_ge j listed.size with q | q
        · rw [setAll_get idx listed j q]
          by_cases hj : j ∈ idx
          · rw [if_pos hj]
            obtain ⟨s, hs1, hs2⟩ := (hmem j).1 hj
            have := hall s hs1
            rw [hs2] at this
            simp only [Array.getD, show j < cur.size by omega, dite_true] at this
            rw [Array.getElem?_eq_getElem (by omega)]
            exact congrArg some this
          · rw [if_neg hj]; exact hco j hj
        · rw [Array.getElem?_eq_none (by omega), Array.getElem?_eq_none (by rw [setAll_size]; omega)]
      subst hcur
      intro w a σ S hr
      refine hG w a σ S (hr.weaken (knows_of fun p hp => ?_))
      rcases List.mem_append.1 hp with q | q
      · obtain ⟨s, q1, q2⟩ := List.mem_map.1 q
        rw [← q2]; exact hck s q1 (hall s q1)
      · exact of_knows hk0 p q
    | succ m ih =>
      intro cur fr hcs hco hcm hck hk0
      -- some step is left
      obtain ⟨s0, hs0, hs0u⟩ : ∃ s ∈ st, cur.getD s.1 true = false := by
        rcases hq : st.filter (fun s => !cur.getD s.1 true) with _ | ⟨s, r⟩
        · unfold unl at hcm; rw [hq] at hcm; simp at hcm
        · have : s ∈ st.filter (fun s => !cur.getD s.1 true) := by rw [hq]; simp
          obtain ⟨h1, h2⟩ := List.mem_filter.1 this
          exact ⟨s, h1, by simpa using h2⟩
      have hsub : ∀ i ∈ Region.ready .any all cur, i ∈ idx ∧ cur.getD i true = false := by
        intro i hi
        obtain ⟨h1, o, ho, hdeps⟩ := mem_ready.1 hi
        refine ⟨?_, h1⟩
        apply Classical.byContradiction
        intro hni
        have hjs : i < all.size := (Array.getElem?_eq_some_iff.1 ho).1
        have := ok2 i (List.mem_range.2 hjs)
        simp only [Bool.or_eq_true, ho] at this
        rcases this with (q | q) | q
        · exact hni (by simpa using q)
        · have hco' := hco i hni
          have h2 : listed.getD i true = cur.getD i true := by
            simp only [Array.getD_eq_getD_getElem?, hco']
          rw [h2, h1] at q; cases q
        · rw [List.all_eq_true] at q
          have := q s0.1 ((hmem s0.1).2 ⟨s0, hs0, rfl⟩)
          obtain ⟨e, he1, he2⟩ := List.any_eq_true.1 this
          rw [Bool.and_eq_true] at he2
          have h3 := hdeps e (Array.mem_toList_iff.1 he1) he2.2
          rw [Nat.eq_of_beq_eq_true he2.1] at h3
          have hsz := hlt s0.1 ((hmem s0.1).2 ⟨s0, hs0, rfl⟩)
          simp only [Array.getD, show s0.1 < cur.size by omega, dite_true] at h3 hs0u
          rw [h3] at hs0u; cases hs0u
      have hne : Region.ready .any all cur ≠ [] := by
        intro h0
        -- the least one that is left
        have hex : ∃ i, i ∈ idx ∧ cur.getD i true = false := ⟨s0.1, (hmem s0.1).2 ⟨s0, hs0, rfl⟩, hs0u⟩
        have least : ∀ n i, i ≤ n → i ∈ idx → cur.getD i true = false → False := by
          intro n
          induction n with
          | zero =>
            intro i hi him hiu
            have h1 := ok1 i him
            simp only [Bool.and_eq_true] at h1
            cases hoo : all[i]? with
            | none => rw [hoo] at h1; exact absurd h1.2 (by simp)
            | some o =>
              rw [hoo] at h1
              simp only [Bool.and_eq_true] at h1
              have h2 := List.all_eq_true.1 h1.2.2
              have : i ∈ Region.ready .any all cur := mem_ready.2 ⟨hiu, o, hoo, fun e he hb => by
                have := h2 e (Array.mem_toList_iff.2 he)
                rw [hb] at this
                simp only [Bool.not_true, Bool.false_or, Bool.and_eq_true] at this
                have := Nat.le_of_ble_eq_true this.1
                omega⟩
              rw [h0] at this; simp at this
          | succ n ihn =>
            intro i hi him hiu
            have h1 := ok1 i him
            simp only [Bool.and_eq_true] at h1
            cases hoo : all[i]? with
            | none => rw [hoo] at h1; exact absurd h1.2 (by simp)
            | some o =>
              rw [hoo] at h1
              simp only [Bool.and_eq_true] at h1
              have h2 := List.all_eq_true.1 h1.2.2
              have : i ∈ Region.ready .any all cur := mem_ready.2 ⟨hiu, o, hoo, fun e he hb => by
                have h3 := h2 e (Array.mem_toList_iff.2 he)
                rw [hb] at h3
                simp only [Bool.not_true, Bool.false_or, Bool.and_eq_true, Bool.or_eq_true] at h3
                have hlt' : e.on < i := Nat.le_of_ble_eq_true h3.1
                by_cases hei : e.on ∈ idx
                · cases hq : cur.getD e.on true with
                  | false => exact (ihn e.on (by omega) hei hq).elim
                  | true =>
                    have hsz := hlt e.on hei
                    simp only [Array.getD, show e.on < cur.size by omega, dite_true] at hq ⊢
                    exact hq
                · rcases h3.2 with q | q
                  · exact absurd (by simpa using q) hei
                  · have h2 : cur.getD e.on false = listed.getD e.on false := by simp only [Array.getD_eq_getD_getElem?, hco e.on hei]
                    rw [h2]; exact q⟩
              rw [h0] at this; simp at this
        obtain ⟨i, hi1, hi2⟩ := hex
        exact least i i (Nat.le_refl _) hi1 hi2
      refine ax_any_step rfl hne hd (allR_of (fun i hi o ho => ?_))
      obtain ⟨him, hiu⟩ := hsub i hi
      obtain ⟨s, hs1, hs2⟩ := (hmem i).1 him
      obtain ⟨o', K, g1, g2, g3, g4⟩ := hst s hs1
      rw [hs2, ho] at g1
      obtain rfl := Option.some.inj g1
      obtain ⟨_, o2, ho2, hdeps⟩ := mem_ready.1 hi
      rw [ho] at ho2
      obtain rfl := Option.some.inj ho2
      refine g3 _ fr (knows_of fun p hp => ?_) (ax_ops_nil (ax_post_any ?_))
      · rcases g4 p hp with q | ⟨s', q1, ⟨e, q2, q3, q4⟩, q5⟩
        · exact of_knows hk0 p q
        · have h1 := hdeps e q2 q3
          rw [q4] at h1
          rw [← q5]
          refine hck s' q1 ?_
          have hsz := hlt s'.1 ((hmem s'.1).2 ⟨s', q1, rfl⟩)
          simp only [Array.getD, show s'.1 < cur.size by omega, dite_true] at h1 ⊢
          exact h1
      · have hisz := hlt i him
        refine ih (cur.setIfInBounds i true) _ (by simpa using hcs) (fun j hj => ?_) ?_ (fun s' hs' hu => ?_) ?_
        · rw [Array.getElem?_setIfInBounds_ne (show i ≠ j from fun e => hj (e ▸ him))]; exact hco j hj
        · -- one less
          have hf : st.filter (fun s' => !(cur.setIfInBounds i true).getD s'.1 true) = (st.filter (fun s' => !cur.getD s'.1 true)).filter (fun s' => decide (s'.1 ≠ i)) := by
            rw [List.filter_filter]
            congr 1
            funext s'
            by_cases hq : s'.1 = i
            · rw [hq]; simp [Array.getD, show i < cur.size by omega]
            · have hq' : ¬ i = s'.1 := fun e => hq e.symm
              simp [Array.getD_eq_getD_getElem?, Array.getElem?_setIfInBounds, hq, hq']
          unfold unl at hcm ⊢
          rw [hf]
          have hmemf : s ∈ st.filter (fun s' => !cur.getD s'.1 true) := List.mem_filter.2 ⟨hs1, by rw [hs2, hiu]; rfl⟩
          have hndf : ((st.filter (fun s' => !cur.getD s'.1 true)).map (·.1)).Nodup := List.Nodup.sublist (List.Sublist.map _ List.filter_sublist) hnd'
          revert hcm hmemf hndf
          generalize st.filter (fun s' => !cur.getD s'.1 true) = L
          intro hcm hmemf hndf
          have gen : ∀ (L : Steps) (n : Nat), L.length = n + 1 → s ∈ L → (L.map (·.1)).Nodup → (L.filter (fun s' => decide (s'.1 ≠ i))).length = n := by
            intro L
            induction L with
            | nil => intro n h; simp at h
            | cons x r ihL =>
              intro n hn hm hnd
              simp only [List.map_cons, List.nodup_cons] at hnd
              rcases List.mem_cons.1 hm with rfl | hm
              · have hno : ∀ y ∈ r, y.1 ≠ i := fun y hy e => hnd.1 (List.mem_map.2 ⟨y, hy, by rw [e, hs2]⟩)
                have : (r.filter (fun s' => decide (s'.1 ≠ i))) = r := List.filter_eq_self.2 (fun y hy => by simpa using hno y hy)
                rw [List.filter_cons_of_neg (by simp [hs2]), this]
                simpa using hn
              · have hx : x.1 ≠ i := fun e => hnd.1 (List.mem_map.2 ⟨s, hm, by rw [hs2, e]⟩)
                have hr0 : 0 < r.length := List.length_pos_iff.2 (by rintro rfl; simp at hm)
                obtain ⟨n', rfl⟩ : ∃ n', n = n' + 1 := ⟨n - 1, by simp at hn; omega⟩
                rw [List.filter_cons_of_pos (by simpa using hx), List.length_cons, ihL n' (by simpa using hn) hm hnd.2]
          exact gen L m hcm hmemf hndf
        · by_cases hq : s'.1 = i
          · have : s' = s := by
              have h1 : s ∈ st := hs1
              have hinj : ∀ (L : Steps), (L.map (·.1)).Nodup → ∀ x ∈ L, ∀ y ∈ L, x.1 = y.1 → x = y := by
                intro L
                induction L with
                | nil => intro _ x hx; simp at hx
                | cons z r ihL =>
                  intro hnd x hx y hy hxy
                  simp only [List.map_cons, List.nodup_cons] at hnd
                  rcases List.mem_cons.1 hx with hx | hx <;> rcases List.mem_cons.1 hy with hy | hy
                  · rw [hx, hy]
                  · exact absurd (List.mem_map.2 ⟨y, hy, by rw [← hxy, hx]⟩) hnd.1
                  · exact absurd (List.mem_map.2 ⟨x, hx, by rw [hxy, hy]⟩) hnd.1
                  · exact ihL hnd.2 x hx y hy hxy
              exact hinj st hnd' s' hs' s hs1 (by rw [hq, hs2])
            rw [this]
            exact look_it _ _ _
          · have h1 : cur.getD s'.1 true = true := by
              have hq' : ¬ i = s'.1 := fun e => hq e.symm
              simpa [Array.getD_eq_getD_getElem?, Array.getElem?_setIfInBounds, hq'] using hu
            have h2 := hck s' hs' h1
            -- another slot
            have hne2 : s'.2.1 ≠ s.2.1 := by
              intro e
              obtain ⟨o3, _, f1, f2, _, _⟩ := hst s' hs'
              have h3 := List.all_eq_true.1 (ok3 s'.1 ((hmem s'.1).2 ⟨s', hs', rfl⟩)) i him
              rw [f1, ho] at h3
              simp only [Bool.or_eq_true, Bool.not_eq_true', f2, g2] at h3
              rcases h3 with h3 | h3
              · exact hq (Nat.eq_of_beq_eq_true h3)
              · rw [e] at h3; simp at h3
            show (bif Nat.beq s'.2.1 s.2.1 then some s.2.2 else look s'.2.1 fr) = _
            rw [beq_ne hne2]; exact h2
        · refine knows_of fun p hp => ?_
          have h1 := ok1 i him
          simp only [Bool.and_eq_true] at h1
          rw [ho] at h1
          simp only [g2, Bool.and_eq_true, Bool.not_eq_true'] at h1
          have hne3 : p.1 ≠ s.2.1 := by
            intro e
            have : (K0.map (·.1)).contains s.2.1 = true := by
              rw [List.contains_iff_mem]
              exact List.mem_map.2 ⟨p, hp, e⟩
            rw [h1.2.1] at this; cases this
          show (bif Nat.beq p.1 s.2.1 then some s.2.2 else look p.1 fr) = _
          rw [beq_ne hne3]; exact of_knows hk0 p hp
  have hm0 : unl listed st = idx.length := by
    unfold unl
    rw [List.filter_eq_self.2 (fun s hs => ?_), hlen]
    have := ok1 s.1 ((hmem s.1).2 ⟨s, hs, rfl⟩)
    simp only [Bool.and_eq_true] at this
    exact this.1
  have := key idx.length listed fr rfl (fun _ _ => rfl) hm0 (fun s hs hu => by
    have h1 := ok1 s.1 ((hmem s.1).2 ⟨s, hs, rfl⟩)
    simp only [Bool.and_eq_true, Bool.not_eq_true'] at h1
    rw [h1.1] at hu; cases hu) hK
  exact this
variable {ind : Bool} {d : Option Nat} {ty : TypeId} {pos : String} {after : Array Edge} {g : Option (Nat × Bool)}
/-- Reading a part of a variable that is a struct. -/
theorem q_loadpart_ptr {x : Operand} {t : TypeId} {u : TypeDesc} {h i j : Nat} {ob : AObj} {inf : TypeInfo} {L : List AV} (ht : P.underlying t = some u) (hu : isAggD u = true) (hinf : P.info? t = some inf) (hsz : Nat.ble (j + inf.size) ob.c.sz = true) (hx : ev fr x = some (.ptr h i j)) (hh : H[h]? = some (some ob))
    (hL : (List.range inf.size).map (fun e => ob.c.at i (j + e)) = L) (hi : i < ob.c.len) : QOp false P fn c fr H ⟨d, .load t x, ty, pos, after, g⟩ (.agg L) := by
  intro w a σ S hr
  have h1 := hr.evAt hx
  subst hL
  have hsz' := Nat.le_of_ble_eq_true hsz
  generalize hz : a.eval x = z at h1
  cases h1 with
  | ptr _ _ _ _ b s C hσ =>
    obtain ⟨hs', cur, g1, g2, g3, g4, g5, g6⟩ := hr.obj hh hσ
    subst hs'
    have hcell : ∀ w' : World, w'.heap = w.heap → ∀ e, e < inf.size → ∃ y, w'.cell? ⟨b, i * ob.c.sz + j + e, none⟩ = some y ∧ VR w S σ (ob.c.at i (j + e)) y ∧ y.oneCell' = true := by
      intro w' hw e he
      obtain ⟨y, e1, e2, e3⟩ := g6 i (j + e) hi (by omega)
      obtain ⟨mk, g1, _, _⟩ := g1.cells (by omega)
      exact ⟨y, by simp [World.cell?, hw, g1, Nat.add_assoc, e1], e2, e3⟩
    let cs : List Value := (List.range inf.size).map (fun e => (w.cell? ⟨b, i * ob.c.sz + j + e, none⟩).getD undef)
    refine ⟨.agg cs.toArray, .agg _ _ _ (by simp [cs]) (fun e he => ?_) (fun e he => ?_), fun w' hw => ?_⟩
    · have he' : e < inf.size := by simpa using he
      obtain ⟨y, e1, e2, _⟩ := hcell w rfl e he'
      simpa [cs, Array.getD, he', e1, List.getD] using e2
    · have he' : e < inf.size := by simpa using he
      obtain ⟨y, e1, _, e3⟩ := hcell w rfl e he'
      simpa [cs, Array.getD, he', e1] using e3
    · have hw := hw.resolve_left (by decide)
      have hl := run_loadCells_list (P := P) w' ⟨b, i * ob.c.sz + j, none⟩ cs (fun e v hv => by
        have he : e < inf.size := by simpa [cs] using (List.getElem?_eq_some_iff.1 hv).1
        obtain ⟨y, e1, _, _⟩ := hcell w rfl e he
        simp only [cs, List.getElem?_map, List.getElem?_range he, Option.map_some, Option.some.injEq] at hv
        subst hv
        rw [e1, Addr.add_lit]
        have := World.cell?_of_block (w := w) (w' := w') (a := ⟨b, i * ob.c.sz + j + e, none⟩) (by rw [hw])
        rw [this, e1]; rfl)
      have hcl : cs.length = inf.size := by simp [cs]
      rw [hcl] at hl
      have hz' : a.eval x = .pointer (some ⟨b, i * ob.c.sz + j, none⟩) := by rw [hz]
      simp [execOp, hz', Instr.loadAt, Instr.sureAddr, loadVar, run_isAgg ht, hu, sizeOf, typeInfo, hinf, hl]
end
end Go.Ax

/-
  Rational numbers as the program has them: numerator and denominator in lowest terms. No program in sight.
-/
namespace Go.Ax.Rt
open Go.Ax.Bg

/-- The quotient of integers, its parts. -/
theorem frac_nat (n : Int) (d : Nat) (hd : d ≠ 0) : (Rat.divInt n d).num.natAbs = n.natAbs / Nat.gcd n.natAbs d ∧ (Rat.divInt n d).den = d / Nat.gcd n.natAbs d ∧ ((Rat.divInt n d).num < 0 ↔ n < 0) := by
  have e : Rat.divInt n d = Rat.normalize n d hd := by rw [Rat.divInt_ofNat, ← Rat.normalize_eq_mkRat]
  have hg : 0 < Nat.gcd n.natAbs d := Nat.gcd_pos_of_pos_right _ (by omega)
  have hdv : (Nat.gcd n.natAbs d : Int) ∣ n := by
    rw [Int.ofNat_dvd_left]; exact Nat.gcd_dvd_left _ _
  rw [e, Rat.num_normalize, Rat.den_normalize]
  obtain ⟨q, hq⟩ := hdv
  generalize Nat.gcd n.natAbs d = g at *
  refine ⟨?_, rfl, ?_⟩
  · rw [hq, Int.mul_ediv_cancel_left _ (by omega), Int.natAbs_mul, Int.natAbs_natCast, Nat.mul_div_cancel_left _ hg]
  · rw [hq, Int.mul_ediv_cancel_left _ (by omega)]
    constructor
    · intro h; exact Int.mul_neg_of_pos_of_neg (by omega) h
    · intro h
      rcases Int.lt_or_le q 0 with z | z
      · exact z
      · exact absurd h (Int.not_lt.2 (Int.mul_nonneg (by omega) z))
theorem frac_parts (n d : Int) (hd : d ≠ 0) : (Rat.divInt n d).num.natAbs = n.natAbs / Nat.gcd n.natAbs d.natAbs ∧ (Rat.divInt n d).den = d.natAbs / Nat.gcd n.natAbs d.natAbs ∧ ((Rat.divInt n d).num < 0 ↔ n ≠ 0 ∧ ((n < 0 ∧ ¬ d < 0) ∨ (¬ n < 0 ∧ d < 0))) := by
  rcases Int.lt_or_le d 0 with h | h
  · obtain ⟨m, rfl⟩ : ∃ m : Nat, d = -(m : Int) := ⟨d.natAbs, by omega⟩
    have e : Rat.divInt n (-(m : Int)) = Rat.divInt (-n) m := Rat.divInt_neg' n m
    obtain ⟨h1, h2, h3⟩ := frac_nat (-n) m (by omega)
    rw [e]
    rw [Int.natAbs_neg] at h1 h2
    rw [Int.natAbs_neg, Int.natAbs_natCast]
    exact ⟨h1, h2, h3.trans (by omega)⟩
  · obtain ⟨m, rfl⟩ : ∃ m : Nat, d = (m : Int) := ⟨d.natAbs, by omega⟩
    obtain ⟨h1, h2, h3⟩ := frac_nat n m (by omega)
    rw [Int.natAbs_natCast]
    exact ⟨h1, h2, h3.trans (by omega)⟩
theorem add_frac (p q : Rat) : Rat.divInt (p.num * q.den + q.num * p.den) ((p.den * q.den : Nat) : Int) = p + q := by
  rw [Rat.add_def', Rat.divInt_ofNat]
theorem mul_frac (p q : Rat) : Rat.divInt (p.num * q.num) ((p.den * q.den : Nat) : Int) = p * q := by
  rw [Rat.mul_def', Rat.divInt_ofNat]
def sgn (x : Int) : Int := if x < 0 then -1 else if x = 0 then 0 else 1
def cmpQ (p q : Rat) : Int := if p < q then -1 else if p = q then 0 else 1
theorem sgn_cmp (p q : Rat) : sgn (p.num * q.den - q.num * p.den) = cmpQ p q := by
  unfold sgn cmpQ
  have h1 : p < q ↔ p.num * q.den - q.num * p.den < 0 := by rw [Rat.lt_iff]; omega
  have h2 : p = q ↔ p.num * q.den - q.num * p.den = 0 := by rw [Rat.eq_iff_mul_eq_mul]; omega
  simp only [h1, h2]
def sgnI (b : Bool) (n : Nat) : Int := if b then -(n : Int) else n
theorem sgnI_abs (b : Bool) (n : Nat) : (sgnI b n).natAbs = n := by unfold sgnI; split <;> omega
theorem sgnI_neg (b : Bool) (n : Nat) : decide (sgnI b n < 0) = (b && decide (n ≠ 0)) := by
  unfold sgnI
  cases b
  · simp <;> try omega
  · simp only [if_true, Bool.true_and]
    rw [decide_eq_decide]; omega
theorem sgnI_self (x : Int) : sgnI (decide (x < 0)) x.natAbs = x := by
  unfold sgnI
  by_cases h : x < 0
  · simp [h]; omega
  · simp [h]; omega
end Go.Ax.Rt

namespace Go.Proofs.YtgmleamhjnlknaaGreatDoor
open Go.Ax Go.Ax.Bg Go.Ax.Rt Go.RowKit
attribute [local irreducible] Ax Post QOp ACall PureOp
set_option maxRecDepth 100000
set_option maxHeartbeats 4000000

def intA (x : Int) : AV := .agg [.bool (decide (x < 0)), natA x.natAbs]
theorem made_ok (b : Bool) (n : Nat) : VCall Tryz.prog 144 [.bool b, natA n] (intA (sgnI b n)) := by
  have hp : 0 < (natL n).length ↔ n ≠ 0 := natL_pos_len
  have hr : intA (sgnI b n) = .agg [.bool (b && decide (n ≠ 0)), natA n] := by unfold intA; rw [sgnI_abs, sgnI_neg]
  rw [hr]
  refine ACall.value0 (acall_of_ax (P := Tryz.prog) (fn := Tryz.f144) rfl rfl (by kernel_rfl) rfl (fun c hR hfix => ?_)) (fix := fun _ => False) (fun _ h => h) rfl rfl
  unfold natA at hR ⊢
  cases b
  · repeat (first | refine ax_q (q_move rfl) ?_ | refine ax_ops_nil ?_ | refine ax_post_code ?_ | refine ax_seq ?_ | refine ax_region rfl ?_ | refine ax_skip_not rfl rfl rfl ?_ | refine ax_q (q_pick rfl rfl) ?_ | refine ax_q (q_build rfl rfl rfl rfl rfl rfl) ?_ | refine ax_alloc rfl rfl rfl ?_)
    refine ax_storeagg (c' := .box [.bool false, .ro (.ints .u32 (natL n)) 0 (natL n).length]) rfl rfl rfl rfl rfl Nat.zero_lt_one rfl rfl (fun i' j' hi' hj' => ?_) ?_
    · rw [if_pos (Nat.lt_one_iff.1 hi')]; rfl
    repeat (first | refine ax_ops_nil ?_ | refine ax_post_code ?_ | refine ax_return ?_)
    exact ax_ret hR rfl rfl
  · repeat (first | refine ax_q (q_move rfl) ?_ | refine ax_ops_nil ?_ | refine ax_post_code ?_ | refine ax_seq ?_ | refine ax_region rfl ?_ | refine ax_guard rfl rfl ?_ | refine ax_q (q_gtr rfl rfl) ?_ | refine ax_q (q_pick rfl rfl) ?_ | refine ax_q (q_len rfl rfl rfl) ?_ | refine ax_q (q_build rfl rfl rfl rfl rfl rfl) ?_ | refine ax_alloc rfl rfl rfl ?_)
    have e : decide (0 < ((natL n).length : Int)) = decide (n ≠ 0) := by rw [decide_eq_decide, ← hp]; omega
    refine ax_storeagg (c' := .box [.bool (decide (n ≠ 0)), .ro (.ints .u32 (natL n)) 0 (natL n).length]) rfl rfl rfl rfl rfl Nat.zero_lt_one rfl rfl (fun i' j' hi' hj' => ?_) ?_
    · rw [if_pos (Nat.lt_one_iff.1 hi'), ← e]; rfl
    repeat (first | refine ax_ops_nil ?_ | refine ax_post_code ?_ | refine ax_return ?_)
    exact ax_ret hR rfl rfl
theorem mul_sgn (x y : Int) : sgnI (!(decide (x < 0) == decide (y < 0))) (x.natAbs * y.natAbs) = x * y := by
  have h : (x * y).natAbs = x.natAbs * y.natAbs := Int.natAbs_mul x y
  unfold sgnI
  rcases Int.lt_trichotomy x 0 with hx | hx | hx <;> rcases Int.lt_trichotomy y 0 with hy | hy | hy
  · have := Int.mul_pos_of_neg_of_neg hx hy
    simp only [hx, hy]; simp; omega
  · subst hy; simp
  · have := Int.mul_neg_of_neg_of_pos hx hy
    simp only [hx, show ¬ y < 0 by omega]; simp; omega
  · subst hx; simp
  · subst hx; simp
  · subst hx; simp
  · have := Int.mul_neg_of_pos_of_neg hx hy
    simp only [hy, show ¬ x < 0 by omega]; simp; omega
  · subst hy; simp
  · have := Int.mul_pos hx hy
    simp only [show ¬ x < 0 by omega, show ¬ y < 0 by omega]; simp; omega
theorem imul_ok (x y : Int) (hx : (natL x.natAbs).length ≤ 1000000) (hy : (natL y.natAbs).length ≤ 1000000) : VCall Tryz.prog 138 [intA x, intA y] (intA (x * y)) := by
  have h1 := mul_ok x.natAbs y.natAbs (by omega) (by omega)
  have h2 := made_ok (!(decide (x < 0) == decide (y < 0))) (x.natAbs * y.natAbs)
  rw [mul_sgn] at h2
  refine ACall.value0 (acall_of_ax (P := Tryz.prog) (fn := Tryz.f138) rfl rfl (by kernel_rfl) rfl (fun c hR hfix => ?_)) (fix := fun _ => False) (fun _ h => h) rfl rfl
  repeat (first | refine ax_ops_nil ?_ | refine ax_post_code ?_ | refine ax_seq ?_ | refine ax_region rfl ?_ | refine ax_box rfl rfl ?_ | refine ax_alloc rfl rfl rfl ?_)
  refine ax_regiond (by kernel_rfl) ?_
  refine ax_any_run (fuel := 1) [0, 1, 2, 3, 4, 5, 6, 7, 8, 9, 10] [(2, .ptr 0 0 0), (3, .ptr 1 0 0), (4, .ptr 2 0 0)] ⟨rfl, rfl, rfl, trivial⟩ (by kernel_rfl) (by decide) rfl rfl ?_
  refine px_q rfl rfl (q_field_ptr rfl rfl rfl rfl rfl rfl) ?_
  refine px_q rfl rfl (q_loadb_ptr rfl rfl rfl rfl rfl) ?_
  refine px_q rfl rfl (q_field_ptr rfl rfl rfl rfl rfl rfl) ?_
  refine px_q rfl rfl (q_loadb_ptr rfl rfl rfl rfl rfl) ?_
  refine px_q rfl rfl (q_boolneq rfl rfl rfl) ?_
  refine px_q rfl rfl (q_field_ptr rfl rfl rfl rfl rfl rfl) ?_
  refine px_q rfl rfl (q_loadb_ptr rfl rfl rfl rfl rfl) ?_
  refine px_q rfl rfl (q_field_ptr rfl rfl rfl rfl rfl rfl) ?_
  refine px_q rfl rfl (q_loadb_ptr rfl rfl rfl rfl rfl) ?_
  refine px_v rfl rfl rfl rfl rfl h1 ?_
  refine px_v rfl rfl rfl rfl rfl h2 ?_
  refine px_done ?_
  refine ax_any_step (is := [11]) (by kernel_rfl) (by simp) rfl ⟨fun o ho => ?_, trivial⟩
  all_goals (cases ho)
  skip
  unfold intA natA
  refine ax_storeagg (c' := .box [.bool (decide (x * y < 0)), .ro (.ints .u32 (natL (x * y).natAbs)) 0 (natL (x * y).natAbs).length]) rfl rfl rfl rfl rfl Nat.zero_lt_one rfl rfl (fun i' j' hi' hj' => ?_) ?_
  · rw [if_pos (Nat.lt_one_iff.1 hi')]; rfl
  repeat (first | refine ax_ops_nil ?_ | refine ax_post_any ?_)
  refine ax_any_done (by kernel_rfl) ?_
  repeat (first | refine ax_post_code ?_ | refine ax_return ?_)
  exact ax_ret hR rfl rfl
end Go.Proofs.YtgmleamhjnlknaaGreatDoor

namespace Go.Proofs.YtgmleamhjnlknaaGreatDoor
open Go.Ax Go.Ax.Bg Go.Ax.Rt Go.RowKit
attribute [local irreducible] Ax Post QOp ACall PureOp
set_option maxRecDepth 100000
set_option maxHeartbeats 4000000

theorem opp_sgn (x : Int) : sgnI (!decide (x < 0)) x.natAbs = -x := by
  unfold sgnI
  by_cases h : x < 0
  · simp [h]; omega
  · simp [h]; omega
theorem iopp_ok (x : Int) : VCall Tryz.prog 104 [intA x] (intA (-x)) := by
  have h2 := made_ok (!decide (x < 0)) x.natAbs
  rw [opp_sgn] at h2
  refine ACall.value0 (acall_of_ax (P := Tryz.prog) (fn := Tryz.f104) rfl rfl (by kernel_rfl) rfl (fun c hR hfix => ?_)) (fix := fun _ => False) (fun _ h => h) rfl rfl
  repeat (first | refine ax_ops_nil ?_ | refine ax_post_code ?_ | refine ax_seq ?_ | refine ax_region rfl ?_ | refine ax_q (q_loadb_ptr rfl rfl rfl rfl rfl) ?_ | refine ax_q (q_not rfl) ?_ | refine ax_q (q_field_ptr rfl rfl rfl rfl rfl rfl) ?_ | refine ax_box rfl rfl ?_ | refine ax_alloc rfl rfl rfl ?_)
  refine ax_callv rfl rfl rfl h2 ?_
  skip
  unfold intA
  refine ax_storeagg (c' := .box [.bool (decide (-x < 0)), natA (-x).natAbs]) rfl rfl rfl rfl rfl Nat.zero_lt_one rfl rfl (fun i' j' hi' hj' => ?_) ?_
  · rw [if_pos (Nat.lt_one_iff.1 hi')]; rfl
  repeat (first | refine ax_ops_nil ?_ | refine ax_post_code ?_ | refine ax_return ?_)
  exact ax_ret hR rfl rfl
theorem isign_ok (x : Int) : VCall Tryz.prog 141 [intA x] (.int .i64 (sgn x)) := by
  have hp : 0 < (natL x.natAbs).length ↔ x.natAbs ≠ 0 := natL_pos_len
  unfold sgn
  refine ACall.value0 (acall_of_ax (P := Tryz.prog) (fn := Tryz.f141) rfl rfl (by kernel_rfl) rfl (fun c hR hfix => ?_)) (fix := fun _ => False) (fun _ h => h) rfl rfl
  unfold intA natA
  rcases Int.lt_trichotomy x 0 with h | h | h
  · have e : decide (x < 0) = true := decide_eq_true h
    rw [e]
    rw [if_pos h] at hR
    repeat (first | refine ax_q (q_assign rfl) ?_ | refine ax_ops_nil ?_ | refine ax_post_code ?_ | refine ax_seq ?_ | refine ax_region rfl ?_ | refine ax_block ?_ | refine ax_q (q_loadb_ptr rfl rfl rfl rfl rfl) ?_ | refine ax_q (q_eql rfl rfl) ?_ | refine ax_q (q_len rfl rfl rfl) ?_ | refine ax_q (q_field_ptr rfl rfl rfl rfl rfl rfl) ?_ | refine ax_box rfl rfl ?_)
    refine ax_cond_dec rfl (fun h0 => absurd h0 (by omega)) (fun h0 => ?_)
    repeat (first | refine ax_q (q_assign rfl) ?_ | refine ax_ops_nil ?_ | refine ax_post_code ?_ | refine ax_seq ?_ | refine ax_region rfl ?_ | refine ax_cond_true rfl ?_ | refine ax_return ?_ | refine ax_ret_code ?_ | refine ax_ret_blk ?_ | refine ax_q (q_loadb_ptr rfl rfl rfl rfl rfl) ?_ | refine ax_q (q_field_ptr rfl rfl rfl rfl rfl rfl) ?_)
    exact ax_ret hR rfl rfl
  · subst h
    rw [if_neg (by omega), if_pos rfl] at hR
    have e0 : natL (0 : Int).natAbs = [] := natL_zero
    rw [e0]
    repeat (first | refine ax_q (q_assign rfl) ?_ | refine ax_ops_nil ?_ | refine ax_post_code ?_ | refine ax_seq ?_ | refine ax_region rfl ?_ | refine ax_cond_true rfl ?_ | refine ax_block ?_ | refine ax_return ?_ | refine ax_ret_code ?_ | refine ax_ret_blk ?_ | refine ax_q (q_loadb_ptr rfl rfl rfl rfl rfl) ?_ | refine ax_q (q_eql rfl rfl) ?_ | refine ax_q (q_len rfl rfl rfl) ?_ | refine ax_q (q_field_ptr rfl rfl rfl rfl rfl rfl) ?_ | refine ax_box rfl rfl ?_)
    exact ax_ret hR rfl rfl
  · have e : decide (x < 0) = false := decide_eq_false (by omega)
    rw [e]
    rw [if_neg (by omega), if_neg (by omega)] at hR
    repeat (first | refine ax_q (q_assign rfl) ?_ | refine ax_ops_nil ?_ | refine ax_post_code ?_ | refine ax_seq ?_ | refine ax_region rfl ?_ | refine ax_block ?_ | refine ax_q (q_loadb_ptr rfl rfl rfl rfl rfl) ?_ | refine ax_q (q_eql rfl rfl) ?_ | refine ax_q (q_len rfl rfl rfl) ?_ | refine ax_q (q_field_ptr rfl rfl rfl rfl rfl rfl) ?_ | refine ax_box rfl rfl ?_)
    refine ax_cond_dec rfl (fun h0 => absurd h0 (by omega)) (fun h0 => ?_)
    repeat (first | refine ax_q (q_assign rfl) ?_ | refine ax_ops_nil ?_ | refine ax_post_code ?_ | refine ax_seq ?_ | refine ax_region rfl ?_ | refine ax_cond_false rfl ?_ | refine ax_post_blk ?_ | refine ax_skip ?_ | refine ax_return ?_ | refine ax_q (q_loadb_ptr rfl rfl rfl rfl rfl) ?_ | refine ax_q (q_field_ptr rfl rfl rfl rfl rfl rfl) ?_)
    exact ax_ret hR rfl rfl
theorem add_sgn1 (x y : Int) (h : decide (x < 0) = decide (y < 0)) : sgnI (decide (x < 0)) (x.natAbs + y.natAbs) = x + y := by
  unfold sgnI
  rw [decide_eq_decide] at h
  by_cases h1 : x < 0
  · simp [h1]; omega
  · simp [h1]; omega
theorem add_sgn2 (x y : Int) (h : ¬ decide (x < 0) = decide (y < 0)) (h2 : y.natAbs ≤ x.natAbs) : sgnI (decide (x < 0)) (x.natAbs - y.natAbs) = x + y := by
  unfold sgnI
  rw [decide_eq_decide] at h
  by_cases h1 : x < 0
  · simp [h1]; omega
  · simp [h1]; omega
theorem add_sgn3 (x y : Int) (h : ¬ decide (x < 0) = decide (y < 0)) (h2 : ¬ y.natAbs ≤ x.natAbs) : sgnI (decide (y < 0)) (y.natAbs - x.natAbs) = x + y := by
  unfold sgnI
  rw [decide_eq_decide] at h
  by_cases h1 : y < 0
  · simp [h1]; omega
  · simp [h1]; omega
theorem cmpZ_le {x y : Int} : 0 ≤ cmpZ x y ↔ y ≤ x := by
  unfold cmpZ
  split
  · omega
  · split <;> omega
theorem iadd_ok (x y : Int) (hx : (natL x.natAbs).length ≤ 1000000) (hy : (natL y.natAbs).length ≤ 1000000) : VCall Tryz.prog 139 [intA x, intA y] (intA (x + y)) := by
  by_cases h : decide (x < 0) = decide (y < 0)
  · have h1 := add_ok x.natAbs y.natAbs (by omega) (by omega)
    have h2 := made_ok (decide (x < 0)) (x.natAbs + y.natAbs)
    rw [add_sgn1 x y h] at h2
    refine ACall.value0 (acall_of_ax (P := Tryz.prog) (fn := Tryz.f139) rfl rfl (by kernel_rfl) rfl (fun c hR hfix => ?_)) (fix := fun _ => False) (fun _ h => h) rfl rfl
    unfold intA at hR ⊢
    repeat (first | refine ax_ops_nil ?_ | refine ax_post_code ?_ | refine ax_seq ?_ | refine ax_region rfl ?_ | refine ax_q (q_loadb_ptr rfl rfl rfl rfl rfl) ?_ | refine ax_q (q_field_ptr rfl rfl rfl rfl rfl rfl) ?_ | refine ax_q (q_booleq rfl rfl rfl) ?_ | refine ax_box rfl rfl ?_ | refine ax_alloc rfl rfl rfl ?_)
    refine ax_slot 9 (.bool true) rfl (AEq.of_eq (by rw [h]; simp)) ?_
    repeat (first | refine ax_seq ?_ | refine ax_cond_true rfl ?_)
    refine ax_regiond (by kernel_rfl) ?_
    refine ax_any_run (fuel := 1) [0, 1, 2, 3, 4, 5, 6, 7] [(2, .ptr 0 0 0), (3, .ptr 1 0 0), (4, .ptr 2 0 0)] ⟨rfl, rfl, rfl, trivial⟩ (by kernel_rfl) (by decide) rfl rfl ?_
    refine px_q rfl rfl (q_field_ptr rfl rfl rfl rfl rfl rfl) ?_
    refine px_q rfl rfl (q_loadb_ptr rfl rfl rfl rfl rfl) ?_
    refine px_q rfl rfl (q_field_ptr rfl rfl rfl rfl rfl rfl) ?_
    refine px_q rfl rfl (q_loadb_ptr rfl rfl rfl rfl rfl) ?_
    refine px_q rfl rfl (q_field_ptr rfl rfl rfl rfl rfl rfl) ?_
    refine px_q rfl rfl (q_loadb_ptr rfl rfl rfl rfl rfl) ?_
    refine px_v rfl rfl rfl rfl rfl h1 ?_
    refine px_v rfl rfl rfl rfl rfl h2 ?_
    refine px_done ?_
    refine ax_any_step (is := [8]) (by kernel_rfl) (by simp) rfl ⟨fun o ho => ?_, trivial⟩
    all_goals (cases ho)
    skip
    unfold intA
    refine ax_storeagg (c' := .box [.bool (decide (x + y < 0)), natA (x + y).natAbs]) rfl rfl rfl rfl rfl Nat.zero_lt_one rfl rfl (fun i' j' hi' hj' => ?_) ?_
    · rw [if_pos (Nat.lt_one_iff.1 hi')]; rfl
    repeat (first | refine ax_ops_nil ?_ | refine ax_post_any ?_)
    refine ax_any_done (by kernel_rfl) ?_
    repeat (first | refine ax_post_code ?_ | refine ax_return ?_ | refine ax_ret_code ?_)
    exact ax_ret hR rfl rfl
  · have h0 := cmp_ok x.natAbs y.natAbs (by omega) (by omega)
    by_cases hc : y.natAbs ≤ x.natAbs
    · have h1 := sub_ok x.natAbs y.natAbs hc (by omega)
      have h2 := made_ok (decide (x < 0)) (x.natAbs - y.natAbs)
      rw [add_sgn2 x y h hc] at h2
      refine ACall.value0 (acall_of_ax (P := Tryz.prog) (fn := Tryz.f139) rfl rfl (by kernel_rfl) rfl (fun c hR hfix => ?_)) (fix := fun _ => False) (fun _ h => h) rfl rfl
      unfold intA at hR ⊢
      repeat (first | refine ax_ops_nil ?_ | refine ax_post_code ?_ | refine ax_seq ?_ | refine ax_region rfl ?_ | refine ax_q (q_loadb_ptr rfl rfl rfl rfl rfl) ?_ | refine ax_q (q_field_ptr rfl rfl rfl rfl rfl rfl) ?_ | refine ax_q (q_booleq rfl rfl rfl) ?_ | refine ax_box rfl rfl ?_ | refine ax_alloc rfl rfl rfl ?_)
      refine ax_slot 9 (.bool false) rfl (AEq.of_eq (by rw [beq_eq_false_iff_ne.2 h])) ?_
      repeat (first | refine ax_post_code ?_ | refine ax_seq ?_ | refine ax_region rfl ?_ | refine ax_cond_false rfl ?_ | refine ax_skip ?_ | refine ax_q (q_loadb_ptr rfl rfl rfl rfl rfl) ?_ | refine ax_q (q_field_ptr rfl rfl rfl rfl rfl rfl) ?_)
      refine ax_callv rfl rfl rfl h0 ?_
      repeat (first | refine ax_ops_nil ?_ | refine ax_post_code ?_ | refine ax_q (q_geq rfl rfl) ?_)
      refine ax_cond_dec rfl (fun h5 => ?_) (fun h5 => absurd (cmpZ_le.2 (Int.ofNat_le.2 hc)) h5)
      repeat (refine ax_seq ?_)
      refine ax_regiond (by kernel_rfl) ?_
      refine ax_any_run (fuel := 1) [0, 1, 2, 3, 4, 5, 6, 7] [(2, .ptr 0 0 0), (3, .ptr 1 0 0), (4, .ptr 2 0 0)] ⟨rfl, rfl, rfl, trivial⟩ (by kernel_rfl) (by decide) rfl rfl ?_
      refine px_q rfl rfl (q_field_ptr rfl rfl rfl rfl rfl rfl) ?_
      refine px_q rfl rfl (q_loadb_ptr rfl rfl rfl rfl rfl) ?_
      refine px_q rfl rfl (q_field_ptr rfl rfl rfl rfl rfl rfl) ?_
      refine px_q rfl rfl (q_loadb_ptr rfl rfl rfl rfl rfl) ?_
      refine px_q rfl rfl (q_field_ptr rfl rfl rfl rfl rfl rfl) ?_
      refine px_q rfl rfl (q_loadb_ptr rfl rfl rfl rfl rfl) ?_
      refine px_v rfl rfl rfl rfl rfl h1 ?_
      refine px_v rfl rfl rfl rfl rfl h2 ?_
      refine px_done ?_
      refine ax_any_step (is := [8]) (by kernel_rfl) (by simp) rfl ⟨fun o ho => ?_, trivial⟩
      all_goals (cases ho)
      skip
      unfold intA
      refine ax_storeagg (c' := .box [.bool (decide (x + y < 0)), natA (x + y).natAbs]) rfl rfl rfl rfl rfl Nat.zero_lt_one rfl rfl (fun i' j' hi' hj' => ?_) ?_
      · rw [if_pos (Nat.lt_one_iff.1 hi')]; rfl
      repeat (first | refine ax_ops_nil ?_ | refine ax_post_any ?_)
      refine ax_any_done (by kernel_rfl) ?_
      repeat (first | refine ax_post_code ?_ | refine ax_return ?_ | refine ax_ret_code ?_)
      exact ax_ret hR rfl rfl
    · have h1 := sub_ok y.natAbs x.natAbs (by omega) (by omega)
      have h2 := made_ok (decide (y < 0)) (y.natAbs - x.natAbs)
      rw [add_sgn3 x y h hc] at h2
      refine ACall.value0 (acall_of_ax (P := Tryz.prog) (fn := Tryz.f139) rfl rfl (by kernel_rfl) rfl (fun c hR hfix => ?_)) (fix := fun _ => False) (fun _ h => h) rfl rfl
      unfold intA at hR ⊢
      repeat (first | refine ax_ops_nil ?_ | refine ax_post_code ?_ | refine ax_seq ?_ | refine ax_region rfl ?_ | refine ax_q (q_loadb_ptr rfl rfl rfl rfl rfl) ?_ | refine ax_q (q_field_ptr rfl rfl rfl rfl rfl rfl) ?_ | refine ax_q (q_booleq rfl rfl rfl) ?_ | refine ax_box rfl rfl ?_ | refine ax_alloc rfl rfl rfl ?_)
      refine ax_slot 9 (.bool false) rfl (AEq.of_eq (by rw [beq_eq_false_iff_ne.2 h])) ?_
      repeat (first | refine ax_post_code ?_ | refine ax_seq ?_ | refine ax_region rfl ?_ | refine ax_cond_false rfl ?_ | refine ax_skip ?_ | refine ax_q (q_loadb_ptr rfl rfl rfl rfl rfl) ?_ | refine ax_q (q_field_ptr rfl rfl rfl rfl rfl rfl) ?_)
      refine ax_callv rfl rfl rfl h0 ?_
      repeat (first | refine ax_ops_nil ?_ | refine ax_post_code ?_ | refine ax_q (q_geq rfl rfl) ?_)
      refine ax_cond_dec rfl (fun h5 => absurd (Int.ofNat_le.1 (cmpZ_le.1 h5)) hc) (fun h5 => ?_)
      repeat (first | refine ax_post_code ?_ | refine ax_seq ?_ | refine ax_skip ?_)
      refine ax_regiond (by kernel_rfl) ?_
      refine ax_any_run (fuel := 1) [0, 1, 2, 3, 4, 5, 6, 7] [(2, .ptr 0 0 0), (3, .ptr 1 0 0), (4, .ptr 2 0 0)] ⟨rfl, rfl, rfl, trivial⟩ (by kernel_rfl) (by decide) rfl rfl ?_
      refine px_q rfl rfl (q_field_ptr rfl rfl rfl rfl rfl rfl) ?_
      refine px_q rfl rfl (q_loadb_ptr rfl rfl rfl rfl rfl) ?_
      refine px_q rfl rfl (q_field_ptr rfl rfl rfl rfl rfl rfl) ?_
      refine px_q rfl rfl (q_loadb_ptr rfl rfl rfl rfl rfl) ?_
      refine px_q rfl rfl (q_field_ptr rfl rfl rfl rfl rfl rfl) ?_
      refine px_q rfl rfl (q_loadb_ptr rfl rfl rfl rfl rfl) ?_
      refine px_v rfl rfl rfl rfl rfl h1 ?_
      refine px_v rfl rfl rfl rfl rfl h2 ?_
      refine px_done ?_
      refine ax_any_step (is := [8]) (by kernel_rfl) (by simp) rfl ⟨fun o ho => ?_, trivial⟩
      all_goals (cases ho)
      skip
      unfold intA
      refine ax_storeagg (c' := .box [.bool (decide (x + y < 0)), natA (x + y).natAbs]) rfl rfl rfl rfl rfl Nat.zero_lt_one rfl rfl (fun i' j' hi' hj' => ?_) ?_
      · rw [if_pos (Nat.lt_one_iff.1 hi')]; rfl
      repeat (first | refine ax_ops_nil ?_ | refine ax_post_any ?_)
      refine ax_any_done (by kernel_rfl) ?_
      repeat (first | refine ax_post_code ?_ | refine ax_return ?_)
      exact ax_ret hR rfl rfl
theorem len_neg {x : Int} {k : Nat} (h : (natL x.natAbs).length ≤ k) : (natL (-x).natAbs).length ≤ k := by rw [Int.natAbs_neg]; exact h
theorem isub_ok (x y : Int) (hx : (natL x.natAbs).length ≤ 1000000) (hy : (natL y.natAbs).length ≤ 1000000) : VCall Tryz.prog 157 [intA x, intA y] (intA (x - y)) := by
  have h1 := iopp_ok y
  have h2 := iadd_ok x (-y) hx (len_neg hy)
  rw [show x + -y = x - y from rfl] at h2
  refine ACall.value0 (acall_of_ax (P := Tryz.prog) (fn := Tryz.f157) rfl rfl (by kernel_rfl) rfl (fun c hR hfix => ?_)) (fix := fun _ => False) (fun _ h => h) rfl rfl
  repeat (first | refine ax_ops_nil ?_ | refine ax_post_code ?_ | refine ax_seq ?_ | refine ax_region rfl ?_ | refine ax_box rfl rfl ?_ | refine ax_alloc rfl rfl rfl ?_)
  refine ax_regiond (by kernel_rfl) ?_
  refine ax_any_run (fuel := 1) [0, 1, 2, 3] [(2, .ptr 0 0 0), (3, .ptr 1 0 0), (4, .ptr 2 0 0)] ⟨rfl, rfl, rfl, trivial⟩ (by kernel_rfl) (by decide) rfl rfl ?_
  refine px_q rfl rfl (q_loadpart_ptr rfl rfl rfl rfl rfl rfl rfl (by first | exact Nat.zero_lt_one | assumption | omega)) ?_
  refine px_q rfl rfl (q_loadpart_ptr rfl rfl rfl rfl rfl rfl rfl (by first | exact Nat.zero_lt_one | assumption | omega)) ?_
  refine px_v rfl rfl rfl rfl rfl h1 ?_
  refine px_v rfl rfl rfl rfl rfl h2 ?_
  refine px_done ?_
  refine ax_any_step (is := [4]) (by kernel_rfl) (by simp) rfl ⟨fun o ho => ?_, trivial⟩
  all_goals (cases ho)
  skip
  unfold intA
  refine ax_storeagg (c' := .box [.bool (decide (x - y < 0)), natA (x - y).natAbs]) rfl rfl rfl rfl rfl Nat.zero_lt_one rfl rfl (fun i' j' hi' hj' => ?_) ?_
  · rw [if_pos (Nat.lt_one_iff.1 hi')]; rfl
  repeat (first | refine ax_ops_nil ?_ | refine ax_post_any ?_)
  refine ax_any_done (by kernel_rfl) ?_
  repeat (first | refine ax_post_code ?_ | refine ax_return ?_)
  exact ax_ret hR rfl rfl
theorem icmp_ok (x y : Int) (hx : (natL x.natAbs).length ≤ 1000000) (hy : (natL y.natAbs).length ≤ 1000000) : VCall Tryz.prog 147 [intA x, intA y] (.int .i64 (sgn (x - y))) := by
  have h1 := isub_ok x y hx hy
  have h2 := isign_ok (x - y)
  refine ACall.value0 (acall_of_ax (P := Tryz.prog) (fn := Tryz.f147) rfl rfl (by kernel_rfl) rfl (fun c hR hfix => ?_)) (fix := fun _ => False) (fun _ h => h) rfl rfl
  repeat (first | refine ax_q (q_assign rfl) ?_ | refine ax_ops_nil ?_ | refine ax_post_code ?_ | refine ax_seq ?_ | refine ax_region rfl ?_ | refine ax_q (q_loadpart_ptr rfl rfl rfl rfl rfl rfl rfl (by first | exact Nat.zero_lt_one | assumption | omega)) ?_ | refine ax_box rfl rfl ?_)
  refine ax_callv rfl rfl rfl h1 ?_
  skip
  refine ax_callv rfl rfl rfl h2 ?_
  repeat (first | refine ax_q (q_assign rfl) ?_ | refine ax_ops_nil ?_ | refine ax_post_code ?_ | refine ax_return ?_)
  exact ax_ret hR rfl rfl
theorem whole_ok (n : Int) (h : -9223372036854775808 ≤ n ∧ n < 9223372036854775808) : VCall Tryz.prog 73 [.int .i64 n] (intA n) := by
  refine ACall.value0 (acall_of_ax (P := Tryz.prog) (fn := Tryz.f73) rfl rfl (by kernel_rfl) rfl (fun c hR hfix => ?_)) (fix := fun _ => False) (fun _ h => h) rfl rfl
  rcases Int.lt_or_le n 0 with hn | hn
  · have h1 := small_ok n.natAbs (by omega)
    repeat (first | refine ax_q (q_move rfl) ?_ | refine ax_ops_nil ?_ | refine ax_post_code ?_ | refine ax_seq ?_ | refine ax_region rfl ?_ | refine ax_q (q_lss rfl rfl) ?_ | refine ax_alloc rfl rfl rfl ?_)
    refine ax_cond_dec rfl (fun _ => ?_) (fun h0 => absurd hn h0)
    repeat (first | refine ax_q (q_move rfl) ?_ | refine ax_seq ?_ | refine ax_region rfl ?_ | refine ax_q (q_add rfl rfl (by omega)) ?_)
    refine ax_q (q_neg rfl (by omega)) ?_
    refine ax_slot_ops 7 (.int .i64 ((n.natAbs - 1 : Nat) : Int)) rfl (AEq.of_eq (congrArg _ (by omega))) ?_
    refine ax_q (q_uconv (m := n.natAbs - 1) rfl rfl rfl uk64 (by omega)) ?_
    refine ax_q (q_uadd (m := n.natAbs - 1) (n := 1) rfl rfl uk64 (by omega)) ?_
    refine ax_slot_ops 9 (.int .u64 ((n.natAbs : Nat) : Int)) rfl (AEq.of_eq (congrArg _ (by omega))) ?_
    skip
    refine ax_callv rfl rfl rfl h1 ?_
    repeat (refine ax_q (q_build rfl rfl rfl rfl rfl rfl) ?_)
    refine ax_storeagg (c' := .box [.bool true, natA n.natAbs]) rfl rfl rfl rfl rfl Nat.zero_lt_one rfl rfl (fun i' j' hi' hj' => ?_) ?_
    · rw [if_pos (Nat.lt_one_iff.1 hi')]; rfl
    repeat (first | refine ax_ops_nil ?_ | refine ax_post_code ?_ | refine ax_return ?_ | refine ax_ret_code ?_)
    refine ax_ret hR rfl ?_
    unfold intA
    rw [show decide (n < 0) = true from decide_eq_true hn]
    rfl
  · have h1 := small_ok n.natAbs (by omega)
    repeat (first | refine ax_q (q_move rfl) ?_ | refine ax_ops_nil ?_ | refine ax_post_code ?_ | refine ax_seq ?_ | refine ax_region rfl ?_ | refine ax_q (q_lss rfl rfl) ?_ | refine ax_alloc rfl rfl rfl ?_)
    refine ax_cond_dec rfl (fun h0 => absurd h0 (by omega)) (fun h0 => ?_)
    repeat (first | refine ax_q (q_move rfl) ?_ | refine ax_post_code ?_ | refine ax_seq ?_ | refine ax_region rfl ?_ | refine ax_skip ?_)
    refine ax_slot_ops 12 (.int .i64 ((n.natAbs : Nat) : Int)) rfl (AEq.of_eq (congrArg _ (by omega))) ?_
    refine ax_q (q_uconv (m := n.natAbs) rfl rfl rfl uk64 (by omega)) ?_
    skip
    refine ax_callv rfl rfl rfl h1 ?_
    repeat (refine ax_q (q_build rfl rfl rfl rfl rfl rfl) ?_)
    refine ax_storeagg (c' := .box [.bool false, natA n.natAbs]) rfl rfl rfl rfl rfl Nat.zero_lt_one rfl rfl (fun i' j' hi' hj' => ?_) ?_
    · rw [if_pos (Nat.lt_one_iff.1 hi')]; rfl
    repeat (first | refine ax_ops_nil ?_ | refine ax_post_code ?_ | refine ax_return ?_)
    refine ax_ret hR rfl ?_
    unfold intA
    rw [show decide (n < 0) = false from decide_eq_false (by omega)]
    rfl
end Go.Proofs.YtgmleamhjnlknaaGreatDoor

namespace Go.Proofs.YtgmleamhjnlknaaGreatDoor
open Go.Ax Go.Ax.Bg Go.Ax.Rt Go.RowKit
attribute [local irreducible] Ax Post QOp ACall PureOp
set_option maxRecDepth 100000
set_option maxHeartbeats 4000000

def qA (q : Rat) : AV := .agg [.bool (decide (q.num < 0)), natA q.num.natAbs, natA q.den]
theorem int_nat (n : Nat) : intA (n : Int) = .agg [.bool false, natA n] := by
  unfold intA
  rw [show decide ((n : Int) < 0) = false from decide_eq_false (by omega), Int.natAbs_natCast]
theorem bne_iff {x y z : Int} (h : z < 0 ↔ x ≠ 0 ∧ ((x < 0 ∧ ¬ y < 0) ∨ (¬ x < 0 ∧ y < 0))) (hz : x = 0 → z = 0) : sgnI (!(decide (x < 0) == decide (y < 0))) z.natAbs = z := by
  unfold sgnI
  by_cases h1 : x < 0 <;> by_cases h2 : y < 0
  · simp [h1, h2]; have : ¬ z < 0 := fun q => by have := h.1 q; omega
    omega
  · simp [h1, h2]; have : z < 0 := h.2 (by omega)
    omega
  · simp [h1, h2]
    rcases Int.lt_or_le z 0 with q | q
    · omega
    · have : x = 0 := by
        rcases Int.lt_trichotomy x 0 with w | w | w
        · exact absurd w h1
        · exact w
        · exact absurd (h.2 ⟨by omega, .inr ⟨h1, h2⟩⟩) (by omega)
      have := hz this
      omega
  · simp [h1, h2]; have : ¬ z < 0 := fun q => by have := h.1 q; omega
    omega
theorem gcd_len {a b k : Nat} (ha : (natL a).length ≤ k) (hb : (natL b).length ≤ k) : (natL (Nat.gcd a b)).length ≤ k := by
  rcases Nat.eq_zero_or_pos a with h | h
  · subst h; rw [Nat.gcd_zero_left]; exact hb
  · exact natL_le_len (Nat.gcd_le_left b h) ha
theorem frac_ok (n d : Int) (hd : d ≠ 0) (hn : (natL n.natAbs).length ≤ 1000000) (hdl : (natL d.natAbs).length ≤ 1000000) : VCall Tryz.prog 72 [intA n, intA d] (qA (Rat.divInt n d)) := by
  obtain ⟨e1, e2, e3⟩ := frac_parts n d hd
  have hg := gcd_ok n.natAbs d.natAbs hn hdl
  have hgl := gcd_len hn hdl
  have hgp : 0 < Nat.gcd n.natAbs d.natAbs := Nat.gcd_pos_of_pos_right _ (by omega)
  have h1 := div_ok n.natAbs _ hgp hn hgl
  have h2 := div_ok d.natAbs _ hgp hdl hgl
  have h3 := made_ok (!(decide (n < 0) == decide (d < 0))) (Rat.divInt n d).num.natAbs
  rw [bne_iff e3 (fun h0 => by rw [h0, Rat.zero_divInt]; rfl)] at h3
  rw [← e1] at h1
  rw [← e2] at h2
  refine ACall.value0 (acall_of_ax (P := Tryz.prog) (fn := Tryz.f72) rfl rfl (by kernel_rfl) rfl (fun c hR hfix => ?_)) (fix := fun _ => False) (fun _ h => h) rfl rfl
  repeat (first | refine ax_ops_nil ?_ | refine ax_post_code ?_ | refine ax_seq ?_ | refine ax_region rfl ?_ | refine ax_q (q_loadb_ptr rfl rfl rfl rfl rfl) ?_ | refine ax_q (q_field_ptr rfl rfl rfl rfl rfl rfl) ?_ | refine ax_box rfl rfl ?_ | refine ax_alloc rfl rfl rfl ?_)
  refine ax_callv rfl rfl rfl hg ?_
  repeat (first | refine ax_q (q_move rfl) ?_ | refine ax_q (q_assign rfl) ?_ | refine ax_ops_nil ?_ | refine ax_post_code ?_ | refine ax_seq ?_ | refine ax_region rfl ?_ | refine ax_q (q_loadb_ptr rfl rfl rfl rfl rfl) ?_ | refine ax_q (q_field_ptr rfl rfl rfl rfl rfl rfl) ?_)
  refine ax_callv rfl rfl rfl h1 ?_
  repeat (first | refine ax_q (q_move rfl) ?_ | refine ax_q (q_assign rfl) ?_ | refine ax_ops_nil ?_ | refine ax_post_code ?_ | refine ax_seq ?_ | refine ax_region rfl ?_ | refine ax_q (q_loadb_ptr rfl rfl rfl rfl rfl) ?_ | refine ax_q (q_extract rfl rfl) ?_ | refine ax_q (q_field_ptr rfl rfl rfl rfl rfl rfl) ?_)
  refine ax_callv rfl rfl rfl h2 ?_
  repeat (first | refine ax_q (q_move rfl) ?_ | refine ax_q (q_assign rfl) ?_ | refine ax_ops_nil ?_ | refine ax_post_code ?_ | refine ax_seq ?_ | refine ax_region rfl ?_ | refine ax_q (q_loadb_ptr rfl rfl rfl rfl rfl) ?_ | refine ax_q (q_extract rfl rfl) ?_ | refine ax_q (q_field_ptr rfl rfl rfl rfl rfl rfl) ?_ | refine ax_q (q_boolneq rfl rfl rfl) ?_)
  refine ax_callv rfl rfl rfl h3 ?_
  repeat (first | refine ax_q (q_move rfl) ?_ | refine ax_q (q_build rfl rfl rfl rfl rfl rfl) ?_)
  refine ax_storeagg (c' := .box [.bool (decide ((Rat.divInt n d).num < 0)), natA (Rat.divInt n d).num.natAbs, natA (Rat.divInt n d).den]) rfl rfl rfl rfl rfl Nat.zero_lt_one rfl rfl (fun i' j' hi' hj' => ?_) ?_
  · rw [if_pos (Nat.lt_one_iff.1 hi')]; rfl
  repeat (first | refine ax_ops_nil ?_ | refine ax_post_code ?_ | refine ax_return ?_)
  exact ax_ret hR rfl rfl
def Sz (k : Nat) (q : Rat) : Prop := (natL q.num.natAbs).length ≤ k ∧ (natL q.den).length ≤ k
theorem imul_len {x y : Int} {k : Nat} (hx : (natL x.natAbs).length ≤ k) (hy : (natL y.natAbs).length ≤ k) : (natL (x * y).natAbs).length ≤ k + k := by
  rw [Int.natAbs_mul]; exact len_mul hx hy
theorem iadd_len {x y : Int} {k : Nat} (hx : (natL x.natAbs).length ≤ k) (hy : (natL y.natAbs).length ≤ k) : (natL (x + y).natAbs).length ≤ k + 1 :=
  natL_le_len (Int.natAbs_add_le x y) (len_add hx hy)
theorem qadd_ok (p q : Rat) (hp : Sz 100000 p) (hq : Sz 100000 q) : VCall Tryz.prog 67 [qA p, qA q] (qA (p + q)) := by
  have l1 : (natL (q.den : Int).natAbs).length ≤ 100000 := hq.2
  have l2 : (natL (p.den : Int).natAbs).length ≤ 100000 := hp.2
  have h1 := imul_ok p.num q.den (by have := hp.1; omega) (by omega)
  have h2 := imul_ok q.num p.den (by have := hq.1; omega) (by omega)
  have m1 := imul_len hp.1 l1
  have m2 := imul_len hq.1 l2
  have h3 := iadd_ok (p.num * q.den) (q.num * p.den) (by omega) (by omega)
  have h4 := mul_ok p.den q.den (by have := hp.2; omega) (by have := hq.2; omega)
  have m3 := iadd_len m1 m2
  have m4 := len_mul hp.2 hq.2
  have h5 := frac_ok (p.num * q.den + q.num * p.den) ((p.den * q.den : Nat) : Int) (by have := Nat.mul_ne_zero p.den_nz q.den_nz; omega) (by omega) (by rw [Int.natAbs_natCast]; omega)
  rw [int_nat, add_frac] at h5
  rw [int_nat] at h1 h2
  refine ACall.value0 (acall_of_ax (P := Tryz.prog) (fn := Tryz.f67) rfl rfl (by kernel_rfl) rfl (fun c hR hfix => ?_)) (fix := fun _ => False) (fun _ h => h) rfl rfl
  repeat (first | refine ax_ops_nil ?_ | refine ax_post_code ?_ | refine ax_seq ?_ | refine ax_region rfl ?_ | refine ax_box rfl rfl ?_ | refine ax_alloc rfl rfl rfl ?_)
  refine ax_regiond (by kernel_rfl) ?_
  refine ax_any_run (fuel := 1) [0, 1, 2, 3, 4, 5, 6, 7, 8, 9, 10, 11, 12, 13, 14, 15, 16, 17, 18, 19] [(2, .ptr 0 0 0), (3, .ptr 1 0 0), (4, .ptr 2 0 0)] ⟨rfl, rfl, rfl, trivial⟩ (by kernel_rfl) (by decide) rfl rfl ?_
  refine px_q rfl rfl (q_field_ptr rfl rfl rfl rfl rfl rfl) ?_
  refine px_q rfl rfl (q_loadpart_ptr rfl rfl rfl rfl rfl rfl rfl (by first | exact Nat.zero_lt_one | assumption | omega)) ?_
  refine px_q rfl rfl (q_field_ptr rfl rfl rfl rfl rfl rfl) ?_
  refine px_q rfl rfl (q_loadb_ptr rfl rfl rfl rfl rfl) ?_
  refine px_q rfl rfl (q_build rfl rfl rfl rfl rfl rfl) ?_
  refine px_v rfl rfl rfl rfl rfl h1 ?_
  refine px_q rfl rfl (q_field_ptr rfl rfl rfl rfl rfl rfl) ?_
  refine px_q rfl rfl (q_loadpart_ptr rfl rfl rfl rfl rfl rfl rfl (by first | exact Nat.zero_lt_one | assumption | omega)) ?_
  refine px_q rfl rfl (q_field_ptr rfl rfl rfl rfl rfl rfl) ?_
  refine px_q rfl rfl (q_loadb_ptr rfl rfl rfl rfl rfl) ?_
  refine px_q rfl rfl (q_build rfl rfl rfl rfl rfl rfl) ?_
  refine px_v rfl rfl rfl rfl rfl h2 ?_
  refine px_v rfl rfl rfl rfl rfl h3 ?_
  refine px_q rfl rfl (q_field_ptr rfl rfl rfl rfl rfl rfl) ?_
  refine px_q rfl rfl (q_loadb_ptr rfl rfl rfl rfl rfl) ?_
  refine px_q rfl rfl (q_field_ptr rfl rfl rfl rfl rfl rfl) ?_
  refine px_q rfl rfl (q_loadb_ptr rfl rfl rfl rfl rfl) ?_
  refine px_v rfl rfl rfl rfl rfl h4 ?_
  refine px_q rfl rfl (q_build rfl rfl rfl rfl rfl rfl) ?_
  refine px_v rfl rfl rfl rfl rfl h5 ?_
  refine px_done ?_
  refine ax_any_step (is := [20]) (by kernel_rfl) (by simp) rfl ⟨fun o ho => ?_, trivial⟩
  all_goals (cases ho)
  skip
  unfold qA
  refine ax_storeagg (c' := .box [.bool (decide ((p + q).num < 0)), natA (p + q).num.natAbs, natA (p + q).den]) rfl rfl rfl rfl rfl Nat.zero_lt_one rfl rfl (fun i' j' hi' hj' => ?_) ?_
  · rw [if_pos (Nat.lt_one_iff.1 hi')]; rfl
  repeat (first | refine ax_ops_nil ?_ | refine ax_post_any ?_)
  refine ax_any_done (by kernel_rfl) ?_
  repeat (first | refine ax_post_code ?_ | refine ax_return ?_)
  exact ax_ret hR rfl rfl
theorem qmul_ok (p q : Rat) (hp : Sz 100000 p) (hq : Sz 100000 q) : VCall Tryz.prog 118 [qA p, qA q] (qA (p * q)) := by
  have h1 := imul_ok p.num q.num (by have := hp.1; omega) (by have := hq.1; omega)
  have m1 := imul_len hp.1 hq.1
  have h4 := mul_ok p.den q.den (by have := hp.2; omega) (by have := hq.2; omega)
  have m4 := len_mul hp.2 hq.2
  have h5 := frac_ok (p.num * q.num) ((p.den * q.den : Nat) : Int) (by have := Nat.mul_ne_zero p.den_nz q.den_nz; omega) (by omega) (by rw [Int.natAbs_natCast]; omega)
  rw [int_nat, mul_frac] at h5
  refine ACall.value0 (acall_of_ax (P := Tryz.prog) (fn := Tryz.f118) rfl rfl (by kernel_rfl) rfl (fun c hR hfix => ?_)) (fix := fun _ => False) (fun _ h => h) rfl rfl
  repeat (first | refine ax_ops_nil ?_ | refine ax_post_code ?_ | refine ax_seq ?_ | refine ax_region rfl ?_ | refine ax_box rfl rfl ?_ | refine ax_alloc rfl rfl rfl ?_)
  refine ax_regiond (by kernel_rfl) ?_
  refine ax_any_run (fuel := 1) [0, 1, 2, 3, 4, 5, 6, 7, 8, 9, 10, 11] [(2, .ptr 0 0 0), (3, .ptr 1 0 0), (4, .ptr 2 0 0)] ⟨rfl, rfl, rfl, trivial⟩ (by kernel_rfl) (by decide) rfl rfl ?_
  refine px_q rfl rfl (q_field_ptr rfl rfl rfl rfl rfl rfl) ?_
  refine px_q rfl rfl (q_loadpart_ptr rfl rfl rfl rfl rfl rfl rfl (by first | exact Nat.zero_lt_one | assumption | omega)) ?_
  refine px_q rfl rfl (q_field_ptr rfl rfl rfl rfl rfl rfl) ?_
  refine px_q rfl rfl (q_loadpart_ptr rfl rfl rfl rfl rfl rfl rfl (by first | exact Nat.zero_lt_one | assumption | omega)) ?_
  refine px_v rfl rfl rfl rfl rfl h1 ?_
  refine px_q rfl rfl (q_field_ptr rfl rfl rfl rfl rfl rfl) ?_
  refine px_q rfl rfl (q_loadb_ptr rfl rfl rfl rfl rfl) ?_
  refine px_q rfl rfl (q_field_ptr rfl rfl rfl rfl rfl rfl) ?_
  refine px_q rfl rfl (q_loadb_ptr rfl rfl rfl rfl rfl) ?_
  refine px_v rfl rfl rfl rfl rfl h4 ?_
  refine px_q rfl rfl (q_build rfl rfl rfl rfl rfl rfl) ?_
  refine px_v rfl rfl rfl rfl rfl h5 ?_
  refine px_done ?_
  refine ax_any_step (is := [12]) (by kernel_rfl) (by simp) rfl ⟨fun o ho => ?_, trivial⟩
  all_goals (cases ho)
  skip
  unfold qA
  refine ax_storeagg (c' := .box [.bool (decide ((p * q).num < 0)), natA (p * q).num.natAbs, natA (p * q).den]) rfl rfl rfl rfl rfl Nat.zero_lt_one rfl rfl (fun i' j' hi' hj' => ?_) ?_
  · rw [if_pos (Nat.lt_one_iff.1 hi')]; rfl
  repeat (first | refine ax_ops_nil ?_ | refine ax_post_any ?_)
  refine ax_any_done (by kernel_rfl) ?_
  repeat (first | refine ax_post_code ?_ | refine ax_return ?_)
  exact ax_ret hR rfl rfl
theorem qcmp_ok (p q : Rat) (hp : Sz 100000 p) (hq : Sz 100000 q) : VCall Tryz.prog 78 [qA p, qA q] (.int .i64 (cmpQ p q)) := by
  have l1 : (natL (q.den : Int).natAbs).length ≤ 100000 := hq.2
  have l2 : (natL (p.den : Int).natAbs).length ≤ 100000 := hp.2
  have h1 := imul_ok p.num q.den (by have := hp.1; omega) (by omega)
  have h2 := imul_ok q.num p.den (by have := hq.1; omega) (by omega)
  have m1 := imul_len hp.1 l1
  have m2 := imul_len hq.1 l2
  have h5 := icmp_ok (p.num * q.den) (q.num * p.den) (by omega) (by omega)
  rw [sgn_cmp p q] at h5
  rw [int_nat] at h1 h2
  refine ACall.value0 (acall_of_ax (P := Tryz.prog) (fn := Tryz.f78) rfl rfl (by kernel_rfl) rfl (fun c hR hfix => ?_)) (fix := fun _ => False) (fun _ h => h) rfl rfl
  repeat (first | refine ax_q (q_assign rfl) ?_ | refine ax_ops_nil ?_ | refine ax_post_code ?_ | refine ax_seq ?_ | refine ax_region rfl ?_ | refine ax_box rfl rfl ?_)
  refine ax_regiond (by kernel_rfl) ?_
  refine ax_any_run (fuel := 0) [0, 1, 2, 3, 4, 5, 6, 7, 8, 9, 10, 11, 12, 13] [(2, .ptr 0 0 0), (3, .ptr 1 0 0)] ⟨rfl, rfl, trivial⟩ (by kernel_rfl) (by decide) rfl rfl ?_
  refine px_q rfl rfl (q_field_ptr rfl rfl rfl rfl rfl rfl) ?_
  refine px_q rfl rfl (q_loadpart_ptr rfl rfl rfl rfl rfl rfl rfl (by first | exact Nat.zero_lt_one | assumption | omega)) ?_
  refine px_q rfl rfl (q_field_ptr rfl rfl rfl rfl rfl rfl) ?_
  refine px_q rfl rfl (q_loadb_ptr rfl rfl rfl rfl rfl) ?_
  refine px_q rfl rfl (q_build rfl rfl rfl rfl rfl rfl) ?_
  refine px_v rfl rfl rfl rfl rfl h1 ?_
  refine px_q rfl rfl (q_field_ptr rfl rfl rfl rfl rfl rfl) ?_
  refine px_q rfl rfl (q_loadpart_ptr rfl rfl rfl rfl rfl rfl rfl (by first | exact Nat.zero_lt_one | assumption | omega)) ?_
  refine px_q rfl rfl (q_field_ptr rfl rfl rfl rfl rfl rfl) ?_
  refine px_q rfl rfl (q_loadb_ptr rfl rfl rfl rfl rfl) ?_
  refine px_q rfl rfl (q_build rfl rfl rfl rfl rfl rfl) ?_
  refine px_v rfl rfl rfl rfl rfl h2 ?_
  refine px_v rfl rfl rfl rfl rfl h5 ?_
  refine px_q rfl rfl (q_assign rfl) ?_
  refine px_done ?_
  refine ax_any_done (by kernel_rfl) ?_
  repeat (first | refine ax_post_code ?_ | refine ax_return ?_)
  exact ax_ret hR rfl rfl
end Go.Proofs.YtgmleamhjnlknaaGreatDoor

namespace Go.Proofs.YtgmleamhjnlknaaGreatDoor
open Go.Ax Go.Ax.Bg Go.Ax.Rt Go.RowKit
attribute [local irreducible] Ax Post QOp ACall PureOp
set_option maxRecDepth 100000
set_option maxHeartbeats 4000000

open Go.Ax.Tb (cutF cutF_idx)
theorem natA_one : natA 1 = .ro (.ints .u32 [1]) 0 1 := by unfold natA; rw [natL_one]; rfl
theorem qA_int (z : Int) : qA (z : Rat) = .agg [.bool (decide (z < 0)), natA z.natAbs, natA 1] := rfl
theorem qof_ok (n : Int) (h : -9223372036854775808 ≤ n ∧ n < 9223372036854775808) : VCall Tryz.prog 65 [.int .i64 n] (qA (n : Rat)) := by
  have h1 := whole_ok n h
  refine ACall.value0 (acall_of_ax (P := Tryz.prog) (fn := Tryz.f65) rfl rfl (by kernel_rfl) rfl (fun c hR hfix => ?_)) (fix := fun _ => False) (fun _ h => h) rfl rfl
  repeat (first | refine ax_q (q_move rfl) ?_ | refine ax_ops_nil ?_ | refine ax_post_code ?_ | refine ax_seq ?_ | refine ax_region rfl ?_ | refine ax_alloc rfl rfl rfl ?_)
  refine ax_callv rfl rfl rfl h1 ?_
  unfold intA
  repeat (first | refine ax_q (q_build rfl rfl rfl rfl rfl rfl) ?_ | refine ax_buildSliceRo rfl rfl rfl rfl rfl rfl rfl rfl rfl rfl rfl ?_)
  refine ax_storeagg (c' := .box [.bool (decide (n < 0)), natA n.natAbs, .ro (.ints .u32 [1]) 0 1]) rfl rfl rfl rfl rfl Nat.zero_lt_one rfl rfl (fun i' j' hi' hj' => ?_) ?_
  · rw [if_pos (Nat.lt_one_iff.1 hi')]; rfl
  repeat (first | refine ax_ops_nil ?_ | refine ax_post_code ?_ | refine ax_return ?_)
  refine ax_ret hR rfl ?_
  rw [qA_int, natA_one]
  rfl
theorem indexByteI (s : List UInt8) (b : Int) : VCall Tryz.prog 212 [.str s, .int .u8 b] (.int .i64 (Lib.indexByte s b.toNat.toUInt8)) := by
  refine ACall.value0 (acall_of_ax (P := Tryz.prog) (fn := Tryz.f212) rfl rfl (by kernel_rfl) rfl (fun c hR hfix => ?_)) (fix := fun _ => False) (fun _ h => h) rfl rfl
  repeat (first | refine ax_q (q_move rfl) ?_ | refine ax_q (q_assign rfl) ?_ | refine ax_ops_nil ?_ | refine ax_post_code ?_ | refine ax_seq ?_ | refine ax_region rfl ?_)
  refine ax_q (q_indexByte rfl rfl rfl rfl (by kernel_rfl) (by kernel_rfl) (by kernel_rfl) (by kernel_rfl)) ?_
  repeat (first | refine ax_q (q_assign rfl) ?_ | refine ax_ops_nil ?_ | refine ax_post_code ?_ | refine ax_return ?_)
  exact ax_ret hR rfl rfl
theorem indexI1 (s : List UInt8) (b : UInt8) : VCall Tryz.prog 194 [.str s, .str [b]] (.int .i64 (Lib.indexByte s b)) := by
  refine ACall.value0 (acall_of_ax (P := Tryz.prog) (fn := Tryz.f194) rfl rfl (by kernel_rfl) rfl (fun c hR hfix => ?_)) (fix := fun _ => False) (fun _ h => h) rfl rfl
  repeat (first | refine ax_q (q_move rfl) ?_ | refine ax_q (q_assign rfl) ?_ | refine ax_ops_nil ?_ | refine ax_post_code ?_ | refine ax_seq ?_ | refine ax_region rfl ?_ | refine ax_guard rfl rfl ?_ | refine ax_block ?_ | refine ax_q (q_eql rfl rfl) ?_ | refine ax_q (q_pick rfl rfl) ?_ | refine ax_q (q_lenstr rfl rfl) ?_ | refine ax_q (q_streql rfl rfl) ?_)
  refine ax_cond_dec rfl (fun h => ?_) (fun h => ?_)
  · repeat (first | refine ax_q (q_assign rfl) ?_ | refine ax_ops_nil ?_ | refine ax_post_code ?_ | refine ax_seq ?_ | refine ax_region rfl ?_ | refine ax_return ?_ | refine ax_ret_code ?_ | refine ax_ret_blk ?_)
    refine ax_ret hR rfl ?_
    subst h
    simp [tupOf, Lib.indexByte]
  repeat (first | refine ax_q (q_move rfl) ?_ | refine ax_q (q_assign rfl) ?_ | refine ax_ops_nil ?_ | refine ax_post_code ?_ | refine ax_seq ?_ | refine ax_region rfl ?_ | refine ax_cond_true rfl ?_ | refine ax_q (q_eql rfl rfl) ?_ | refine ax_q (q_stridx rfl rfl rfl (by first | assumption | omega | simp)) ?_)
  refine ax_callv rfl rfl rfl (indexByteI s b.toNat) ?_
  repeat (first | refine ax_q (q_assign rfl) ?_ | refine ax_ops_nil ?_ | refine ax_post_code ?_ | refine ax_return ?_ | refine ax_ret_code ?_ | refine ax_ret_blk ?_)
  refine ax_ret hR rfl ?_
  simp [tupOf]
theorem indexByte_lt (l : List UInt8) (b : UInt8) : Lib.indexByte l b < l.length := by
  induction l with
  | nil => simp [Lib.indexByte]
  | cons c r ih =>
    rw [Lib.indexByte]
    simp only [List.length_cons]
    split
    · omega
    · split
      · omega
      · omega
theorem cutI (s : List UInt8) (b : UInt8) (h : s.length ≤ 9223372036854775807) : VCall Tryz.prog 181 [.str s, .str [b]] (.tup [.str (cutF b s).1, .str (cutF b s).2.1, .bool (cutF b s).2.2]) := by
  have hc := cutF_idx b s
  have hlt := indexByte_lt s b
  have hge := Lib.indexByte_ge s b
  have ci := indexI1 s b
  refine ACall.value0 (acall_of_ax (P := Tryz.prog) (fn := Tryz.f181) rfl rfl (by kernel_rfl) rfl (fun c hR hfix => ?_)) (fix := fun _ => False) (fun _ h => h) rfl rfl
  generalize Lib.indexByte s b = i at *
  repeat (first | refine ax_q (q_move rfl) ?_ | refine ax_q (q_assign rfl) ?_ | refine ax_ops_nil ?_ | refine ax_post_code ?_ | refine ax_seq ?_ | refine ax_region rfl ?_)
  refine ax_callv rfl rfl rfl ci ?_
  repeat (first | refine ax_q (q_move rfl) ?_ | refine ax_q (q_assign rfl) ?_ | refine ax_ops_nil ?_ | refine ax_post_code ?_ | refine ax_seq ?_ | refine ax_region rfl ?_ | refine ax_q (q_geq rfl rfl) ?_)
  refine ax_cond_dec rfl (fun h0 => ?_) (fun h0 => ?_)
  · rw [if_pos h0] at hc
    rw [hc] at hR
    have hb1 : ([b] : List UInt8).length = 1 := rfl
    have hi1 : (i + 1).toNat = i.toNat + 1 := by omega
    repeat (refine ax_seq ?_)
    refine ax_regionq (by kernel_rfl) (by kernel_rfl) rfl ?_
    repeat (first | refine ax_q (q_move rfl) ?_ | refine ax_q (q_assign rfl) ?_ | refine ax_ops_nil ?_ | refine ax_post_code ?_ | refine ax_return ?_ | refine ax_ret_code ?_ | refine ax_q (q_lenstr rfl rfl) ?_ | refine ax_q (q_add rfl rfl (by omega)) ?_ | refine ax_q (q_strslice rfl rfl rfl rfl rfl rfl (by omega)) ?_)
    refine ax_ret hR rfl ?_
    simp [tupOf, hi1]
    exact List.take_of_length_le (by simp)
  · rw [if_neg h0] at hc
    rw [hc] at hR
    repeat (first | refine ax_q (q_move rfl) ?_ | refine ax_q (q_assign rfl) ?_ | refine ax_ops_nil ?_ | refine ax_post_code ?_ | refine ax_seq ?_ | refine ax_region rfl ?_ | refine ax_skip ?_ | refine ax_return ?_)
    exact ax_ret hR rfl rfl
theorem cutS (s : List UInt8) (b : UInt8) (h : s.length ≤ 9223372036854775807) : VCall Tryz.prog 149 [.str s, .str [b]] (.tup [.str (cutF b s).1, .str (cutF b s).2.1, .bool (cutF b s).2.2]) := by
  have ci := cutI s b h
  refine ACall.value0 (acall_of_ax (P := Tryz.prog) (fn := Tryz.f149) rfl rfl (by kernel_rfl) rfl (fun c hR hfix => ?_)) (fix := fun _ => False) (fun _ h => h) rfl rfl
  generalize cutF b s = q at *
  repeat (first | refine ax_q (q_move rfl) ?_ | refine ax_q (q_assign rfl) ?_ | refine ax_ops_nil ?_ | refine ax_post_code ?_ | refine ax_seq ?_ | refine ax_region rfl ?_)
  refine ax_callv rfl rfl rfl ci ?_
  repeat (first | refine ax_q (q_assign rfl) ?_ | refine ax_ops_nil ?_ | refine ax_post_code ?_ | refine ax_return ?_ | refine ax_q (q_extract rfl rfl) ?_)
  exact ax_ret hR rfl rfl
theorem cutP1 (s p : List UInt8) (hs : s.length ≤ 9223372036854775807) (hp : p.length ≤ 9223372036854775807) : VCall Tryz.prog 180 [.str s, .str p] (.tup [.str (if preB s p then s.drop p.length else s), .bool (preB s p)]) := by
  have h1 := prefix1 s p hs hp
  refine ACall.value0 (acall_of_ax (P := Tryz.prog) (fn := Tryz.f180) rfl rfl (by kernel_rfl) rfl (fun c hR hfix => ?_)) (fix := fun _ => False) (fun _ h => h) rfl rfl
  by_cases h : preB s p = true
  · have hle : p.length ≤ s.length := by unfold preB at h; exact (of_decide_eq_true h).1
    rw [h] at h1 hR
    repeat (first | refine ax_q (q_move rfl) ?_ | refine ax_q (q_assign rfl) ?_ | refine ax_ops_nil ?_ | refine ax_post_code ?_ | refine ax_seq ?_ | refine ax_region rfl ?_)
    refine ax_callv rfl rfl rfl h1 ?_
    repeat (first | refine ax_q (q_move rfl) ?_ | refine ax_q (q_assign rfl) ?_ | refine ax_ops_nil ?_ | refine ax_post_code ?_ | refine ax_seq ?_ | refine ax_region rfl ?_ | refine ax_cond_false rfl ?_ | refine ax_skip ?_ | refine ax_return ?_ | refine ax_q (q_not rfl) ?_ | refine ax_q (q_lenstr rfl rfl) ?_ | refine ax_q (q_strslice rfl rfl rfl rfl rfl rfl (by omega)) ?_)
    refine ax_ret hR rfl ?_
    simp only [tupOf, Int.toNat_natCast]
    rw [List.take_of_length_le (by simp)]
    rfl
  · rw [Bool.not_eq_true] at h
    rw [h] at h1 hR
    repeat (first | refine ax_q (q_move rfl) ?_ | refine ax_q (q_assign rfl) ?_ | refine ax_ops_nil ?_ | refine ax_post_code ?_ | refine ax_seq ?_ | refine ax_region rfl ?_)
    refine ax_callv rfl rfl rfl h1 ?_
    repeat (first | refine ax_q (q_move rfl) ?_ | refine ax_q (q_assign rfl) ?_ | refine ax_ops_nil ?_ | refine ax_post_code ?_ | refine ax_seq ?_ | refine ax_region rfl ?_ | refine ax_cond_true rfl ?_ | refine ax_return ?_ | refine ax_ret_code ?_ | refine ax_q (q_not rfl) ?_)
    exact ax_ret hR rfl rfl
theorem cutP (s p : List UInt8) (hs : s.length ≤ 9223372036854775807) (hp : p.length ≤ 9223372036854775807) : VCall Tryz.prog 148 [.str s, .str p] (.tup [.str (if preB s p then s.drop p.length else s), .bool (preB s p)]) := by
  have h1 := cutP1 s p hs hp
  refine ACall.value0 (acall_of_ax (P := Tryz.prog) (fn := Tryz.f148) rfl rfl (by kernel_rfl) rfl (fun c hR hfix => ?_)) (fix := fun _ => False) (fun _ h => h) rfl rfl
  generalize preB s p = b at *
  repeat (first | refine ax_q (q_move rfl) ?_ | refine ax_q (q_assign rfl) ?_ | refine ax_ops_nil ?_ | refine ax_post_code ?_ | refine ax_seq ?_ | refine ax_region rfl ?_)
  refine ax_callv rfl rfl rfl h1 ?_
  repeat (first | refine ax_q (q_assign rfl) ?_ | refine ax_ops_nil ?_ | refine ax_post_code ?_ | refine ax_return ?_ | refine ax_q (q_extract rfl rfl) ?_)
  exact ax_ret hR rfl rfl
end Go.Proofs.YtgmleamhjnlknaaGreatDoor

/-
  The texts of rational numbers, in plain Lean. No program in sight.
-/
namespace Go.Ax.Rt
open Go.Ax.Bg
open Go.Ax.Tb (digit digits_digit digits_ne cutF cutF_no cutF_at no_in_digits)

def negB : List UInt8 → Bool
  | c :: _ => decide (c = 45)
  | [] => false
def bodyS (s : List UInt8) : List UInt8 := if negB s then s.drop 1 else s
def numS (s : List UInt8) : List UInt8 := (cutF 47 (bodyS s)).1
def denS (s : List UInt8) : List UInt8 := (cutF 47 (bodyS s)).2.1
def hasD (s : List UInt8) : Bool := (cutF 47 (bodyS s)).2.2
/-- rat.Check -/
def ratE (s : List UInt8) : Int :=
  if canonB (numS s) = false ∨ (hasD s = true ∧ canonB (denS s) = false) ∨ (negB s = true ∧ numS s = [48]) then 5
  else if 2000 < (numS s).length ∨ 2000 < (denS s).length then 2
  else if hasD s = true ∧ (denS s = [48] ∨ denS s = [49] ∨ Nat.gcd (decV 0 (numS s)) (decV 0 (denS s)) ≠ 1) then 3 else 0
def denV (s : List UInt8) : Nat := if hasD s then decV 0 (denS s) else 1
def ratV (s : List UInt8) : Rat := Rat.divInt (sgnI (negB s) (decV 0 (numS s))) (denV s : Nat)
def textQ (q : Rat) : List UInt8 := (if q.num < 0 then [45] else []) ++ (Lib.decDigits q.num.natAbs ++ (if q.den = 1 then [] else 47 :: Lib.decDigits q.den))
def fitB (q : Rat) : Bool := decide ((Lib.decDigits q.num.natAbs).length ≤ 2000) && decide ((Lib.decDigits q.den).length ≤ 2000)
def outF (q : Rat) : List UInt8 × Int := if fitB q then (textQ q, 0) else ([], 2)

theorem cutF_join (b : UInt8) : ∀ l : List UInt8, l = (cutF b l).1 ++ (if (cutF b l).2.2 then b :: (cutF b l).2.1 else [])
  | [] => rfl
  | c :: r => by
    rw [cutF]
    split
    · rename_i h; subst h; simp
    · have := cutF_join b r
      simp only [List.cons_append, List.cons.injEq, true_and]
      exact this
structure Parts (s : List UInt8) (q : Rat) : Prop where
  num : q.num = sgnI (negB s) (decV 0 (numS s))
  den : q.den = denV s
  cn : Canon (numS s)
  cd : hasD s = true → Canon (denS s) ∧ decV 0 (denS s) ≠ 0 ∧ decV 0 (denS s) ≠ 1
  ln : (numS s).length ≤ 2000
  ld : (denS s).length ≤ 2000
  ng : negB s = true → decV 0 (numS s) ≠ 0
theorem one_dig {s : List UInt8} {n : Nat} (hc : Canon s) (hn : n < 10) (h : decV 0 s = n) : s = [UInt8.ofNat (48 + n)] := by
  rw [← canon_eq hc, h, Lib.decDigits_one hn]
theorem den_one {s : List UInt8} (h : hasD s = false) : denV s = 1 := by unfold denV; rw [h]; rfl
theorem den_some {s : List UInt8} (h : hasD s = true) : denV s = decV 0 (denS s) := by unfold denV; rw [h]; rfl
theorem rat_parts {s : List UInt8} (h : ratE s = 0) : Parts s (ratV s) := by
  unfold ratE at h
  split at h
  · omega
  split at h
  · omega
  split at h
  · omega
  rename_i h1 h2 h3
  simp only [not_or, not_and, Bool.not_eq_false] at h1 h2 h3
  obtain ⟨a1, a2, a3⟩ := h1
  have cn := canonB_iff.1 a1
  have cd : hasD s = true → Canon (denS s) ∧ decV 0 (denS s) ≠ 0 ∧ decV 0 (denS s) ≠ 1 := fun hd => by
    have c := canonB_iff.1 (a2 hd)
    exact ⟨c, fun e => (h3 hd).1 (one_dig c (by decide) e), fun e => (h3 hd).2.1 (one_dig c (by decide) e)⟩
  have hd0 : denV s ≠ 0 := by
    cases e : hasD s
    · rw [den_one e]; decide
    · rw [den_some e]; exact (cd e).2.1
  have hg : Nat.gcd (decV 0 (numS s)) (denV s) = 1 := by
    cases e : hasD s
    · rw [den_one e]; exact Nat.gcd_one_right _
    · rw [den_some e]; exact Classical.not_not.1 (h3 e).2.2
  obtain ⟨e1, e2, e3⟩ := frac_nat (sgnI (negB s) (decV 0 (numS s))) (denV s) hd0
  rw [sgnI_abs, hg, Nat.div_one] at e1
  rw [sgnI_abs, hg, Nat.div_one] at e2
  refine ⟨?_, e2, cn, cd, by omega, by omega, fun hn e => a3 hn (one_dig cn (by decide) e)⟩
  show (Rat.divInt _ _).num = _
  have := sgnI_abs (negB s) (decV 0 (numS s))
  omega
theorem neg_body {s : List UInt8} : s = (if negB s then [45] else []) ++ bodyS s := by
  unfold bodyS
  cases s with
  | nil => rfl
  | cons c r =>
    unfold negB
    by_cases h : c = 45
    · subst h; rfl
    · simp [h]
theorem Parts.text {s : List UInt8} {q : Rat} (h : Parts s q) : textQ q = s := by
  conv => rhs; rw [neg_body (s := s), cutF_join 47 (bodyS s)]
  change textQ q = _ ++ (numS s ++ if hasD s then 47 :: denS s else [])
  unfold textQ
  rw [h.num, h.den, sgnI_abs, canon_eq h.cn]
  congr 1
  · have := sgnI_neg (negB s) (decV 0 (numS s))
    cases e : negB s
    · rw [e] at this; simp at this
      rw [if_neg (by simpa [e] using this)]; rfl
    · rw [e] at this
      have hn := h.ng e
      simp [hn] at this
      rw [if_pos this]; rfl
  · congr 1
    cases e : hasD s
    · rw [den_one e]; rfl
    · obtain ⟨c, c0, c1⟩ := h.cd e
      rw [den_some e, if_neg c1, canon_eq c]; rfl
theorem neg_text (q : Rat) : negB (textQ q) = decide (q.num < 0) ∧ bodyS (textQ q) = Lib.decDigits q.num.natAbs ++ (if q.den = 1 then [] else 47 :: Lib.decDigits q.den) := by
  have hne := digits_ne q.num.natAbs
  have h45 := no_in_digits q.num.natAbs 45 (by decide)
  unfold bodyS textQ
  by_cases h : q.num < 0
  · simp [h, negB]
  · have : negB (Lib.decDigits q.num.natAbs ++ (if q.den = 1 then [] else 47 :: Lib.decDigits q.den)) = false := by
      cases e : Lib.decDigits q.num.natAbs with
      | nil => exact absurd e hne
      | cons c r =>
        rw [e] at h45
        have : c ≠ 45 := fun e => h45 (by simp [e])
        simp [negB, this]
    simp [h, this]
theorem cut_text (q : Rat) : cutF 47 (bodyS (textQ q)) = (Lib.decDigits q.num.natAbs, (if q.den = 1 then [] else Lib.decDigits q.den), decide (q.den ≠ 1)) := by
  rw [(neg_text q).2]
  by_cases h : q.den = 1
  · rw [if_pos h, if_pos h, List.append_nil, cutF_no (no_in_digits _ 47 (by decide))]
    simp [h]
  · rw [if_neg h, if_neg h, cutF_at (no_in_digits _ 47 (by decide))]
    simp [h]
theorem rat_of {q : Rat} (h : fitB q = true) : ratE (textQ q) = 0 ∧ ratV (textQ q) = q := by
  have e1 : numS (textQ q) = Lib.decDigits q.num.natAbs := by unfold numS; rw [cut_text]
  have e2 : denS (textQ q) = if q.den = 1 then [] else Lib.decDigits q.den := by unfold denS; rw [cut_text]
  have e3 : hasD (textQ q) = decide (q.den ≠ 1) := by unfold hasD; rw [cut_text]
  have e4 := (neg_text q).1
  unfold fitB at h
  rw [Bool.and_eq_true, decide_eq_true_eq, decide_eq_true_eq] at h
  constructor
  · unfold ratE
    rw [e1, e2, e3, e4, decV_digits, canonB_iff.2 (canon_digits _)]
    have g1 : ¬ (true = false ∨ (decide (q.den ≠ 1) = true ∧ canonB (if q.den = 1 then [] else Lib.decDigits q.den) = false) ∨ (decide (q.num < 0) = true ∧ Lib.decDigits q.num.natAbs = [48])) := by
      rintro (g | ⟨g1, g2⟩ | ⟨g1, g2⟩)
      · cases g
      · rw [decide_eq_true_eq] at g1
        rw [if_neg g1, canonB_iff.2 (canon_digits _)] at g2
        cases g2
      · rw [decide_eq_true_eq] at g1
        have : q.num.natAbs = 0 := decDigits_inj (by rw [g2, Lib.decDigits_one (by decide)]; rfl)
        omega
    have g2 : ¬ (2000 < (Lib.decDigits q.num.natAbs).length ∨ 2000 < (if q.den = 1 then [] else Lib.decDigits q.den : List UInt8).length) := by
      rintro (g | g)
      · omega
      · split at g
        · simp at g
        · omega
    have g3 : ¬ (decide (q.den ≠ 1) = true ∧ ((if q.den = 1 then [] else Lib.decDigits q.den) = [48] ∨ (if q.den = 1 then [] else Lib.decDigits q.den) = [49] ∨ Nat.gcd q.num.natAbs (decV 0 (if q.den = 1 then [] else Lib.decDigits q.den)) ≠ 1)) := by
      rintro ⟨g, g3⟩
      rw [decide_eq_true_eq] at g
      rw [if_neg g] at g3
      rw [decV_digits] at g3
      rcases g3 with g3 | g3 | g3
      · have : q.den = 0 := decDigits_inj (by rw [g3, Lib.decDigits_one (by decide)]; rfl)
        exact q.den_nz this
      · exact g (decDigits_inj (by rw [g3, Lib.decDigits_one (by decide)]; rfl))
      · exact g3 q.reduced
    rw [if_neg g1, if_neg g2, if_neg g3]
  · unfold ratV
    have e5 : denV (textQ q) = q.den := by
      unfold denV
      rw [e3, e2]
      by_cases g : q.den = 1
      · simp [g]
      · simp [g, decV_digits]
    rw [e1, e4, e5, decV_digits, sgnI_self]
    exact Rat.num_divInt_den q
/-- rat.CheckAll -/
def allE : List (List UInt8) → Int
  | [] => 0
  | s :: r => if ratE s = 0 then allE r else ratE s
theorem allE_mem : ∀ {l : List (List UInt8)}, allE l = 0 → ∀ s ∈ l, ratE s = 0
  | [], _, s, h => by simp at h
  | a :: r, h, s, hs => by
    rw [allE] at h
    split at h
    · rename_i h1
      rcases List.mem_cons.1 hs with e | e
      · rw [e]; exact h1
      · exact allE_mem h s e
    · contradiction
theorem allE_of : ∀ {l : List (List UInt8)}, (∀ s ∈ l, ratE s = 0) → allE l = 0
  | [], _ => rfl
  | a :: r, h => by
    rw [allE, if_pos (h a (by simp))]
    exact allE_of (fun s hs => h s (by simp [hs]))
theorem Parts.zero {s : List UInt8} (h : ratE s = 0) : ratV s = 0 ↔ s = [48] := by
  constructor
  · intro e
    have := (rat_parts h).text
    rw [e] at this
    rw [← this]
    unfold textQ
    rw [if_neg (by decide), if_pos (show (0 : Rat).den = 1 from rfl)]
    show [] ++ (Lib.decDigits 0 ++ []) = _
    rw [Lib.decDigits_one (by decide)]; rfl
  · intro e
    subst e
    decide
/-- Sums, products and so on of two texts. -/
def twoR (F : Rat → Rat → Rat) (a b : List UInt8) : List UInt8 × Int := if allE [a, b] = 0 then outF (F (ratV a) (ratV b)) else ([], allE [a, b])
def oneR (F : Rat → Rat) (a : List UInt8) : List UInt8 × Int := if ratE a = 0 then outF (F (ratV a)) else ([], ratE a)
def divR (a b : List UInt8) : List UInt8 × Int := if allE [a, b] = 0 then (if b = [48] then ([], 18) else outF (ratV a / ratV b)) else ([], allE [a, b])
def cmpR (a b : List UInt8) : Int × Int := if allE [a, b] = 0 then (cmpQ (ratV a) (ratV b), 0) else (0, allE [a, b])
def signR (a : List UInt8) : Int × Int := if ratE a = 0 then (sgn (ratV a).num, 0) else (0, ratE a)
def outAllF (l : List Rat) : List (List UInt8) × Int := if l.all fitB then (l.map textQ, 0) else ([], 2)
def sumL : Rat → List Rat → Rat × Int
  | acc, [] => (acc, 0)
  | acc, q :: r => if fitB (acc + q) then sumL (acc + q) r else (acc + q, 2)
def sumR (l : List (List UInt8)) : Rat × Int := if 256 < l.length then (0, 2) else if allE l = 0 then sumL 0 (l.map ratV) else (0, allE l)
def sumT (l : List (List UInt8)) : List UInt8 × Int := if (sumR l).2 = 0 then outF (sumR l).1 else ([], (sumR l).2)
def posE (l : List (List UInt8)) : Int := if (sumR l).2 = 0 ∧ l.any negB = true then 4 else (sumR l).2
def sharesR (l : List (List UInt8)) : List (List UInt8) × Int :=
  if posE l = 0 then (if (sumR l).1 = 0 then ([], 18) else outAllF ((l.map ratV).map (fun q => q / (sumR l).1))) else ([], posE l)
def oddsR (l : List (List UInt8)) : Int := if posE l = 0 then (if cmpQ (sumR l).1 1 = 0 then 0 else 3) else posE l
def bestK (x : List Rat) : Nat → Nat
  | 0 => 0
  | k + 1 => if 0 < cmpQ (x.getD k 0) (x.getD (bestK x k) 0) then k else bestK x k
def bestR (l : List (List UInt8)) : Int × Int := if 256 < l.length then (0, 2) else if l = [] then (0, 8) else if allE l = 0 then ((bestK (l.map ratV) l.length : Nat), 0) else (0, allE l)
theorem fit_len {q : Rat} (h : fitB q = true) : (natL q.num.natAbs).length ≤ 2000 ∧ (natL q.den).length ≤ 2000 := by
  unfold fitB at h
  rw [Bool.and_eq_true, decide_eq_true_eq, decide_eq_true_eq] at h
  have key : ∀ (n m : Nat), (Lib.decDigits n).length ≤ m → (natL n).length ≤ m := fun n m hl => by
    refine natL_len_le (Nat.lt_of_lt_of_le (digits_lt n) ?_)
    exact Nat.le_trans (Nat.pow_le_pow_right (by decide) hl) (Nat.pow_le_pow_left (by decide) m)
  exact ⟨key _ _ h.1, key _ _ h.2⟩
def ofR (n d : Int) : List UInt8 × Int := if d = 0 then ([], 18) else outF (Rat.divInt n d)
end Go.Ax.Rt

namespace Go.Proofs.YtgmleamhjnlknaaGreatDoor
open Go.Ax Go.Ax.Bg Go.Ax.Rt Go.RowKit
attribute [local irreducible] Ax Post QOp ACall PureOp
set_option maxRecDepth 100000
set_option maxHeartbeats 4000000

open Go.Ax.Tb (cutF cutF_idx cutF_len)
theorem pre_neg (s : List UInt8) : preB s [45] = negB s := by
  unfold preB negB
  cases s with
  | nil => rfl
  | cons c r => simp
theorem body_len (s : List UInt8) : (bodyS s).length ≤ s.length := by
  unfold bodyS; split
  · simp
  · exact Nat.le_refl _
theorem parts_len (s : List UInt8) : (numS s).length ≤ s.length ∧ (denS s).length ≤ s.length := by
  have h := cutF_len 47 (bodyS s)
  have h2 := body_len s
  unfold numS denS
  omega
theorem cutNeg (s : List UInt8) (hs : s.length ≤ 9223372036854775807) : VCall Tryz.prog 148 [.str s, .str [45]] (.tup [.str (bodyS s), .bool (negB s)]) := by
  have h := cutP s [45] hs (by decide)
  rw [pre_neg] at h
  exact h
theorem cutBar (s : List UInt8) (hs : s.length ≤ 9223372036854775807) : VCall Tryz.prog 149 [.str (bodyS s), .str [47]] (.tup [.str (numS s), .str (denS s), .bool (hasD s)]) :=
  cutS (bodyS s) 47 (Nat.le_trans (body_len s) hs)
theorem parse_ok (s : List UInt8) (hs : s.length ≤ 9223372036854775807) (h : ratE s = 0) : VCall Tryz.prog 80 [.str s] (qA (ratV s)) := by
  have hp := rat_parts h
  have h1 := cutNeg s (by omega)
  have h2 := cutBar s hs
  have h3 := read_ok (numS s) hp.cn.2.1 (by have := hp.ln; omega)
  have h4 := made_ok (negB s) (decV 0 (numS s))
  rw [← hp.num] at h4
  unfold qA
  rw [hp.den]
  cases e : hasD s
  · rw [e] at h2
    rw [den_one e, natA_one]
    refine ACall.value0 (acall_of_ax (P := Tryz.prog) (fn := Tryz.f80) rfl rfl (by kernel_rfl) rfl (fun c hR hfix => ?_)) (fix := fun _ => False) (fun _ h => h) rfl rfl
    repeat (first | refine ax_q (q_move rfl) ?_ | refine ax_ops_nil ?_ | refine ax_post_code ?_ | refine ax_seq ?_ | refine ax_region rfl ?_ | refine ax_alloc rfl rfl rfl ?_)
    refine ax_callv rfl rfl rfl h1 ?_
    repeat (first | refine ax_q (q_move rfl) ?_ | refine ax_q (q_assign rfl) ?_ | refine ax_ops_nil ?_ | refine ax_post_code ?_ | refine ax_seq ?_ | refine ax_region rfl ?_ | refine ax_q (q_extract rfl rfl) ?_)
    refine ax_callv rfl rfl rfl h2 ?_
    repeat (first | refine ax_q (q_move rfl) ?_ | refine ax_q (q_assign rfl) ?_ | refine ax_ops_nil ?_ | refine ax_post_code ?_ | refine ax_seq ?_ | refine ax_region rfl ?_ | refine ax_q (q_extract rfl rfl) ?_)
    refine ax_callv rfl rfl rfl h3 ?_
    skip
    refine ax_callv rfl rfl rfl h4 ?_
    unfold intA
    repeat (first | refine ax_q (q_build rfl rfl rfl rfl rfl rfl) ?_ | refine ax_buildSliceRo rfl rfl rfl rfl rfl rfl rfl rfl rfl rfl rfl ?_ | refine ax_alloc rfl rfl rfl ?_)
    refine ax_storeagg (c' := .box [.bool (decide ((ratV s).num < 0)), natA (ratV s).num.natAbs, .ro (.ints .u32 [1]) 0 1]) rfl rfl rfl rfl rfl Nat.zero_lt_one rfl rfl (fun i' j' hi' hj' => ?_) ?_
    · rw [if_pos (Nat.lt_one_iff.1 hi')]; rfl
    repeat (first | refine ax_q (q_move rfl) ?_ | refine ax_ops_nil ?_ | refine ax_post_code ?_ | refine ax_seq ?_ | refine ax_region rfl ?_ | refine ax_cond_false rfl ?_ | refine ax_skip ?_ | refine ax_q (q_loadpart_ptr rfl rfl rfl rfl rfl rfl rfl (by first | exact Nat.zero_lt_one | assumption | omega)) ?_)
    refine ax_storeagg (c' := .box [.bool (decide ((ratV s).num < 0)), natA (ratV s).num.natAbs, .ro (.ints .u32 [1]) 0 1]) rfl rfl rfl rfl rfl Nat.zero_lt_one rfl rfl (fun i' j' hi' hj' => ?_) ?_
    · rw [if_pos (Nat.lt_one_iff.1 hi')]; rfl
    repeat (first | refine ax_ops_nil ?_ | refine ax_post_code ?_ | refine ax_return ?_)
    exact ax_ret hR rfl rfl
  · rw [e] at h2
    rw [den_some e]
    have h5 := read_ok (denS s) (hp.cd e).1.2.1 (by have := hp.ld; omega)
    refine ACall.value0 (acall_of_ax (P := Tryz.prog) (fn := Tryz.f80) rfl rfl (by kernel_rfl) rfl (fun c hR hfix => ?_)) (fix := fun _ => False) (fun _ h => h) rfl rfl
    repeat (first | refine ax_q (q_move rfl) ?_ | refine ax_ops_nil ?_ | refine ax_post_code ?_ | refine ax_seq ?_ | refine ax_region rfl ?_ | refine ax_alloc rfl rfl rfl ?_)
    refine ax_callv rfl rfl rfl h1 ?_
    repeat (first | refine ax_q (q_move rfl) ?_ | refine ax_q (q_assign rfl) ?_ | refine ax_ops_nil ?_ | refine ax_post_code ?_ | refine ax_seq ?_ | refine ax_region rfl ?_ | refine ax_q (q_extract rfl rfl) ?_)
    refine ax_callv rfl rfl rfl h2 ?_
    repeat (first | refine ax_q (q_move rfl) ?_ | refine ax_q (q_assign rfl) ?_ | refine ax_ops_nil ?_ | refine ax_post_code ?_ | refine ax_seq ?_ | refine ax_region rfl ?_ | refine ax_q (q_extract rfl rfl) ?_)
    refine ax_callv rfl rfl rfl h3 ?_
    skip
    refine ax_callv rfl rfl rfl h4 ?_
    unfold intA
    repeat (first | refine ax_q (q_build rfl rfl rfl rfl rfl rfl) ?_ | refine ax_buildSliceRo rfl rfl rfl rfl rfl rfl rfl rfl rfl rfl rfl ?_ | refine ax_alloc rfl rfl rfl ?_)
    refine ax_storeagg (c' := .box [.bool (decide ((ratV s).num < 0)), natA (ratV s).num.natAbs, .ro (.ints .u32 [1]) 0 1]) rfl rfl rfl rfl rfl Nat.zero_lt_one rfl rfl (fun i' j' hi' hj' => ?_) ?_
    · rw [if_pos (Nat.lt_one_iff.1 hi')]; rfl
    repeat (first | refine ax_q (q_move rfl) ?_ | refine ax_ops_nil ?_ | refine ax_post_code ?_ | refine ax_seq ?_ | refine ax_region rfl ?_ | refine ax_cond_true rfl ?_)
    refine ax_callv rfl rfl rfl h5 ?_
    repeat (first | refine ax_ops_nil ?_ | refine ax_post_code ?_ | refine ax_seq ?_ | refine ax_region rfl ?_ | refine ax_q (q_field_ptr rfl rfl rfl rfl rfl rfl) ?_ | refine ax_q (q_loadpart_ptr rfl rfl rfl rfl rfl rfl rfl (by first | exact Nat.zero_lt_one | assumption | omega)) ?_ | refine ax_store rfl rfl rfl rfl rfl rfl rfl Nat.zero_lt_one ?_)
    refine ax_storeagg (c' := .box [.bool (decide ((ratV s).num < 0)), natA (ratV s).num.natAbs, natA (decV 0 (denS s))]) rfl rfl rfl rfl rfl Nat.zero_lt_one rfl rfl (fun i' j' hi' hj' => ?_) ?_
    · rw [if_pos (Nat.lt_one_iff.1 hi')]; rfl
    repeat (first | refine ax_ops_nil ?_ | refine ax_post_code ?_ | refine ax_return ?_)
    exact ax_ret hR rfl rfl
theorem qtext_ok (q : Rat) (hq : Sz 100000 q) : VCall Tryz.prog 155 [qA q] (.str (textQ q)) := by
  have h1 := text_ok q.num.natAbs (by have := hq.1; omega)
  have h2 := one_ok q.den
  have h3 := text_ok q.den (by have := hq.2; omega)
  unfold textQ
  have l1 := digits_len_b hq.1 (by decide)
  have l2 := digits_len_b hq.2 (by decide)
  refine ACall.value0 (acall_of_ax (P := Tryz.prog) (fn := Tryz.f155) rfl rfl (by kernel_rfl) rfl (fun c hR hfix => ?_)) (fix := fun _ => False) (fun _ h => h) rfl rfl
  by_cases hn : q.num < 0 <;> by_cases hd : q.den = 1
  · rw [if_pos hn, if_pos hd] at hR
    rw [decide_eq_true hd] at h2
    unfold qA
    rw [decide_eq_true hn]
    repeat (first | refine ax_q (q_assign rfl) ?_ | refine ax_ops_nil ?_ | refine ax_post_code ?_ | refine ax_seq ?_ | refine ax_region rfl ?_ | refine ax_q (q_loadb_ptr rfl rfl rfl rfl rfl) ?_ | refine ax_q (q_field_ptr rfl rfl rfl rfl rfl rfl) ?_ | refine ax_box rfl rfl ?_)
    refine ax_callv rfl rfl rfl h1 ?_
    repeat (first | refine ax_q (q_move rfl) ?_ | refine ax_q (q_assign rfl) ?_ | refine ax_ops_nil ?_ | refine ax_post_code ?_ | refine ax_seq ?_ | refine ax_region rfl ?_ | refine ax_cond_true rfl ?_ | refine ax_q (q_loadb_ptr rfl rfl rfl rfl rfl) ?_ | refine ax_q (q_field_ptr rfl rfl rfl rfl rfl rfl) ?_)
    refine ax_q (q_concat rfl rfl (by show ([45] : List UInt8).length + _ ≤ _; simp only [List.length_cons, List.length_nil, List.length_append]; omega)) ?_
    repeat (first | refine ax_q (q_assign rfl) ?_ | refine ax_ops_nil ?_ | refine ax_post_code ?_ | refine ax_seq ?_ | refine ax_region rfl ?_ | refine ax_q (q_loadb_ptr rfl rfl rfl rfl rfl) ?_ | refine ax_q (q_field_ptr rfl rfl rfl rfl rfl rfl) ?_)
    refine ax_callv rfl rfl rfl h2 ?_
    repeat (first | refine ax_q (q_move rfl) ?_ | refine ax_q (q_assign rfl) ?_ | refine ax_ops_nil ?_ | refine ax_post_code ?_ | refine ax_seq ?_ | refine ax_region rfl ?_ | refine ax_cond_false rfl ?_ | refine ax_skip ?_ | refine ax_return ?_ | refine ax_q (q_not rfl) ?_)
    refine ax_ret hR rfl ?_
    simp [tupOf]
  · rw [if_pos hn, if_neg hd] at hR
    rw [decide_eq_false hd] at h2
    unfold qA
    rw [decide_eq_true hn]
    repeat (first | refine ax_q (q_assign rfl) ?_ | refine ax_ops_nil ?_ | refine ax_post_code ?_ | refine ax_seq ?_ | refine ax_region rfl ?_ | refine ax_q (q_loadb_ptr rfl rfl rfl rfl rfl) ?_ | refine ax_q (q_field_ptr rfl rfl rfl rfl rfl rfl) ?_ | refine ax_box rfl rfl ?_)
    refine ax_callv rfl rfl rfl h1 ?_
    repeat (first | refine ax_q (q_move rfl) ?_ | refine ax_q (q_assign rfl) ?_ | refine ax_ops_nil ?_ | refine ax_post_code ?_ | refine ax_seq ?_ | refine ax_region rfl ?_ | refine ax_cond_true rfl ?_ | refine ax_q (q_loadb_ptr rfl rfl rfl rfl rfl) ?_ | refine ax_q (q_field_ptr rfl rfl rfl rfl rfl rfl) ?_)
    refine ax_q (q_concat rfl rfl (by show ([45] : List UInt8).length + _ ≤ _; simp only [List.length_cons, List.length_nil, List.length_append]; omega)) ?_
    repeat (first | refine ax_q (q_assign rfl) ?_ | refine ax_ops_nil ?_ | refine ax_post_code ?_ | refine ax_seq ?_ | refine ax_region rfl ?_ | refine ax_q (q_loadb_ptr rfl rfl rfl rfl rfl) ?_ | refine ax_q (q_field_ptr rfl rfl rfl rfl rfl rfl) ?_)
    refine ax_callv rfl rfl rfl h2 ?_
    repeat (first | refine ax_q (q_move rfl) ?_ | refine ax_ops_nil ?_ | refine ax_post_code ?_ | refine ax_region rfl ?_ | refine ax_cond_true rfl ?_ | refine ax_q (q_loadb_ptr rfl rfl rfl rfl rfl) ?_ | refine ax_q (q_not rfl) ?_ | refine ax_q (q_field_ptr rfl rfl rfl rfl rfl rfl) ?_)
    refine ax_callv rfl rfl rfl h3 ?_
    skip
    refine ax_q (q_concat rfl rfl (by show ([47] : List UInt8).length + _ ≤ _; simp only [List.length_cons, List.length_nil, List.length_append]; omega)) ?_
    refine ax_q (q_concat (b := 47 :: Lib.decDigits q.den) rfl rfl (by simp only [List.length_cons, List.length_nil, List.length_append]; omega)) ?_
    repeat (first | refine ax_q (q_move rfl) ?_ | refine ax_q (q_assign rfl) ?_ | refine ax_ops_nil ?_ | refine ax_post_code ?_ | refine ax_seq ?_ | refine ax_region rfl ?_ | refine ax_return ?_)
    refine ax_ret hR rfl ?_
    simp [tupOf]
  · rw [if_neg hn, if_pos hd] at hR
    rw [decide_eq_true hd] at h2
    unfold qA
    rw [decide_eq_false hn]
    repeat (first | refine ax_q (q_assign rfl) ?_ | refine ax_ops_nil ?_ | refine ax_post_code ?_ | refine ax_seq ?_ | refine ax_region rfl ?_ | refine ax_q (q_loadb_ptr rfl rfl rfl rfl rfl) ?_ | refine ax_q (q_field_ptr rfl rfl rfl rfl rfl rfl) ?_ | refine ax_box rfl rfl ?_)
    refine ax_callv rfl rfl rfl h1 ?_
    repeat (first | refine ax_q (q_assign rfl) ?_ | refine ax_ops_nil ?_ | refine ax_post_code ?_ | refine ax_seq ?_ | refine ax_region rfl ?_ | refine ax_cond_false rfl ?_ | refine ax_skip ?_ | refine ax_q (q_loadb_ptr rfl rfl rfl rfl rfl) ?_ | refine ax_q (q_field_ptr rfl rfl rfl rfl rfl rfl) ?_)
    refine ax_callv rfl rfl rfl h2 ?_
    repeat (first | refine ax_q (q_move rfl) ?_ | refine ax_q (q_assign rfl) ?_ | refine ax_ops_nil ?_ | refine ax_post_code ?_ | refine ax_seq ?_ | refine ax_region rfl ?_ | refine ax_cond_false rfl ?_ | refine ax_skip ?_ | refine ax_return ?_ | refine ax_q (q_not rfl) ?_)
    refine ax_ret hR rfl ?_
    simp [tupOf]
  · rw [if_neg hn, if_neg hd] at hR
    rw [decide_eq_false hd] at h2
    unfold qA
    rw [decide_eq_false hn]
    repeat (first | refine ax_q (q_assign rfl) ?_ | refine ax_ops_nil ?_ | refine ax_post_code ?_ | refine ax_seq ?_ | refine ax_region rfl ?_ | refine ax_q (q_loadb_ptr rfl rfl rfl rfl rfl) ?_ | refine ax_q (q_field_ptr rfl rfl rfl rfl rfl rfl) ?_ | refine ax_box rfl rfl ?_)
    refine ax_callv rfl rfl rfl h1 ?_
    repeat (first | refine ax_q (q_assign rfl) ?_ | refine ax_ops_nil ?_ | refine ax_post_code ?_ | refine ax_seq ?_ | refine ax_region rfl ?_ | refine ax_cond_false rfl ?_ | refine ax_skip ?_ | refine ax_q (q_loadb_ptr rfl rfl rfl rfl rfl) ?_ | refine ax_q (q_field_ptr rfl rfl rfl rfl rfl rfl) ?_)
    refine ax_callv rfl rfl rfl h2 ?_
    repeat (first | refine ax_q (q_move rfl) ?_ | refine ax_ops_nil ?_ | refine ax_post_code ?_ | refine ax_region rfl ?_ | refine ax_cond_true rfl ?_ | refine ax_q (q_loadb_ptr rfl rfl rfl rfl rfl) ?_ | refine ax_q (q_not rfl) ?_ | refine ax_q (q_field_ptr rfl rfl rfl rfl rfl rfl) ?_)
    refine ax_callv rfl rfl rfl h3 ?_
    skip
    refine ax_q (q_concat rfl rfl (by show ([47] : List UInt8).length + _ ≤ _; simp only [List.length_cons, List.length_nil, List.length_append]; omega)) ?_
    refine ax_q (q_concat (b := 47 :: Lib.decDigits q.den) rfl rfl (by simp only [List.length_cons, List.length_nil, List.length_append]; omega)) ?_
    repeat (first | refine ax_q (q_move rfl) ?_ | refine ax_q (q_assign rfl) ?_ | refine ax_ops_nil ?_ | refine ax_post_code ?_ | refine ax_seq ?_ | refine ax_region rfl ?_ | refine ax_return ?_)
    refine ax_ret hR rfl ?_
    simp [tupOf]
end Go.Proofs.YtgmleamhjnlknaaGreatDoor

namespace Go.Proofs.YtgmleamhjnlknaaGreatDoor
open Go.Ax Go.Ax.Bg Go.Ax.Rt Go.RowKit
attribute [local irreducible] Ax Post QOp ACall PureOp
set_option maxRecDepth 100000
set_option maxHeartbeats 4000000

theorem big_len {n k m : Nat} (h : k < (natL n).length) (hm : m ≤ 9 * k) : m < (Lib.decDigits n).length := by
  rcases Nat.lt_or_ge m (Lib.decDigits n).length with q | q
  · exact q
  exfalso
  have h1 := digits_lt n
  have h2 : 10 ^ (Lib.decDigits n).length ≤ 10 ^ (9 * k) := Nat.pow_le_pow_right (by decide) (by omega)
  have h3 : 10 ^ (9 * k) ≤ B ^ k := by rw [Nat.pow_mul]; exact Nat.pow_le_pow_left (by decide) k
  have h4 : ¬ n < B ^ k := fun h5 => by have := natL_len_le h5; omega
  omega
theorem fits_ok (q : Rat) (hq : Sz 100000 q) : VCall Tryz.prog 154 [qA q, .int .i64 2000] (.bool (fitB q)) := by
  have h1 := text_ok q.num.natAbs (by have := hq.1; omega)
  have h3 := text_ok q.den (by have := hq.2; omega)
  have l1 := digits_len_b hq.1 (by decide)
  have l2 := digits_len_b hq.2 (by decide)
  have g1 := hq.1
  have g2 := hq.2
  have b1 := @big_len q.num.natAbs 224 2000
  have b2 := @big_len q.den 224 2000
  unfold fitB
  refine ACall.value0 (acall_of_ax (P := Tryz.prog) (fn := Tryz.f154) rfl rfl (by kernel_rfl) rfl (fun c hR hfix => ?_)) (fix := fun _ => False) (fun _ h => h) rfl rfl
  unfold qA
  unfold natA at h1 h3 ⊢
  repeat (first | refine ax_q (q_move rfl) ?_ | refine ax_q (q_assign rfl) ?_ | refine ax_ops_nil ?_ | refine ax_post_code ?_ | refine ax_seq ?_ | refine ax_region rfl ?_ | refine ax_q (q_loadb_ptr rfl rfl rfl rfl rfl) ?_ | refine ax_q (q_gtr rfl rfl) ?_ | refine ax_q (q_len rfl rfl rfl) ?_ | refine ax_q (q_add rfl rfl (by omega)) ?_ | refine ax_q (q_quo rfl rfl (by omega)) ?_ | refine ax_q (q_max rfl rfl) ?_ | refine ax_q (q_field_ptr rfl rfl rfl rfl rfl rfl) ?_ | refine ax_box rfl rfl ?_)
  refine ax_cond_dec rfl (fun h0 => ?_) (fun h0 => ?_)
  · repeat (first | refine ax_q (q_assign rfl) ?_ | refine ax_ops_nil ?_ | refine ax_post_code ?_ | refine ax_seq ?_ | refine ax_region rfl ?_ | refine ax_return ?_ | refine ax_ret_code ?_)
    refine ax_ret hR rfl ?_
    have h5 : 224 < (natL q.num.natAbs).length ∨ 224 < (natL q.den).length := by
      split at h0 <;> omega
    have h6 : ¬ ((Lib.decDigits q.num.natAbs).length ≤ 2000 ∧ (Lib.decDigits q.den).length ≤ 2000) := by
      rcases h5 with h5 | h5
      · have := b1 h5 (by decide); omega
      · have := b2 h5 (by decide); omega
    rw [← Bool.decide_and, decide_eq_false h6]
    rfl
  · repeat (first | refine ax_post_code ?_ | refine ax_seq ?_ | refine ax_region rfl ?_ | refine ax_skip ?_ | refine ax_q (q_loadb_ptr rfl rfl rfl rfl rfl) ?_ | refine ax_q (q_field_ptr rfl rfl rfl rfl rfl rfl) ?_)
    refine ax_callv rfl rfl rfl h1 ?_
    repeat (first | refine ax_q (q_move rfl) ?_ | refine ax_q (q_leq rfl rfl) ?_ | refine ax_q (q_lenstr rfl rfl) ?_)
    refine ax_gsplit rfl rfl (fun h5 => ?_) (fun h5 => ?_)
    · repeat (first | refine ax_guard rfl rfl ?_ | refine ax_q (q_loadb_ptr rfl rfl rfl rfl rfl) ?_ | refine ax_q (q_field_ptr rfl rfl rfl rfl rfl rfl) ?_)
      refine ax_callv rfl rfl rfl h3 ?_
      repeat (first | refine ax_q (q_move rfl) ?_ | refine ax_q (q_assign rfl) ?_ | refine ax_ops_nil ?_ | refine ax_post_code ?_ | refine ax_guard rfl rfl ?_ | refine ax_return ?_ | refine ax_q (q_leq rfl rfl) ?_ | refine ax_q (q_pick rfl rfl) ?_ | refine ax_q (q_lenstr rfl rfl) ?_)
      refine ax_ret hR rfl ?_
      rw [show decide ((Lib.decDigits q.num.natAbs).length ≤ 2000) = true from decide_eq_true (by omega), Bool.true_and]
      show AV.bool _ = AV.bool _
      rw [show decide (((Lib.decDigits q.den).length : Int) ≤ 2000) = decide ((Lib.decDigits q.den).length ≤ 2000) from by rw [decide_eq_decide]; omega]
    · repeat (first | refine ax_q (q_assign rfl) ?_ | refine ax_ops_nil ?_ | refine ax_post_code ?_ | refine ax_skip_not rfl rfl rfl ?_ | refine ax_return ?_ | refine ax_q (q_pick rfl rfl) ?_)
      refine ax_ret hR rfl ?_
      rw [show decide ((Lib.decDigits q.num.natAbs).length ≤ 2000) = false from decide_eq_false (by omega), Bool.false_and]
      rfl
theorem out_yes (q : Rat) (hq : Sz 100000 q) (h : fitB q = true) : VCall Tryz.prog 89 [qA q] (.tup [.str (textQ q), .int .i64 0]) := by
  have h1 := fits_ok q hq
  have h2 := qtext_ok q hq
  rw [h] at h1
  refine ACall.value0 (acall_of_ax (P := Tryz.prog) (fn := Tryz.f89) rfl rfl (by kernel_rfl) rfl (fun c hR hfix => ?_)) (fix := fun _ => False) (fun _ h => h) rfl rfl
  repeat (first | refine ax_q (q_assign rfl) ?_ | refine ax_ops_nil ?_ | refine ax_post_code ?_ | refine ax_seq ?_ | refine ax_region rfl ?_ | refine ax_q (q_loadpart_ptr rfl rfl rfl rfl rfl rfl rfl (by first | exact Nat.zero_lt_one | assumption | omega)) ?_ | refine ax_box rfl rfl ?_)
  refine ax_callv rfl rfl rfl h1 ?_
  repeat (first | refine ax_ops_nil ?_ | refine ax_post_code ?_ | refine ax_seq ?_ | refine ax_region rfl ?_ | refine ax_cond_false rfl ?_ | refine ax_skip ?_ | refine ax_q (q_not rfl) ?_ | refine ax_q (q_loadpart_ptr rfl rfl rfl rfl rfl rfl rfl (by first | exact Nat.zero_lt_one | assumption | omega)) ?_)
  refine ax_callv rfl rfl rfl h2 ?_
  repeat (first | refine ax_q (q_assign rfl) ?_ | refine ax_ops_nil ?_ | refine ax_post_code ?_ | refine ax_return ?_)
  exact ax_ret hR rfl rfl
theorem out_no (q : Rat) (hq : Sz 100000 q) (h : fitB q = false) : VCall Tryz.prog 89 [qA q] (.tup [.str [], .int .i64 2]) := by
  have h1 := fits_ok q hq
  rw [h] at h1
  refine ACall.value0 (acall_of_ax (P := Tryz.prog) (fn := Tryz.f89) rfl rfl (by kernel_rfl) rfl (fun c hR hfix => ?_)) (fix := fun _ => False) (fun _ h => h) rfl rfl
  repeat (first | refine ax_q (q_assign rfl) ?_ | refine ax_ops_nil ?_ | refine ax_post_code ?_ | refine ax_seq ?_ | refine ax_region rfl ?_ | refine ax_q (q_loadpart_ptr rfl rfl rfl rfl rfl rfl rfl (by first | exact Nat.zero_lt_one | assumption | omega)) ?_ | refine ax_box rfl rfl ?_)
  refine ax_callv rfl rfl rfl h1 ?_
  repeat (first | refine ax_q (q_assign rfl) ?_ | refine ax_ops_nil ?_ | refine ax_post_code ?_ | refine ax_seq ?_ | refine ax_region rfl ?_ | refine ax_cond_true rfl ?_ | refine ax_return ?_ | refine ax_ret_code ?_ | refine ax_q (q_not rfl) ?_)
  exact ax_ret hR rfl rfl
theorem rcheck_ok (s : List UInt8) (hs : s.length ≤ 9223372036854775807) : VCall Tryz.prog 79 [.str s] (.int .i64 (ratE s)) := by
  have h1 := cutNeg s (by omega)
  have h2 := cutBar s hs
  obtain ⟨ln, ld⟩ := parts_len s
  have h3 := digits_ok (numS s) (by omega)
  have h4 := digits_ok (denS s) (by omega)
  have cn := @canonB_iff (numS s)
  have cd := @canonB_iff (denS s)
  unfold ratE
  generalize numS s = n at *
  generalize denS s = d at *
  generalize hasD s = ok at *
  generalize negB s = ng at *
  generalize bodyS s = b at *
  generalize canonB n = p at *
  generalize canonB d = q at *
  refine ACall.value0 (acall_of_ax (P := Tryz.prog) (fn := Tryz.f79) rfl rfl (by kernel_rfl) rfl (fun c hR hfix => ?_)) (fix := fun _ => False) (fun _ h => h) rfl rfl
  repeat (first | refine ax_q (q_move rfl) ?_ | refine ax_q (q_assign rfl) ?_ | refine ax_ops_nil ?_ | refine ax_post_code ?_ | refine ax_seq ?_ | refine ax_region rfl ?_)
  refine ax_callv rfl rfl rfl h1 ?_
  repeat (first | refine ax_q (q_move rfl) ?_ | refine ax_q (q_assign rfl) ?_ | refine ax_ops_nil ?_ | refine ax_post_code ?_ | refine ax_seq ?_ | refine ax_region rfl ?_ | refine ax_q (q_extract rfl rfl) ?_)
  refine ax_callv rfl rfl rfl h2 ?_
  repeat (first | refine ax_q (q_move rfl) ?_ | refine ax_q (q_assign rfl) ?_ | refine ax_ops_nil ?_ | refine ax_post_code ?_ | refine ax_q (q_extract rfl rfl) ?_)
  by_cases hsyn : p = false ∨ (ok = true ∧ q = false) ∨ (ng = true ∧ n = [48])
  · rw [if_pos hsyn] at hR
    cases p
    · repeat (first | refine ax_q (q_move rfl) ?_ | refine ax_seq ?_ | refine ax_region rfl ?_)
      refine ax_callv rfl rfl rfl h3 ?_
      repeat (first | refine ax_q (q_move rfl) ?_ | refine ax_q (q_assign rfl) ?_ | refine ax_ops_nil ?_ | refine ax_post_code ?_ | refine ax_seq ?_ | refine ax_region rfl ?_ | refine ax_skip_undef rfl rfl ?_ | refine ax_skip_not rfl rfl rfl ?_ | refine ax_cond_true rfl ?_ | refine ax_return ?_ | refine ax_ret_code ?_ | refine ax_q (q_not rfl) ?_ | refine ax_q (q_pick rfl rfl) ?_)
      exact ax_ret hR rfl rfl
    · cases ok
      · obtain ⟨hng, hn⟩ : ng = true ∧ n = [48] := by simpa using hsyn
        subst hng
        subst hn
        repeat (first | refine ax_q (q_move rfl) ?_ | refine ax_seq ?_ | refine ax_region rfl ?_)
        refine ax_callv rfl rfl rfl h3 ?_
        repeat (first | refine ax_q (q_move rfl) ?_ | refine ax_q (q_assign rfl) ?_ | refine ax_ops_nil ?_ | refine ax_post_code ?_ | refine ax_seq ?_ | refine ax_region rfl ?_ | refine ax_guard rfl rfl ?_ | refine ax_skip_not rfl rfl rfl ?_ | refine ax_cond_true rfl ?_ | refine ax_return ?_ | refine ax_ret_code ?_ | refine ax_q (q_not rfl) ?_ | refine ax_q (q_pick rfl rfl) ?_ | refine ax_q (q_streql rfl rfl) ?_)
        exact ax_ret hR rfl rfl
      · cases q
        · repeat (first | refine ax_q (q_move rfl) ?_ | refine ax_seq ?_ | refine ax_region rfl ?_)
          refine ax_callv rfl rfl rfl h3 ?_
          repeat (first | refine ax_q (q_move rfl) ?_ | refine ax_guard rfl rfl ?_ | refine ax_q (q_not rfl) ?_)
          refine ax_callv rfl rfl rfl h4 ?_
          repeat (first | refine ax_q (q_move rfl) ?_ | refine ax_q (q_assign rfl) ?_ | refine ax_ops_nil ?_ | refine ax_post_code ?_ | refine ax_seq ?_ | refine ax_region rfl ?_ | refine ax_guard rfl rfl ?_ | refine ax_skip_undef rfl rfl ?_ | refine ax_skip_not rfl rfl rfl ?_ | refine ax_cond_true rfl ?_ | refine ax_return ?_ | refine ax_ret_code ?_ | refine ax_q (q_not rfl) ?_ | refine ax_q (q_pick rfl rfl) ?_)
          exact ax_ret hR rfl rfl
        · obtain ⟨hng, hn⟩ : ng = true ∧ n = [48] := by simpa using hsyn
          subst hng
          subst hn
          repeat (first | refine ax_q (q_move rfl) ?_ | refine ax_seq ?_ | refine ax_region rfl ?_)
          refine ax_callv rfl rfl rfl h3 ?_
          repeat (first | refine ax_q (q_move rfl) ?_ | refine ax_guard rfl rfl ?_ | refine ax_q (q_not rfl) ?_)
          refine ax_callv rfl rfl rfl h4 ?_
          repeat (first | refine ax_q (q_move rfl) ?_ | refine ax_q (q_assign rfl) ?_ | refine ax_ops_nil ?_ | refine ax_post_code ?_ | refine ax_seq ?_ | refine ax_region rfl ?_ | refine ax_guard rfl rfl ?_ | refine ax_cond_true rfl ?_ | refine ax_return ?_ | refine ax_ret_code ?_ | refine ax_q (q_not rfl) ?_ | refine ax_q (q_pick rfl rfl) ?_ | refine ax_q (q_streql rfl rfl) ?_)
          exact ax_ret hR rfl rfl
  rw [if_neg hsyn] at hR
  apply ax_tail_code (H := []) [(5, .str n), (6, .str d), (7, .bool ok)]
  · intro fin
    cases p
    · exact absurd (.inl rfl) hsyn
    cases ok
    · cases ng
      · repeat (first | refine ax_q (q_move rfl) ?_ | refine ax_seq ?_ | refine ax_region rfl ?_)
        refine ax_callv rfl rfl rfl h3 ?_
        repeat (first | refine ax_q (q_move rfl) ?_ | refine ax_ops_nil ?_ | refine ax_post_code ?_ | refine ax_guard rfl rfl ?_ | refine ax_skip_not rfl rfl rfl ?_ | refine ax_cond_false rfl ?_ | refine ax_skip ?_ | refine ax_q (q_not rfl) ?_ | refine ax_q (q_pick rfl rfl) ?_)
        exact fin _ ⟨rfl, rfl, rfl, trivial⟩
      · repeat (first | refine ax_q (q_move rfl) ?_ | refine ax_seq ?_ | refine ax_region rfl ?_)
        refine ax_callv rfl rfl rfl h3 ?_
        repeat (first | refine ax_q (q_move rfl) ?_ | refine ax_ops_nil ?_ | refine ax_post_code ?_ | refine ax_guard rfl rfl ?_ | refine ax_skip_not rfl rfl rfl ?_ | refine ax_q (q_not rfl) ?_ | refine ax_q (q_pick rfl rfl) ?_ | refine ax_q (q_streql rfl rfl) ?_)
        refine ax_cond_dec rfl (fun h0 => absurd (.inr (.inr ⟨rfl, h0⟩)) hsyn) (fun h0 => ?_)
        repeat (first | refine ax_post_code ?_ | refine ax_skip ?_)
        exact fin _ ⟨rfl, rfl, rfl, trivial⟩
    · cases q
      · exact absurd (.inr (.inl ⟨rfl, rfl⟩)) hsyn
      cases ng
      · repeat (first | refine ax_q (q_move rfl) ?_ | refine ax_seq ?_ | refine ax_region rfl ?_)
        refine ax_callv rfl rfl rfl h3 ?_
        repeat (first | refine ax_q (q_move rfl) ?_ | refine ax_guard rfl rfl ?_ | refine ax_q (q_not rfl) ?_)
        refine ax_callv rfl rfl rfl h4 ?_
        repeat (first | refine ax_q (q_move rfl) ?_ | refine ax_ops_nil ?_ | refine ax_post_code ?_ | refine ax_guard rfl rfl ?_ | refine ax_skip_not rfl rfl rfl ?_ | refine ax_cond_false rfl ?_ | refine ax_skip ?_ | refine ax_q (q_not rfl) ?_ | refine ax_q (q_pick rfl rfl) ?_)
        exact fin _ ⟨rfl, rfl, rfl, trivial⟩
      · repeat (first | refine ax_q (q_move rfl) ?_ | refine ax_seq ?_ | refine ax_region rfl ?_)
        refine ax_callv rfl rfl rfl h3 ?_
        repeat (first | refine ax_q (q_move rfl) ?_ | refine ax_guard rfl rfl ?_ | refine ax_q (q_not rfl) ?_)
        refine ax_callv rfl rfl rfl h4 ?_
        repeat (first | refine ax_q (q_move rfl) ?_ | refine ax_ops_nil ?_ | refine ax_post_code ?_ | refine ax_guard rfl rfl ?_ | refine ax_q (q_not rfl) ?_ | refine ax_q (q_pick rfl rfl) ?_ | refine ax_q (q_streql rfl rfl) ?_)
        refine ax_cond_dec rfl (fun h0 => absurd (.inr (.inr ⟨rfl, h0⟩)) hsyn) (fun h0 => ?_)
        repeat (first | refine ax_post_code ?_ | refine ax_skip ?_)
        exact fin _ ⟨rfl, rfl, rfl, trivial⟩
  by_cases hl : 2000 < n.length ∨ 2000 < d.length
  · rw [if_pos hl] at hR
    repeat (first | refine ax_q (q_move rfl) ?_ | refine ax_seq ?_ | refine ax_region rfl ?_ | refine ax_q (q_gtr rfl rfl) ?_ | refine ax_q (q_lenstr rfl rfl) ?_)
    refine ax_gsplit rfl rfl (fun h5 => ?_) (fun h5 => ?_)
    · repeat (first | refine ax_q (q_assign rfl) ?_ | refine ax_ops_nil ?_ | refine ax_post_code ?_ | refine ax_seq ?_ | refine ax_region rfl ?_ | refine ax_skip_not rfl rfl rfl ?_ | refine ax_cond_true rfl ?_ | refine ax_return ?_ | refine ax_ret_code ?_ | refine ax_q (q_pick rfl rfl) ?_)
      exact ax_ret hR rfl rfl
    · repeat (first | refine ax_q (q_move rfl) ?_ | refine ax_ops_nil ?_ | refine ax_post_code ?_ | refine ax_guard rfl rfl ?_ | refine ax_q (q_gtr rfl rfl) ?_ | refine ax_q (q_pick rfl rfl) ?_ | refine ax_q (q_lenstr rfl rfl) ?_)
      refine ax_cond_dec rfl (fun h0 => ?_) (fun h0 => absurd hl (by omega))
      repeat (first | refine ax_q (q_assign rfl) ?_ | refine ax_ops_nil ?_ | refine ax_post_code ?_ | refine ax_seq ?_ | refine ax_region rfl ?_ | refine ax_return ?_ | refine ax_ret_code ?_)
      exact ax_ret hR rfl rfl
  rw [if_neg hl] at hR
  repeat (first | refine ax_q (q_move rfl) ?_ | refine ax_seq ?_ | refine ax_region rfl ?_ | refine ax_q (q_gtr rfl rfl) ?_ | refine ax_q (q_lenstr rfl rfl) ?_)
  refine ax_gsplit rfl rfl (fun h5 => absurd hl (by omega)) (fun h5 => ?_)
  repeat (first | refine ax_q (q_move rfl) ?_ | refine ax_ops_nil ?_ | refine ax_post_code ?_ | refine ax_guard rfl rfl ?_ | refine ax_q (q_gtr rfl rfl) ?_ | refine ax_q (q_pick rfl rfl) ?_ | refine ax_q (q_lenstr rfl rfl) ?_)
  refine ax_cond_dec rfl (fun h0 => absurd hl (by omega)) (fun h0 => ?_)
  cases ok
  · rw [if_neg (fun h => Bool.false_ne_true h.1)] at hR
    repeat (first | refine ax_q (q_move rfl) ?_ | refine ax_q (q_assign rfl) ?_ | refine ax_ops_nil ?_ | refine ax_post_code ?_ | refine ax_seq ?_ | refine ax_region rfl ?_ | refine ax_skip_undef rfl rfl ?_ | refine ax_skip_not rfl rfl rfl ?_ | refine ax_cond_false rfl ?_ | refine ax_skip ?_ | refine ax_return ?_ | refine ax_q (q_pick rfl rfl) ?_)
    exact ax_ret hR rfl rfl
  have hp : p = true := by cases p; exact absurd (.inl rfl) hsyn; rfl
  have hq : q = true := by cases q; exact absurd (.inr (.inl ⟨rfl, rfl⟩)) hsyn; rfl
  have c1 := cn.1 hp
  have c2 := cd.1 hq
  have h6 := read_ok n c1.2.1 (by omega)
  have h7 := read_ok d c2.2.1 (by omega)
  have v1 : (natL (decV 0 n)).length ≤ 2000 := val_len c1 (by omega)
  have v2 : (natL (decV 0 d)).length ≤ 2000 := val_len c2 (by omega)
  have h8 := gcd_ok (decV 0 n) (decV 0 d) (by omega) (by omega)
  have h9 := one_ok (Nat.gcd (decV 0 n) (decV 0 d))
  repeat (first | refine ax_q (q_move rfl) ?_ | refine ax_post_code ?_ | refine ax_seq ?_ | refine ax_region rfl ?_ | refine ax_guard rfl rfl ?_ | refine ax_skip ?_ | refine ax_q (q_streql rfl rfl) ?_)
  refine ax_gsplit rfl rfl (fun h10 => ?_) (fun h10 => ?_)
  · rw [if_pos ⟨rfl, .inl h10⟩] at hR
    repeat (first | refine ax_q (q_move rfl) ?_ | refine ax_q (q_assign rfl) ?_ | refine ax_ops_nil ?_ | refine ax_post_code ?_ | refine ax_seq ?_ | refine ax_region rfl ?_ | refine ax_guard rfl rfl ?_ | refine ax_skip_not rfl rfl rfl ?_ | refine ax_cond_true rfl ?_ | refine ax_return ?_ | refine ax_ret_code ?_ | refine ax_q (q_pick rfl rfl) ?_)
    exact ax_ret hR rfl rfl
  · repeat (first | refine ax_q (q_move rfl) ?_ | refine ax_guard rfl rfl ?_ | refine ax_q (q_pick rfl rfl) ?_ | refine ax_q (q_streql rfl rfl) ?_)
    refine ax_gsplit rfl rfl (fun h11 => ?_) (fun h11 => ?_)
    · rw [if_pos ⟨rfl, .inr (.inl h11)⟩] at hR
      repeat (first | refine ax_q (q_assign rfl) ?_ | refine ax_ops_nil ?_ | refine ax_post_code ?_ | refine ax_seq ?_ | refine ax_region rfl ?_ | refine ax_guard rfl rfl ?_ | refine ax_skip_not rfl rfl rfl ?_ | refine ax_cond_true rfl ?_ | refine ax_return ?_ | refine ax_ret_code ?_ | refine ax_q (q_pick rfl rfl) ?_)
      exact ax_ret hR rfl rfl
    · by_cases hg : Nat.gcd (decV 0 n) (decV 0 d) = 1
      · rw [decide_eq_true hg] at h9
        rw [if_neg (fun h => by rcases h.2 with e | e | e; exact h10 e; exact h11 e; exact e hg)] at hR
        repeat (first | refine ax_q (q_move rfl) ?_ | refine ax_guard rfl rfl ?_)
        refine ax_callv rfl rfl rfl h6 ?_
        repeat (first | refine ax_q (q_move rfl) ?_ | refine ax_guard rfl rfl ?_)
        refine ax_callv rfl rfl rfl h7 ?_
        repeat (refine ax_guard rfl rfl ?_)
        refine ax_callv rfl rfl rfl h8 ?_
        repeat (refine ax_guard rfl rfl ?_)
        refine ax_callv rfl rfl rfl h9 ?_
        repeat (first | refine ax_q (q_assign rfl) ?_ | refine ax_ops_nil ?_ | refine ax_post_code ?_ | refine ax_seq ?_ | refine ax_region rfl ?_ | refine ax_guard rfl rfl ?_ | refine ax_cond_false rfl ?_ | refine ax_skip ?_ | refine ax_return ?_ | refine ax_q (q_not rfl) ?_ | refine ax_q (q_pick rfl rfl) ?_)
        exact ax_ret hR rfl rfl
      · rw [decide_eq_false hg] at h9
        rw [if_pos ⟨rfl, .inr (.inr hg)⟩] at hR
        repeat (first | refine ax_q (q_move rfl) ?_ | refine ax_guard rfl rfl ?_)
        refine ax_callv rfl rfl rfl h6 ?_
        repeat (first | refine ax_q (q_move rfl) ?_ | refine ax_guard rfl rfl ?_)
        refine ax_callv rfl rfl rfl h7 ?_
        repeat (refine ax_guard rfl rfl ?_)
        refine ax_callv rfl rfl rfl h8 ?_
        repeat (refine ax_guard rfl rfl ?_)
        refine ax_callv rfl rfl rfl h9 ?_
        repeat (first | refine ax_q (q_assign rfl) ?_ | refine ax_ops_nil ?_ | refine ax_post_code ?_ | refine ax_seq ?_ | refine ax_region rfl ?_ | refine ax_guard rfl rfl ?_ | refine ax_cond_true rfl ?_ | refine ax_return ?_ | refine ax_ret_code ?_ | refine ax_q (q_not rfl) ?_ | refine ax_q (q_pick rfl rfl) ?_)
        exact ax_ret hR rfl rfl
end Go.Proofs.YtgmleamhjnlknaaGreatDoor

namespace Go.Proofs.YtgmleamhjnlknaaGreatDoor
open Go.Ax Go.Ax.Bg Go.Ax.Rt Go.RowKit
attribute [local irreducible] Ax Post QOp ACall PureOp
set_option maxRecDepth 100000
set_option maxHeartbeats 4000000

theorem drop_cons {α : Type} {l : List α} {d : α} {k : Nat} (h : k < l.length) : l.drop k = l.getD k d :: l.drop (k + 1) := by
  rw [List.drop_eq_getElem_cons h]; simp [List.getD, h]
theorem checkAll_ok (l : List (List UInt8)) (hlen : l.length ≤ 9223372036854775807) (hs : ∀ s ∈ l, s.length ≤ 9223372036854775807) : VCall Tryz.prog 85 [.ro (.strs l) 0 l.length] (.int .i64 (allE l)) := by
  refine ACall.value0 (acall_of_ax (P := Tryz.prog) (fn := Tryz.f85) rfl rfl (by kernel_rfl) rfl (fun c hR hfix => ?_)) (fix := fun _ => False) (fun _ h => h) rfl rfl
  repeat (first | refine ax_q (q_move rfl) ?_ | refine ax_q (q_assign rfl) ?_ | refine ax_ops_nil ?_ | refine ax_post_code ?_ | refine ax_seq ?_ | refine ax_region rfl ?_ | refine ax_block ?_ | refine ax_q (q_len rfl rfl rfl) ?_)
  refine ax_loop (ι := Nat) (fun k => [(0, .ro (.strs l) 0 l.length), (6, .ro (.strs l) 0 l.length), (7, .int .i64 (l.length : Nat)), (8, .int .i64 (k : Nat))]) (fun _ => [])
    (fun k => k ≤ l.length ∧ allE l = allE (l.drop k)) (fun k => l.length - k) 0 ⟨⟨rfl, rfl, rfl, rfl, trivial⟩, rfl, Nat.zero_le _, by rw [List.drop_zero]⟩ ?_
  intro k ⟨hk, hE⟩
  repeat (first | refine ax_ops_nil ?_ | refine ax_post_code ?_ | refine ax_seq ?_ | refine ax_region rfl ?_ | refine ax_q (q_lss rfl rfl) ?_)
  refine ax_cond_dec rfl (fun h => ?_) (fun h => ?_)
  · have hk' : k < l.length := by omega
    have hd := drop_cons (d := []) hk'
    have hc := rcheck_ok (l.getD k []) (hs _ (getD_mem [] hk'))
    rw [hd, allE] at hE
    repeat (first | refine ax_q (q_move rfl) ?_ | refine ax_q (q_assign rfl) ?_ | refine ax_ops_nil ?_ | refine ax_post_code ?_ | refine ax_seq ?_ | refine ax_region rfl ?_ | refine ax_block ?_ | refine ax_skip ?_ | refine ax_q (q_loads_rp rfl rfl rfl) ?_ | refine ax_q (q_index_ro' rfl rfl rfl rfl (by first | (simp only [Nat.zero_add, Int.toNat_natCast, Int.toNat_zero]; exact rfl) | exact rfl) (by omega)) ?_)
    refine ax_callv rfl rfl rfl hc ?_
    repeat (first | refine ax_q (q_move rfl) ?_ | refine ax_q (q_assign rfl) ?_ | refine ax_ops_nil ?_ | refine ax_post_code ?_ | refine ax_seq ?_ | refine ax_region rfl ?_ | refine ax_q (q_neq rfl rfl) ?_)
    refine ax_cond_dec rfl (fun h2 => ?_) (fun h2 => ?_)
    · rw [if_neg h2] at hE
      repeat (first | refine ax_q (q_move rfl) ?_ | refine ax_q (q_assign rfl) ?_ | refine ax_ops_nil ?_ | refine ax_post_code ?_ | refine ax_seq ?_ | refine ax_region rfl ?_ | refine ax_return ?_ | refine ax_ret_code ?_ | refine ax_ret_blk ?_ | refine ax_ret_inv ?_)
      refine ax_ret hR rfl ?_
      rw [hE]; rfl
    · rw [if_pos (Classical.not_not.1 h2)] at hE
      repeat (first | refine ax_q (q_move rfl) ?_ | refine ax_ops_nil ?_ | refine ax_post_code ?_ | refine ax_region rfl ?_ | refine ax_post_blk ?_ | refine ax_skip ?_ | refine ax_q (q_add rfl rfl (by omega)) ?_)
      refine ax_post_inv ⟨k + 1, ⟨by omega, hE⟩, by omega, ⟨rfl, rfl, rfl, rfl, trivial⟩, rfl⟩
  · have hk' : k = l.length := by omega
    subst hk'
    rw [List.drop_length] at hE
    repeat (first | refine ax_q (q_assign rfl) ?_ | refine ax_ops_nil ?_ | refine ax_post_code ?_ | refine ax_seq ?_ | refine ax_region rfl ?_ | refine ax_exit ?_ | refine ax_exit_here ?_ | refine ax_exit_code ?_ | refine ax_exit_inv ?_ | refine ax_return ?_)
    refine ax_ret hR rfl ?_
    rw [hE]; rfl
theorem sz_v {s : List UInt8} (h : ratE s = 0) : Sz 2000 (ratV s) := by
  have hp := rat_parts h
  refine ⟨?_, ?_⟩
  · rw [hp.num, sgnI_abs]; exact val_len hp.cn hp.ln
  · rw [hp.den]
    cases e : hasD s
    · rw [den_one e, natL_one]; decide
    · rw [den_some e]; exact val_len (hp.cd e).1 hp.ld
theorem Sz.mono {j k : Nat} {q : Rat} (h : Sz j q) (hk : j ≤ k) : Sz k q := ⟨Nat.le_trans h.1 hk, Nat.le_trans h.2 hk⟩
theorem sz_frac {n d : Int} {k : Nat} (hd : d ≠ 0) (h1 : (natL n.natAbs).length ≤ k) (h2 : (natL d.natAbs).length ≤ k) : Sz k (Rat.divInt n d) := by
  obtain ⟨e1, e2, _⟩ := frac_parts n d hd
  refine ⟨?_, ?_⟩
  · rw [e1]; exact natL_le_len (Nat.div_le_self _ _) h1
  · rw [e2]; exact natL_le_len (Nat.div_le_self _ _) h2
theorem sz_add {p q : Rat} {k : Nat} (hp : Sz k p) (hq : Sz k q) : Sz (k + k + 1) (p + q) := by
  have l1 : (natL (q.den : Int).natAbs).length ≤ k := hq.2
  have l2 : (natL (p.den : Int).natAbs).length ≤ k := hp.2
  rw [← add_frac]
  refine sz_frac (by have := Nat.mul_ne_zero p.den_nz q.den_nz; omega) (iadd_len (imul_len hp.1 l1) (imul_len hq.1 l2)) ?_
  rw [Int.natAbs_natCast]
  have := len_mul hp.2 hq.2
  omega
end Go.Proofs.YtgmleamhjnlknaaGreatDoor

namespace Go.Proofs.YtgmleamhjnlknaaGreatDoor
open Go.Ax Go.Ax.Bg Go.Ax.Rt Go.RowKit
attribute [local irreducible] Ax Post QOp ACall PureOp
set_option maxRecDepth 100000
set_option maxHeartbeats 4000000

section
variable {α : Type}
theorem rowE_app (d : α) (n : Nat) (e : α → List AV) (ls : List α) (s : α) (cx : Cells) (h0 : ∀ j, j < n → cx.at 0 j = (e s).getD j .any) (i j : Nat) (hi : i < ls.length + 1) (hj : j < n) :
    (bif Nat.blt i ls.length then (rowE d n e ls).at i j else cx.at (0 + (i - ls.length)) j) = (rowE d n e (ls ++ [s])).at i j := by
  rcases Nat.lt_or_ge i ls.length with h | h
  · have e1 : Nat.blt i ls.length = true := by rw [Nat.blt_eq]; exact h
    rw [e1]
    simp only [rowE, Cells.at, cond_true, List.getD, List.getElem?_append_left h]
  · have hie : i = ls.length := by omega
    have e1 : Nat.blt i ls.length = false := by rw [← Bool.not_eq_true, Nat.blt_eq]; omega
    subst hie
    rw [e1]
    simp only [cond_false, Nat.sub_self, Nat.zero_add]
    rw [h0 j hj]
    simp [rowE, Cells.at, List.getD]
theorem rowE_snoc (d : α) (n : Nat) (e : α → List AV) (ls : List α) (s : α) (cx : Cells) (h0 : ∀ j, j < n → cx.at 0 j = (e s).getD j .any) :
    CEq (.fn (ls.length + 1) n (fun i j => bif Nat.blt i ls.length then (rowE d n e ls).at i j else cx.at (0 + (i - ls.length)) j)) (rowE d n e (ls ++ [s])) := by
  refine ⟨by simp [rowE, Cells.len], rfl, fun i j hi hj => ?_⟩
  exact (rowE_app d n e ls s cx h0 i j hi hj).symm
theorem rowE_noref (d : α) (n : Nat) (e : α → List AV) (hn : ∀ a j h, j < n → ((e a).getD j .any).forget h = (e a).getD j .any) (ls : List α) (s : α) (cx : Cells) (h0 : ∀ j, j < n → cx.at 0 j = (e s).getD j .any) (h i j : Nat) (hi : i < ls.length + 1) (hj : j < n) :
    (bif Nat.blt i ls.length then (rowE d n e ls).at i j else cx.at (0 + (i - ls.length)) j).forget h = (bif Nat.blt i ls.length then (rowE d n e ls).at i j else cx.at (0 + (i - ls.length)) j) := by
  rw [rowE_app d n e ls s cx h0 i j hi hj]; exact hn _ _ _ hj
theorem map_take_succ {β : Type} (f : α → β) (l : List α) (d : α) (k : Nat) (hk : k < l.length) : (l.take (k + 1)).map f = (l.take k).map f ++ [f (l.getD k d)] := by
  rw [List.take_succ_eq_append_getElem hk, List.map_append]; simp [List.getD, hk]
end
def cellsQ (q : Rat) : List AV := [.bool (decide (q.num < 0)), natA q.num.natAbs, natA q.den]
abbrev qsC (l : List Rat) : Cells := rowE 0 3 cellsQ l
theorem cellsQ_noref (q : Rat) (j h : Nat) (hj : j < 3) : ((cellsQ q).getD j .any).forget h = (cellsQ q).getD j .any := by
  match j, hj with
  | 0, _ => rfl
  | 1, _ => rfl
  | 2, _ => rfl
theorem refless_qs (l : List Rat) : refless (qsC l) := by
  intro i j _ hj
  show noRef ((cellsQ (l.getD i 0)).getD j .any) = true
  have hj : j < 3 := hj
  match j, hj with
  | 0, _ => rfl
  | 1, _ => rfl
  | 2, _ => rfl
theorem rowQ1 (q : Rat) (j : Nat) (hj : j < 3) : (rowOf 1 3 [.bool (decide (q.num < 0)), natA q.num.natAbs, natA q.den]).at 0 j = (cellsQ q).getD j .any := by
  match j, hj with
  | 0, _ => rfl
  | 1, _ => rfl
  | 2, _ => rfl
theorem in_ok (l : List (List UInt8)) (hlen : l.length ≤ 1000000) (hs : ∀ s ∈ l, s.length ≤ 9223372036854775807 ∧ ratE s = 0) : VCall Tryz.prog 70 [.ro (.strs l) 0 l.length] (.ro (qsC (l.map ratV)) 0 l.length) := by
  refine ACall.value0 (acall_of_ax (P := Tryz.prog) (fn := Tryz.f70) rfl rfl (by kernel_rfl) rfl (fun c hR hfix => ?_)) (fix := fun _ => False) (fun _ h => h) rfl rfl
  repeat (first | refine ax_q (q_move rfl) ?_ | refine ax_q (q_assign rfl) ?_ | refine ax_ops_nil ?_ | refine ax_post_code ?_ | refine ax_seq ?_ | refine ax_region rfl ?_ | refine ax_q (q_len rfl rfl rfl) ?_)
  refine ax_nilobj 3 ⟨108, qsC []⟩ rfl rfl ?_
  repeat (refine ax_block ?_)
  refine ax_loop (ι := Nat) (fun k => [(0, .ro (.strs l) 0 l.length), (3, .sl 0 0 k), (6, .ro (.strs l) 0 l.length), (7, .int .i64 (l.length : Nat)), (8, .int .i64 (k : Nat))]) (fun k => [some ⟨108, qsC ((l.take k).map ratV)⟩])
    (fun k => k ≤ l.length) (fun k => l.length - k) 0 ⟨⟨rfl, rfl, rfl, rfl, rfl, trivial⟩, rfl, Nat.zero_le _⟩ ?_
  intro k hk
  repeat (first | refine ax_ops_nil ?_ | refine ax_post_code ?_ | refine ax_seq ?_ | refine ax_region rfl ?_ | refine ax_q (q_lss rfl rfl) ?_)
  refine ax_cond_dec rfl (fun h => ?_) (fun h => ?_)
  · have hk' : k < l.length := by omega
    obtain ⟨b1, b2⟩ := hs _ (getD_mem [] hk')
    have hc := parse_ok (l.getD k []) b1 b2
    have htk := map_take_succ ratV l [] k hk'
    have hml : ((l.take k).map ratV).length = k := by rw [List.length_map, List.length_take]; omega
    generalize (l.take k).map ratV = qs at *
    repeat (first | refine ax_q (q_move rfl) ?_ | refine ax_q (q_assign rfl) ?_ | refine ax_ops_nil ?_ | refine ax_post_code ?_ | refine ax_seq ?_ | refine ax_region rfl ?_ | refine ax_block ?_ | refine ax_skip ?_ | refine ax_q (q_loads_rp rfl rfl rfl) ?_ | refine ax_q (q_index_ro' rfl rfl rfl rfl (by first | (simp only [Nat.zero_add, Int.toNat_natCast, Int.toNat_zero]; exact rfl) | exact rfl) (by omega)) ?_)
    refine ax_callv rfl rfl rfl hc ?_
    unfold qA
    repeat (refine ax_buildSliceRo rfl rfl rfl rfl rfl rfl rfl rfl rfl rfl rfl ?_)
    refine ax_append rfl rfl rfl rfl rfl rfl rfl rfl rfl hml rfl rfl (by show 0 + 1 ≤ 1; omega) rfl (by show (k + 1) * 56 ≤ _ ∧ _; omega) ?_ (by rw [hfix]; exact fun h => h) ?_
    · intro i' j hi hj
      exact rowE_noref 0 3 cellsQ cellsQ_noref qs (ratV (l.getD k [])) _ (rowQ1 _) 0 i' j hi hj
    repeat (first | refine ax_q (q_assign rfl) ?_ | refine ax_ops_nil ?_ | refine ax_post_blk ?_)
    refine ax_post_code ?_
    refine ax_heap [some ⟨108, qsC ((l.take (k + 1)).map ratV)⟩] ?_ ?_
    · rw [htk]
      exact HSub.eqv (rowE_snoc 0 3 cellsQ qs (ratV (l.getD k [])) _ (rowQ1 _)) HSub.nil
    repeat (first | refine ax_q (q_move rfl) ?_ | refine ax_ops_nil ?_ | refine ax_region rfl ?_ | refine ax_q (q_add rfl rfl (by omega)) ?_)
    exact ax_post_inv ⟨k + 1, by omega, by omega, ⟨rfl, rfl, rfl, rfl, rfl, trivial⟩, rfl⟩
  · have hk' : k = l.length := by omega
    subst hk'
    rw [List.take_length]
    repeat (first | refine ax_post_code ?_ | refine ax_seq ?_ | refine ax_exit ?_ | refine ax_exit_here ?_ | refine ax_exit_code ?_ | refine ax_exit_inv ?_)
    refine ax_give_code 0 3 l.length [] rfl (refless_qs _) rfl (by show _ ≤ (l.map ratV).length; rw [List.length_map]; exact Nat.le_refl _) trivial ?_
    repeat (first | refine ax_q (q_move rfl) ?_ | refine ax_q (q_assign rfl) ?_ | refine ax_ops_nil ?_ | refine ax_post_code ?_ | refine ax_region rfl ?_ | refine ax_return ?_)
    exact ax_ret hR rfl rfl
end Go.Proofs.YtgmleamhjnlknaaGreatDoor

namespace Go.Proofs.YtgmleamhjnlknaaGreatDoor
open Go.Ax Go.Ax.Bg Go.Ax.Rt Go.RowKit
attribute [local irreducible] Ax Post QOp ACall PureOp
set_option maxRecDepth 100000
set_option maxHeartbeats 4000000

open Go.Ax.Idx Go.Ax.Cd
theorem indexFuncR (l : List (List UInt8)) (g : FuncId) (caps : List AV) (p : List UInt8 → Bool) (hc : noRef.noRefs caps = true) (hlen : l.length ≤ 9223372036854775807) (hp : ∀ x ∈ l, VCall Tryz.prog g ([.str x] ++ caps) (.bool (p x))) :
    VCall Tryz.prog 165 [.ro (.strs l) 0 l.length, .fn g caps] (.int .i64 (idxF p l)) := by
  refine ACall.value0 (acall_of_ax (P := Tryz.prog) (fn := Tryz.f165) rfl rfl (by kernel_rfl) rfl (fun c hR hfix => ?_)) (fix := fun _ => False) (fun _ h => h) (by simp [noRef.noRefs, noRef, hc]) rfl
  repeat (first | refine ax_q (q_move rfl) ?_ | refine ax_q (q_assign rfl) ?_ | refine ax_ops_nil ?_ | refine ax_post_code ?_ | refine ax_seq ?_ | refine ax_region rfl ?_ | refine ax_block ?_ | refine ax_q (q_len rfl rfl rfl) ?_)
  refine ax_loop (ι := Nat) (fun k => [(0, .ro (.strs l) 0 l.length), (1, .fn g caps), (7, .int .i64 (l.length : Nat)), (8, .int .i64 (k : Nat))]) (fun _ => [])
    (fun k => k ≤ l.length ∧ (l.take k).any p = false) (fun k => l.length - k) 0 ⟨⟨rfl, rfl, rfl, rfl, trivial⟩, rfl, Nat.zero_le _, rfl⟩ ?_
  intro k ⟨hk, hany⟩
  repeat (first | refine ax_ops_nil ?_ | refine ax_post_code ?_ | refine ax_seq ?_ | refine ax_region rfl ?_ | refine ax_q (q_lss rfl rfl) ?_)
  refine ax_cond_dec rfl (fun h => ?_) (fun h => ?_)
  · have hk' : k < l.length := by omega
    have hanys := any_take_succ p l [] k hk'
    repeat (first | refine ax_q (q_move rfl) ?_ | refine ax_q (q_assign rfl) ?_ | refine ax_ops_nil ?_ | refine ax_post_code ?_ | refine ax_seq ?_ | refine ax_region rfl ?_ | refine ax_block ?_ | refine ax_skip ?_ | refine ax_q (q_loads_rp rfl rfl rfl) ?_ | refine ax_q (q_index_ro' rfl rfl rfl rfl (by first | (simp only [Nat.zero_add, Int.toNat_natCast, Int.toNat_zero]; exact rfl) | exact rfl) (by omega)) ?_)
    refine ax_callv rfl rfl rfl (hp _ (getD_mem [] hk')) ?_
    repeat (first | refine ax_ops_nil ?_ | refine ax_post_code ?_)
    refine ax_cond rfl (fun h2 => ?_) (fun h2 => ?_)
    · repeat (first | refine ax_q (q_move rfl) ?_ | refine ax_q (q_assign rfl) ?_ | refine ax_ops_nil ?_ | refine ax_post_code ?_ | refine ax_seq ?_ | refine ax_region rfl ?_ | refine ax_return ?_ | refine ax_ret_code ?_ | refine ax_ret_blk ?_ | refine ax_ret_inv ?_)
      refine ax_ret hR rfl ?_
      have := idxF_take p l k hany hk
      rw [drop_getD l [] k hk'] at this
      simp only [idxF, h2, if_true] at this
      rw [this]; simp [tupOf]
    · repeat (first | refine ax_q (q_move rfl) ?_ | refine ax_ops_nil ?_ | refine ax_post_code ?_ | refine ax_region rfl ?_ | refine ax_post_blk ?_ | refine ax_skip ?_ | refine ax_q (q_add rfl rfl (by omega)) ?_)
      refine ax_post_inv ⟨k + 1, ⟨by omega, by rw [hanys, hany, h2]; rfl⟩, by omega, ⟨rfl, rfl, rfl, rfl, trivial⟩, rfl⟩
  · have hk' : k = l.length := by omega
    subst hk'
    repeat (first | refine ax_q (q_assign rfl) ?_ | refine ax_ops_nil ?_ | refine ax_post_code ?_ | refine ax_seq ?_ | refine ax_region rfl ?_ | refine ax_exit ?_ | refine ax_exit_here ?_ | refine ax_exit_code ?_ | refine ax_exit_inv ?_ | refine ax_return ?_)
    refine ax_ret hR rfl ?_
    have := idxF_take p l l.length hany hk
    rw [List.drop_length] at this
    rw [this]; rfl

theorem containsR (l : List (List UInt8)) (g : FuncId) (caps : List AV) (p : List UInt8 → Bool) (hc : noRef.noRefs caps = true) (hlen : l.length ≤ 9223372036854775807) (hp : ∀ x ∈ l, VCall Tryz.prog g ([.str x] ++ caps) (.bool (p x))) :
    VCall Tryz.prog 122 [.ro (.strs l) 0 l.length, .fn g caps] (.bool (l.any p)) := by
  refine ACall.value0 (acall_of_ax (P := Tryz.prog) (fn := Tryz.f122) rfl rfl (by kernel_rfl) rfl (fun c hR hfix => ?_)) (fix := fun _ => False) (fun _ h => h) (by simp [noRef.noRefs, noRef, hc]) rfl
  repeat (first | refine ax_q (q_move rfl) ?_ | refine ax_q (q_assign rfl) ?_ | refine ax_ops_nil ?_ | refine ax_post_code ?_ | refine ax_seq ?_ | refine ax_region rfl ?_)
  refine ax_callv rfl rfl rfl (indexFuncR l g caps p hc hlen hp) ?_
  repeat (first | refine ax_q (q_assign rfl) ?_ | refine ax_ops_nil ?_ | refine ax_post_code ?_ | refine ax_return ?_ | refine ax_q (q_geq rfl rfl) ?_)
  refine ax_ret hR rfl ?_
  simp only [tupOf, idxF_any]


theorem ratNeg1 (s : List UInt8) (hs : s.length ≤ 9223372036854775807) : VCall Tryz.prog 145 [.str s] (.bool (negB s)) := by
  have h1 := prefix2 s [45] hs (by decide)
  rw [pre_neg] at h1
  refine ACall.value0 (acall_of_ax (P := Tryz.prog) (fn := Tryz.f145) rfl rfl (by kernel_rfl) rfl (fun c hR hfix => ?_)) (fix := fun _ => False) (fun _ h => h) rfl rfl
  repeat (first | refine ax_q (q_move rfl) ?_ | refine ax_q (q_assign rfl) ?_ | refine ax_ops_nil ?_ | refine ax_post_code ?_ | refine ax_seq ?_ | refine ax_region rfl ?_)
  refine ax_callv rfl rfl rfl h1 ?_
  repeat (first | refine ax_q (q_assign rfl) ?_ | refine ax_ops_nil ?_ | refine ax_post_code ?_ | refine ax_return ?_)
  exact ax_ret hR rfl rfl
theorem outAll_yes (l : List Rat) (hlen : l.length ≤ 1000000) (hs : ∀ q ∈ l, Sz 100000 q) (hall : l.all fitB = true) : VCall Tryz.prog 75 [.ro (qsC l) 0 l.length] (.tup [.ro (.strs (l.map textQ)) 0 l.length, .int .i64 0]) := by
  refine ACall.value0 (acall_of_ax (P := Tryz.prog) (fn := Tryz.f75) rfl rfl (by kernel_rfl) rfl (fun c hR hfix => ?_)) (fix := fun _ => False) (fun _ h => h) rfl rfl
  repeat (first | refine ax_q (q_move rfl) ?_ | refine ax_q (q_assign rfl) ?_ | refine ax_ops_nil ?_ | refine ax_post_code ?_ | refine ax_seq ?_ | refine ax_region rfl ?_ | refine ax_q (q_len rfl rfl rfl) ?_)
  refine ax_nilobj 4 ⟨40, .strs []⟩ rfl rfl ?_
  repeat (refine ax_block ?_)
  refine ax_loop (ι := Nat) (fun k => [(0, .ro (qsC l) 0 l.length), (4, .sl 0 0 k), (9, .ro (qsC l) 0 l.length), (10, .int .i64 (l.length : Nat)), (11, .int .i64 (k : Nat))]) (fun k => [some ⟨40, .strs ((l.take k).map textQ)⟩])
    (fun k => k ≤ l.length ∧ (l.drop k).all fitB = true) (fun k => l.length - k) 0 ⟨⟨rfl, rfl, rfl, rfl, rfl, trivial⟩, rfl, Nat.zero_le _, hall⟩ ?_
  rintro k ⟨hk, hA⟩
  repeat (first | refine ax_ops_nil ?_ | refine ax_post_code ?_ | refine ax_seq ?_ | refine ax_region rfl ?_ | refine ax_q (q_lss rfl rfl) ?_)
  refine ax_cond_dec rfl (fun h => ?_) (fun h => ?_)
  · have hk' : k < l.length := by omega
    have hz := hs _ (getD_mem 0 hk')
    have hd := drop_cons (d := (0 : Rat)) hk'
    rw [hd, List.all_cons] at hA
    have htk := map_take_succ textQ l 0 k hk'
    have hml : ((l.take k).map textQ).length = k := by rw [List.length_map, List.length_take]; omega
    generalize hX : (l.take k).map textQ = ts at *
    repeat (first | refine ax_post_code ?_ | refine ax_seq ?_ | refine ax_region rfl ?_ | refine ax_block ?_ | refine ax_skip ?_ | refine ax_q (q_index_ro' rfl rfl rfl rfl (by first | (simp only [Nat.zero_add, Int.toNat_natCast, Int.toNat_zero]; exact rfl) | exact rfl) (by omega)) ?_ | refine ax_q (q_loadagg_rp rfl rfl rfl rfl rfl rfl) ?_ | refine ax_alloc rfl rfl rfl ?_)
    refine ax_slot_ops 14 (.agg (cellsQ (l.getD k 0))) rfl (AEq.of_eq rfl) ?_
    generalize l.getD k 0 = q at *
    refine ax_storeagg (c' := .box (cellsQ q)) rfl rfl rfl rfl rfl Nat.zero_lt_one rfl rfl (fun i' j' hi' hj' => ?_) ?_
    · rw [if_pos (Nat.lt_one_iff.1 hi')]; rfl
    rw [Bool.and_eq_true] at hA
    have hc := out_yes q hz hA.1
    repeat (first | refine ax_ops_nil ?_ | refine ax_post_code ?_ | refine ax_seq ?_ | refine ax_region rfl ?_ | refine ax_q (q_loadpart_ptr rfl rfl rfl rfl rfl rfl rfl (by first | exact Nat.zero_lt_one | assumption | omega)) ?_)
    refine ax_callv rfl rfl rfl hc ?_
    repeat (first | refine ax_q (q_move rfl) ?_ | refine ax_q (q_assign rfl) ?_ | refine ax_ops_nil ?_ | refine ax_post_code ?_ | refine ax_seq ?_ | refine ax_region rfl ?_ | refine ax_cond_false rfl ?_ | refine ax_skip ?_ | refine ax_q (q_neq rfl rfl) ?_ | refine ax_q (q_extract rfl rfl) ?_ | refine ax_buildSliceRo rfl rfl rfl rfl rfl rfl rfl rfl rfl rfl rfl ?_)
    refine ax_append rfl rfl rfl rfl rfl rfl rfl rfl rfl hml rfl rfl (by show 0 + 1 ≤ 1; omega) rfl (by show (k + 1) * 16 ≤ _ ∧ _; omega) (fun i j _ _ => rfl) (by rw [hfix]; exact fun h => h) ?_
    repeat (first | refine ax_q (q_assign rfl) ?_ | refine ax_ops_nil ?_ | refine ax_post_blk ?_)
    refine ax_post_code ?_
    refine ax_heap ([some ⟨40, .strs ((l.take (k + 1)).map textQ)⟩] ++ [none]) ?_ ?_
    · rw [htk]
      exact HSub.eqv (CEq.refl _) (HSub.drop HSub.nil)
    refine ax_drop (H1 := [some ⟨40, .strs ((l.take (k + 1)).map textQ)⟩]) rfl (by rw [hfix]; exact fun h => h) ?_
    repeat (first | refine ax_q (q_move rfl) ?_ | refine ax_ops_nil ?_ | refine ax_region rfl ?_ | refine ax_q (q_add rfl rfl (by omega)) ?_)
    exact ax_post_inv ⟨k + 1, ⟨by omega, hA.2⟩, by omega, ⟨rfl, rfl, rfl, rfl, rfl, trivial⟩, rfl⟩
  · have hk' : k = l.length := by omega
    subst hk'
    rw [List.take_length]
    repeat (first | refine ax_post_code ?_ | refine ax_seq ?_ | refine ax_exit ?_ | refine ax_exit_here ?_ | refine ax_exit_code ?_ | refine ax_exit_inv ?_)
    refine ax_give_code 0 4 l.length [] rfl (fun _ _ _ _ => rfl) rfl (by show _ ≤ (l.map textQ).length; rw [List.length_map]; exact Nat.le_refl _) trivial ?_
    repeat (first | refine ax_q (q_move rfl) ?_ | refine ax_q (q_assign rfl) ?_ | refine ax_ops_nil ?_ | refine ax_post_code ?_ | refine ax_region rfl ?_ | refine ax_return ?_)
    exact ax_ret hR rfl rfl
theorem outAll_no (l : List Rat) (hlen : l.length ≤ 1000000) (hs : ∀ q ∈ l, Sz 100000 q) (hall : l.all fitB = false) : VCall Tryz.prog 75 [.ro (qsC l) 0 l.length] (.tup [.nil, .int .i64 2]) := by
  refine ACall.value0 (acall_of_ax (P := Tryz.prog) (fn := Tryz.f75) rfl rfl (by kernel_rfl) rfl (fun c hR hfix => ?_)) (fix := fun _ => False) (fun _ h => h) rfl rfl
  repeat (first | refine ax_q (q_move rfl) ?_ | refine ax_q (q_assign rfl) ?_ | refine ax_ops_nil ?_ | refine ax_post_code ?_ | refine ax_seq ?_ | refine ax_region rfl ?_ | refine ax_q (q_len rfl rfl rfl) ?_)
  refine ax_nilobj 4 ⟨40, .strs []⟩ rfl rfl ?_
  repeat (refine ax_block ?_)
  refine ax_loop (ι := Nat) (fun k => [(0, .ro (qsC l) 0 l.length), (4, .sl 0 0 k), (9, .ro (qsC l) 0 l.length), (10, .int .i64 (l.length : Nat)), (11, .int .i64 (k : Nat))]) (fun k => [some ⟨40, .strs ((l.take k).map textQ)⟩])
    (fun k => k ≤ l.length ∧ (l.drop k).all fitB = false) (fun k => l.length - k) 0 ⟨⟨rfl, rfl, rfl, rfl, rfl, trivial⟩, rfl, Nat.zero_le _, hall⟩ ?_
  rintro k ⟨hk, hA⟩
  repeat (first | refine ax_ops_nil ?_ | refine ax_post_code ?_ | refine ax_seq ?_ | refine ax_region rfl ?_ | refine ax_q (q_lss rfl rfl) ?_)
  refine ax_cond_dec rfl (fun h => ?_) (fun h => ?_)
  · have hk' : k < l.length := by omega
    have hz := hs _ (getD_mem 0 hk')
    have hd := drop_cons (d := (0 : Rat)) hk'
    rw [hd, List.all_cons] at hA
    have htk := map_take_succ textQ l 0 k hk'
    have hml : ((l.take k).map textQ).length = k := by rw [List.length_map, List.length_take]; omega
    generalize hX : (l.take k).map textQ = ts at *
    repeat (first | refine ax_post_code ?_ | refine ax_seq ?_ | refine ax_region rfl ?_ | refine ax_block ?_ | refine ax_skip ?_ | refine ax_q (q_index_ro' rfl rfl rfl rfl (by first | (simp only [Nat.zero_add, Int.toNat_natCast, Int.toNat_zero]; exact rfl) | exact rfl) (by omega)) ?_ | refine ax_q (q_loadagg_rp rfl rfl rfl rfl rfl rfl) ?_ | refine ax_alloc rfl rfl rfl ?_)
    refine ax_slot_ops 14 (.agg (cellsQ (l.getD k 0))) rfl (AEq.of_eq rfl) ?_
    generalize l.getD k 0 = q at *
    refine ax_storeagg (c' := .box (cellsQ q)) rfl rfl rfl rfl rfl Nat.zero_lt_one rfl rfl (fun i' j' hi' hj' => ?_) ?_
    · rw [if_pos (Nat.lt_one_iff.1 hi')]; rfl
    cases hf : fitB q
    · have hc := out_no q hz hf
      repeat (first | refine ax_ops_nil ?_ | refine ax_post_code ?_ | refine ax_seq ?_ | refine ax_region rfl ?_ | refine ax_q (q_loadpart_ptr rfl rfl rfl rfl rfl rfl rfl (by first | exact Nat.zero_lt_one | assumption | omega)) ?_)
      refine ax_callv rfl rfl rfl hc ?_
      repeat (first | refine ax_q (q_move rfl) ?_ | refine ax_q (q_assign rfl) ?_ | refine ax_ops_nil ?_ | refine ax_post_code ?_ | refine ax_seq ?_ | refine ax_region rfl ?_ | refine ax_cond_true rfl ?_ | refine ax_return ?_ | refine ax_ret_code ?_ | refine ax_ret_blk ?_ | refine ax_ret_inv ?_ | refine ax_q (q_neq rfl rfl) ?_ | refine ax_q (q_extract rfl rfl) ?_)
      exact ax_ret hR rfl rfl
    · have hc := out_yes q hz hf
      rw [hf, Bool.true_and] at hA
      repeat (first | refine ax_ops_nil ?_ | refine ax_post_code ?_ | refine ax_seq ?_ | refine ax_region rfl ?_ | refine ax_q (q_loadpart_ptr rfl rfl rfl rfl rfl rfl rfl (by first | exact Nat.zero_lt_one | assumption | omega)) ?_)
      refine ax_callv rfl rfl rfl hc ?_
      repeat (first | refine ax_q (q_move rfl) ?_ | refine ax_q (q_assign rfl) ?_ | refine ax_ops_nil ?_ | refine ax_post_code ?_ | refine ax_seq ?_ | refine ax_region rfl ?_ | refine ax_cond_false rfl ?_ | refine ax_skip ?_ | refine ax_q (q_neq rfl rfl) ?_ | refine ax_q (q_extract rfl rfl) ?_ | refine ax_buildSliceRo rfl rfl rfl rfl rfl rfl rfl rfl rfl rfl rfl ?_)
      refine ax_append rfl rfl rfl rfl rfl rfl rfl rfl rfl hml rfl rfl (by show 0 + 1 ≤ 1; omega) rfl (by show (k + 1) * 16 ≤ _ ∧ _; omega) (fun i j _ _ => rfl) (by rw [hfix]; exact fun h => h) ?_
      repeat (first | refine ax_q (q_assign rfl) ?_ | refine ax_ops_nil ?_ | refine ax_post_blk ?_)
      refine ax_post_code ?_
      refine ax_heap ([some ⟨40, .strs ((l.take (k + 1)).map textQ)⟩] ++ [none]) ?_ ?_
      · rw [htk]
        exact HSub.eqv (CEq.refl _) (HSub.drop HSub.nil)
      refine ax_drop (H1 := [some ⟨40, .strs ((l.take (k + 1)).map textQ)⟩]) rfl (by rw [hfix]; exact fun h => h) ?_
      repeat (first | refine ax_q (q_move rfl) ?_ | refine ax_ops_nil ?_ | refine ax_region rfl ?_ | refine ax_q (q_add rfl rfl (by omega)) ?_)
      exact ax_post_inv ⟨k + 1, ⟨by omega, hA⟩, by omega, ⟨rfl, rfl, rfl, rfl, rfl, trivial⟩, rfl⟩
  · have hk' : k = l.length := by omega
    subst hk'
    rw [List.drop_length] at hA
    exact absurd hA (by decide)
end Go.Proofs.YtgmleamhjnlknaaGreatDoor

namespace Go.Proofs.YtgmleamhjnlknaaGreatDoor
open Go.Ax Go.Ax.Bg Go.Ax.Rt Go.RowKit
attribute [local irreducible] Ax Post QOp ACall PureOp
set_option maxRecDepth 100000
set_option maxHeartbeats 4000000

theorem of_zero : VCall Tryz.prog 65 [.int .i64 0] (qA 0) := qof_ok 0 (by decide)
theorem of_one : VCall Tryz.prog 65 [.int .i64 1] (qA 1) := qof_ok 1 (by decide)
theorem sz_zero : Sz 2000 0 := by
  refine ⟨?_, ?_⟩
  · show (natL 0).length ≤ 2000; rw [natL_zero]; decide
  · show (natL 1).length ≤ 2000; rw [natL_one]; decide
theorem sum_ok (l : List (List UInt8)) (hlen : l.length ≤ 9223372036854775807) (hs : ∀ s ∈ l, s.length ≤ 9223372036854775807) : VCall Tryz.prog 135 [.ro (.strs l) 0 l.length] (.tup [qA (sumR l).1, .int .i64 (sumR l).2]) := by
  unfold sumR
  have h1 := checkAll_ok l hlen hs
  by_cases hl : 256 < l.length
  · rw [if_pos hl]
    refine ACall.value0 (acall_of_ax (P := Tryz.prog) (fn := Tryz.f135) rfl rfl (by kernel_rfl) rfl (fun c hR hfix => ?_)) (fix := fun _ => False) (fun _ h => h) rfl rfl
    repeat (first | refine ax_q (q_assign rfl) ?_ | refine ax_ops_nil ?_ | refine ax_post_code ?_ | refine ax_seq ?_ | refine ax_region rfl ?_ | refine ax_alloc rfl rfl rfl ?_)
    refine ax_callv rfl rfl rfl of_zero ?_
    repeat (refine ax_alloc rfl rfl rfl ?_)
    refine ax_storeagg (c' := .box (cellsQ 0)) rfl rfl rfl rfl rfl Nat.zero_lt_one rfl rfl (fun i' j' hi' hj' => ?_) ?_
    · rw [if_pos (Nat.lt_one_iff.1 hi')]; rfl
    repeat (first | refine ax_q (q_move rfl) ?_ | refine ax_ops_nil ?_ | refine ax_post_code ?_ | refine ax_seq ?_ | refine ax_region rfl ?_ | refine ax_q (q_gtr rfl rfl) ?_ | refine ax_q (q_len rfl rfl rfl) ?_)
    refine ax_cond_dec rfl (fun h0 => ?_) (fun h0 => absurd hl (by omega))
    repeat (first | refine ax_seq ?_ | refine ax_region rfl ?_ | refine ax_q (q_loadpart_ptr rfl rfl rfl rfl rfl rfl rfl (by first | exact Nat.zero_lt_one | assumption | omega)) ?_)
    refine ax_storeagg (c' := .box (cellsQ 0)) rfl rfl rfl rfl rfl Nat.zero_lt_one rfl rfl (fun i' j' hi' hj' => ?_) ?_
    · rw [if_pos (Nat.lt_one_iff.1 hi')]; rfl
    repeat (first | refine ax_q (q_assign rfl) ?_ | refine ax_ops_nil ?_ | refine ax_post_code ?_ | refine ax_return ?_ | refine ax_ret_code ?_)
    exact ax_ret hR rfl rfl
  rw [if_neg hl]
  by_cases hE : allE l = 0
  · rw [if_pos hE]
    rw [hE] at h1
    have h2 := in_ok l (by omega) (fun s hm => ⟨hs s hm, allE_mem hE s hm⟩)
    have hz : ∀ q ∈ l.map ratV, Sz 2000 q := fun q hq => by
      obtain ⟨s, h3, rfl⟩ := List.mem_map.1 hq
      exact sz_v (allE_mem hE s h3)
    have hml : (l.map ratV).length = l.length := List.length_map _
    generalize l.map ratV = qs at *
    refine ACall.value0 (acall_of_ax (P := Tryz.prog) (fn := Tryz.f135) rfl rfl (by kernel_rfl) rfl (fun c hR hfix => ?_)) (fix := fun _ => False) (fun _ h => h) rfl rfl
    repeat (first | refine ax_q (q_assign rfl) ?_ | refine ax_ops_nil ?_ | refine ax_post_code ?_ | refine ax_seq ?_ | refine ax_region rfl ?_ | refine ax_alloc rfl rfl rfl ?_)
    refine ax_callv rfl rfl rfl of_zero ?_
    repeat (refine ax_alloc rfl rfl rfl ?_)
    refine ax_storeagg (c' := .box (cellsQ 0)) rfl rfl rfl rfl rfl Nat.zero_lt_one rfl rfl (fun i' j' hi' hj' => ?_) ?_
    · rw [if_pos (Nat.lt_one_iff.1 hi')]; rfl
    repeat (first | refine ax_q (q_move rfl) ?_ | refine ax_ops_nil ?_ | refine ax_post_code ?_ | refine ax_seq ?_ | refine ax_region rfl ?_ | refine ax_q (q_gtr rfl rfl) ?_ | refine ax_q (q_len rfl rfl rfl) ?_)
    refine ax_cond_dec rfl (fun h0 => absurd hl (by omega)) (fun h0 => ?_)
    repeat (first | refine ax_q (q_move rfl) ?_ | refine ax_post_code ?_ | refine ax_seq ?_ | refine ax_region rfl ?_ | refine ax_skip ?_)
    refine ax_callv rfl rfl rfl h1 ?_
    repeat (first | refine ax_q (q_move rfl) ?_ | refine ax_q (q_assign rfl) ?_ | refine ax_ops_nil ?_ | refine ax_post_code ?_ | refine ax_seq ?_ | refine ax_region rfl ?_ | refine ax_cond_false rfl ?_ | refine ax_skip ?_ | refine ax_q (q_neq rfl rfl) ?_)
    refine ax_callv rfl rfl rfl h2 ?_
    repeat (first | refine ax_q (q_move rfl) ?_ | refine ax_ops_nil ?_ | refine ax_post_code ?_ | refine ax_block ?_ | refine ax_q (q_len rfl rfl rfl) ?_)
    refine ax_loop (ι := Nat × Rat) (fun p => [(2, .ptr 0 0 0), (4, .ptr 1 0 0), (20, .ro (qsC qs) 0 l.length), (21, .int .i64 (l.length : Nat)), (22, .int .i64 (p.1 : Nat))]) (fun p => [some ⟨108, .box [.bool false, .nil, .nil]⟩, some ⟨108, .box (cellsQ p.2)⟩])
      (fun p => p.1 ≤ l.length ∧ sumL 0 qs = sumL p.2 (qs.drop p.1) ∧ Sz 2000 p.2) (fun p => l.length - p.1) (0, 0) ⟨⟨rfl, rfl, rfl, rfl, rfl, trivial⟩, rfl, Nat.zero_le _, rfl, sz_zero⟩ ?_
    rintro ⟨k, acc⟩ ⟨hk, hS, hA⟩
    simp only at *
    repeat (first | refine ax_ops_nil ?_ | refine ax_post_code ?_ | refine ax_seq ?_ | refine ax_region rfl ?_ | refine ax_q (q_lss rfl rfl) ?_)
    refine ax_cond_dec rfl (fun h => ?_) (fun h => ?_)
    · have hk' : k < qs.length := by omega
      have hq := hz _ (getD_mem 0 hk')
      have hd := drop_cons (d := (0 : Rat)) hk'
      rw [hd, sumL] at hS
      repeat (first | refine ax_post_code ?_ | refine ax_seq ?_ | refine ax_region rfl ?_ | refine ax_block ?_ | refine ax_skip ?_ | refine ax_q (q_index_ro' rfl rfl rfl rfl (by first | (simp only [Nat.zero_add, Int.toNat_natCast, Int.toNat_zero]; exact rfl) | exact rfl) (by omega)) ?_ | refine ax_q (q_loadagg_rp rfl rfl rfl rfl rfl rfl) ?_ | refine ax_alloc rfl rfl rfl ?_)
      refine ax_slot_ops 25 (.agg (cellsQ (qs.getD k 0))) rfl (AEq.of_eq rfl) ?_
      generalize qs.getD k 0 = q at *
      have hc := qadd_ok acc q (hA.mono (by decide)) (hq.mono (by decide))
      have hf := fits_ok (acc + q) ((sz_add hA hq).mono (by decide))
      refine ax_storeagg (c' := .box (cellsQ q)) rfl rfl rfl rfl rfl Nat.zero_lt_one rfl rfl (fun i' j' hi' hj' => ?_) ?_
      · rw [if_pos (Nat.lt_one_iff.1 hi')]; rfl
      repeat (first | refine ax_ops_nil ?_ | refine ax_post_code ?_ | refine ax_seq ?_ | refine ax_region rfl ?_ | refine ax_q (q_loadpart_ptr rfl rfl rfl rfl rfl rfl rfl (by first | exact Nat.zero_lt_one | assumption | omega)) ?_)
      refine ax_callv rfl rfl rfl hc ?_
      skip
      refine ax_storeagg (c' := .box (cellsQ (acc + q))) rfl rfl rfl rfl rfl Nat.zero_lt_one rfl rfl (fun i' j' hi' hj' => ?_) ?_
      · rw [if_pos (Nat.lt_one_iff.1 hi')]; rfl
      repeat (first | refine ax_ops_nil ?_ | refine ax_post_code ?_ | refine ax_seq ?_ | refine ax_region rfl ?_ | refine ax_q (q_loadpart_ptr rfl rfl rfl rfl rfl rfl rfl (by first | exact Nat.zero_lt_one | assumption | omega)) ?_)
      refine ax_callv rfl rfl rfl hf ?_
      cases hb : fitB (acc + q)
      · rw [hb, if_neg Bool.false_ne_true] at hS
        rw [hS] at hR
        repeat (first | refine ax_ops_nil ?_ | refine ax_post_code ?_ | refine ax_seq ?_ | refine ax_region rfl ?_ | refine ax_cond_true rfl ?_ | refine ax_q (q_not rfl) ?_ | refine ax_q (q_loadpart_ptr rfl rfl rfl rfl rfl rfl rfl (by first | exact Nat.zero_lt_one | assumption | omega)) ?_)
        refine ax_storeagg (c' := .box (cellsQ (acc + q))) rfl rfl rfl rfl rfl Nat.zero_lt_one rfl rfl (fun i' j' hi' hj' => ?_) ?_
        · rw [if_pos (Nat.lt_one_iff.1 hi')]; rfl
        repeat (first | refine ax_q (q_assign rfl) ?_ | refine ax_ops_nil ?_ | refine ax_post_code ?_ | refine ax_return ?_ | refine ax_ret_code ?_ | refine ax_ret_blk ?_ | refine ax_ret_inv ?_)
        exact ax_ret hR rfl rfl
      · rw [hb, if_pos rfl] at hS
        repeat (first | refine ax_ops_nil ?_ | refine ax_q (q_not rfl) ?_)
        refine ax_post_code ?_
        refine ax_heap ([some ⟨108, .box [.bool false, .nil, .nil]⟩, some ⟨108, .box (cellsQ (acc + q))⟩] ++ [none]) ?_ ?_
        · exact HSub.eqv (CEq.refl _) (HSub.eqv (CEq.refl _) (HSub.drop HSub.nil))
        refine ax_drop (H1 := [some ⟨108, .box [.bool false, .nil, .nil]⟩, some ⟨108, .box (cellsQ (acc + q))⟩]) rfl (by rw [hfix]; exact fun h => h) ?_
        repeat (first | refine ax_q (q_move rfl) ?_ | refine ax_ops_nil ?_ | refine ax_post_code ?_ | refine ax_region rfl ?_ | refine ax_cond_false rfl ?_ | refine ax_post_blk ?_ | refine ax_skip ?_ | refine ax_q (q_add rfl rfl (by omega)) ?_)
        exact ax_post_inv ⟨(k + 1, acc + q), ⟨by simp only; omega, hS, fit_len hb⟩, by simp only; omega, ⟨rfl, rfl, rfl, rfl, rfl, trivial⟩, rfl⟩
    · have hk' : k = l.length := by omega
      subst hk'
      rw [← hml, List.drop_length, sumL] at hS
      rw [hS] at hR
      repeat (first | refine ax_post_code ?_ | refine ax_seq ?_ | refine ax_region rfl ?_ | refine ax_exit ?_ | refine ax_exit_here ?_ | refine ax_exit_code ?_ | refine ax_exit_inv ?_ | refine ax_q (q_loadpart_ptr rfl rfl rfl rfl rfl rfl rfl (by first | exact Nat.zero_lt_one | assumption | omega)) ?_)
      refine ax_storeagg (c' := .box (cellsQ acc)) rfl rfl rfl rfl rfl Nat.zero_lt_one rfl rfl (fun i' j' hi' hj' => ?_) ?_
      · rw [if_pos (Nat.lt_one_iff.1 hi')]; rfl
      repeat (first | refine ax_q (q_assign rfl) ?_ | refine ax_ops_nil ?_ | refine ax_post_code ?_ | refine ax_return ?_)
      exact ax_ret hR rfl rfl
  · rw [if_neg hE]
    generalize allE l = e at *
    refine ACall.value0 (acall_of_ax (P := Tryz.prog) (fn := Tryz.f135) rfl rfl (by kernel_rfl) rfl (fun c hR hfix => ?_)) (fix := fun _ => False) (fun _ h => h) rfl rfl
    repeat (first | refine ax_q (q_assign rfl) ?_ | refine ax_ops_nil ?_ | refine ax_post_code ?_ | refine ax_seq ?_ | refine ax_region rfl ?_ | refine ax_alloc rfl rfl rfl ?_)
    refine ax_callv rfl rfl rfl of_zero ?_
    repeat (refine ax_alloc rfl rfl rfl ?_)
    refine ax_storeagg (c' := .box (cellsQ 0)) rfl rfl rfl rfl rfl Nat.zero_lt_one rfl rfl (fun i' j' hi' hj' => ?_) ?_
    · rw [if_pos (Nat.lt_one_iff.1 hi')]; rfl
    repeat (first | refine ax_q (q_move rfl) ?_ | refine ax_ops_nil ?_ | refine ax_post_code ?_ | refine ax_seq ?_ | refine ax_region rfl ?_ | refine ax_q (q_gtr rfl rfl) ?_ | refine ax_q (q_len rfl rfl rfl) ?_)
    refine ax_cond_dec rfl (fun h0 => absurd hl (by omega)) (fun h0 => ?_)
    repeat (first | refine ax_q (q_move rfl) ?_ | refine ax_post_code ?_ | refine ax_seq ?_ | refine ax_region rfl ?_ | refine ax_skip ?_)
    refine ax_callv rfl rfl rfl h1 ?_
    repeat (first | refine ax_q (q_move rfl) ?_ | refine ax_q (q_assign rfl) ?_ | refine ax_ops_nil ?_ | refine ax_post_code ?_ | refine ax_seq ?_ | refine ax_region rfl ?_ | refine ax_q (q_neq rfl rfl) ?_)
    refine ax_cond_dec rfl (fun h2 => ?_) (fun h2 => absurd hE h2)
    repeat (first | refine ax_q (q_move rfl) ?_ | refine ax_seq ?_ | refine ax_region rfl ?_ | refine ax_q (q_loadpart_ptr rfl rfl rfl rfl rfl rfl rfl (by first | exact Nat.zero_lt_one | assumption | omega)) ?_)
    refine ax_storeagg (c' := .box (cellsQ 0)) rfl rfl rfl rfl rfl Nat.zero_lt_one rfl rfl (fun i' j' hi' hj' => ?_) ?_
    · rw [if_pos (Nat.lt_one_iff.1 hi')]; rfl
    repeat (first | refine ax_q (q_assign rfl) ?_ | refine ax_ops_nil ?_ | refine ax_post_code ?_ | refine ax_return ?_ | refine ax_ret_code ?_)
    exact ax_ret hR rfl rfl
end Go.Proofs.YtgmleamhjnlknaaGreatDoor

