import Derived.Shelf.Strconv.Itoa3
import Derived.Shelf.Pu.ParseUintPublic10
import Derived.Shelf.Bits.Mul64
import Derived.Shelf.Strings.OnBuilder
import Derived.Test.YtgmleamhjnlknaaGreatDoorProg
import Derived.Lib.ParseIntB
import Derived.Lib.Join
import Derived.Test.YtgmleamhjnlknaaGreatDoorY2
set_option linter.unusedVariables false
set_option linter.unusedSimpArgs false
namespace Go.Proofs.YtgmleamhjnlknaaGreatDoor
open Go.Ax Go.Ax.Bg Go.RowKit
attribute [local irreducible] Ax zAV QOp zV
set_option maxRecDepth 100000
set_option maxHeartbeats 4000000
theorem zKf (n m : Nat) (hm : 0 < m) (hn : (zh n).length ≤ 1000000) (hml : (zh m).length ≤ 1000000) : zk Tryz.prog 143 [zAL n, zAL m] (.tup [zAL (n / m), zAL (n % m)]) := by
 rcases Nat.lt_or_ge n m with h | h
 · rw [Nat.div_eq_of_lt h, Nat.mod_eq_of_lt h]
   exact zk.res (div_less n m h hn hml) (AEq.tup2 AEq.natNil)
 · have h1 : (zh m).length ≠ 0 := by
     have := zBc.2 (show m ≠ 0 by omega)
     omega
   rcases Nat.lt_or_ge (zh m).length 2 with q | q
   · exact div_one n m h hn (by omega)
   · exact div_many n m h hn q
theorem gcd_ok (n m : Nat) (hn : (zh n).length ≤ 1000000) (hm : (zh m).length ≤ 1000000) : zk Tryz.prog 142 [zAL n, zAL m] (zAL (Nat.gcd n m)) := by
 refine zV.value0 (zN (P := Tryz.prog) (fn := Tryz.f142) rfl rfl (by kernel_rfl) rfl (fun c hR hfix => ?_)) (fix := fun _ => False) (fun _ h => h) rfl rfl
 repeat (first | refine zD (zE rfl) ?_ | refine zB ?_ | refine zA ?_ | refine zG ?_ | refine zC rfl ?_ | refine zT ?_)
 refine zAC (ι := Nat × Nat) (fun p => [(0, zAL p.1), (1, zAL p.2)]) (fun _ => []) (fun p => (zh p.1).length ≤ 1000000 ∧ (zh p.2).length ≤ 1000000 ∧ Nat.gcd p.1 p.2 = Nat.gcd n m) (fun p => p.2) (n, m) ⟨⟨rfl, rfl, trivial⟩, rfl, hn, hm, rfl⟩ ?_
 rintro ⟨a, b⟩ ⟨h1, h2, h3⟩
 simp only at *
 have hd := fun h => zKf a b h h1 h2
 have hpos : 0 < (zh b).length ↔ b ≠ 0 := zBc
 have en : zAL b = .ro (.ints .u32 (zh b)) 0 (zh b).length := rfl
 rw [en] at hd ⊢
 repeat (first | refine zD (zF rfl) ?_ | refine zB ?_ | refine zA ?_ | refine zG ?_ | refine zC rfl ?_ | refine zD (zBU rfl rfl) ?_ | refine zD (zw rfl rfl rfl) ?_)
 refine zK rfl (fun h4 => ?_) (fun h4 => ?_)
 · have hb : b ≠ 0 := hpos.1 (by omega)
   repeat (first | refine zD (zF rfl) ?_ | refine zA ?_ | refine zG ?_ | refine zC rfl ?_ | refine zT ?_ | refine zP ?_)
   refine zM rfl rfl rfl (hd (by omega)) ?_
   repeat (first | refine zD (zF rfl) ?_ | refine zD (zE rfl) ?_ | refine zB ?_ | refine zA ?_ | refine zC rfl ?_ | refine zZ ?_ | refine zD (zz rfl rfl) ?_)
   refine zd ⟨(b, a % b), ⟨h2, zD6 (Nat.mod_lt a (by omega)) h2, ?_⟩, Nat.mod_lt a (by omega), ⟨rfl, rfl, trivial⟩, rfl⟩
   show Nat.gcd b (a % b) = Nat.gcd n m
   rw [← h3, Nat.gcd_comm a b, Nat.gcd_rec b a, Nat.gcd_comm]
 · have hb : b = 0 := by
     rcases Nat.eq_zero_or_pos b with q | q
     · exact q
     · have := hpos.2 (by omega); omega
   rw [hb, Nat.gcd_zero_right] at h3
   repeat (first | refine zD (zF rfl) ?_ | refine zD (zE rfl) ?_ | refine zB ?_ | refine zA ?_ | refine zG ?_ | refine zC rfl ?_ | refine zx ?_ | refine zW ?_ | refine zX ?_ | refine zi ?_ | refine zH ?_)
   refine zR hR rfl ?_
   rw [← h3]; rfl
theorem one_ok (n : Nat) : zk Tryz.prog 152 [zAL n] (.bool (decide (n = 1))) := by
 refine zV.value0 (zN (P := Tryz.prog) (fn := Tryz.f152) rfl rfl (by kernel_rfl) rfl (fun c hR hfix => ?_)) (fix := fun _ => False) (fun _ h => h) rfl rfl
 have h1 : n = 1 ↔ (zh n).length = 1 ∧ (zh n).getD 0 0 = 1 := zMM
 unfold zAL
 repeat (first | refine zD (zF rfl) ?_ | refine zD (zE rfl) ?_ | refine zB ?_ | refine zA ?_ | refine zG ?_ | refine zC rfl ?_ | refine zD (zA0 rfl rfl) ?_ | refine zD (zw rfl rfl rfl) ?_)
 refine zAH rfl rfl (fun h2 => ?_) (fun h2 => ?_)
 · repeat (first | refine zD (zF rfl) ?_ | refine zD (zE rfl) ?_ | refine zD (z6 rfl rfl rfl) ?_ | refine zB ?_ | refine zA ?_ | refine zj rfl rfl ?_ | refine zH ?_ | refine zD (zA0 rfl rfl) ?_ | refine zD (zr rfl rfl) ?_ | refine zD (zY rfl rfl rfl rfl (by first | (simp only [Nat.zero_add, Int.toNat_natCast, Int.toNat_zero]; exact rfl) | exact rfl) (by omega)) ?_)
   refine zR hR rfl ?_
   show AV.bool (decide ((zh n).getD _ 0 = 1)) = _
   congr 1
   rw [decide_eq_decide, h1]
   exact ⟨fun h => ⟨by omega, h⟩, fun h => h.2⟩
 · repeat (first | refine zD (zE rfl) ?_ | refine zB ?_ | refine zA ?_ | refine zp rfl rfl rfl ?_ | refine zH ?_ | refine zD (zr rfl rfl) ?_)
   refine zR hR rfl ?_
   show AV.bool false = _
   rw [decide_eq_false]
   intro h
   exact h2 (by have := (h1.1 h).1; omega)
theorem zKS (l : List (List UInt8)) (hl : l.length ≤ 1000000000) :
   zV Tryz.prog 206 [.sl 0 0 l.length] [some ⟨9, .strs l⟩] (fun h => h < 1) (fun _ H => H = [some ⟨9, .strs l.reverse⟩]) := by
 refine zN (P := Tryz.prog) (fn := Tryz.f206) rfl rfl (by kernel_rfl) rfl (fun c hR hfix => ?_)
 repeat (first | refine zD (zF rfl) ?_ | refine zD (zE rfl) ?_ | refine zB ?_ | refine zA ?_ | refine zG ?_ | refine zC rfl ?_ | refine zT ?_ | refine zD (zw rfl rfl rfl) ?_ | refine zD (zBa rfl rfl (by omega)) ?_)
 refine zAC (ι := Nat) (fun k => [(0, .sl 0 0 l.length), (2, .int .i64 (k : Nat)), (3, .int .i64 ((l.length : Int) - 1 - k))]) (fun k => [some ⟨9, .strs (zEp l k)⟩]) (fun k => 2 * k ≤ l.length + 1) (fun k => l.length + 1 - k) 0 ⟨⟨rfl, rfl, ?_, trivial⟩, by rw [zMs], by omega⟩ ?_
 · show some (AV.int .i64 _) = _
   congr 2; omega
 rintro k hk
 have hrl := zCU l k
 repeat (first | refine zD (zF rfl) ?_ | refine zB ?_ | refine zA ?_ | refine zG ?_ | refine zC rfl ?_ | refine zD (zAQ rfl rfl) ?_)
 refine zK rfl (fun h1 => ?_) (fun h1 => ?_)
 · have hk2 : k + 1 + k < l.length := by omega
   have e1 : ((l.length : Int) - 1 - (k : Nat)).toNat = l.length - 1 - k := by omega
   repeat (first | refine zA ?_ | refine zG ?_ | refine zT ?_ | refine zP ?_)
   refine zAI (by kernel_rfl) ?_
   refine zc 0 rfl (by kernel_rfl) (by kernel_rfl) (by kernel_rfl) rfl (zF rfl) rfl ?_
   refine zc 1 rfl (by kernel_rfl) (by kernel_rfl) (by kernel_rfl) rfl (zF rfl) rfl ?_
   refine zc 2 rfl (by kernel_rfl) (by kernel_rfl) (by kernel_rfl) rfl (zF rfl) rfl ?_
   refine zc 3 rfl (by kernel_rfl) (by kernel_rfl) (by kernel_rfl) rfl (zF rfl) rfl ?_
   refine zc 4 rfl (by kernel_rfl) (by kernel_rfl) (by kernel_rfl) rfl (zF rfl) rfl ?_
   refine zc 5 rfl (by kernel_rfl) (by kernel_rfl) (by kernel_rfl) rfl (zF rfl) rfl ?_
   refine zc 6 rfl (by kernel_rfl) (by kernel_rfl) (by kernel_rfl) rfl (zu rfl rfl rfl rfl rfl (by first | (simp only [Nat.zero_add, Int.toNat_natCast, Int.toNat_zero]; exact rfl) | exact rfl) (by omega)) rfl ?_
   refine zc 8 rfl (by kernel_rfl) (by kernel_rfl) (by kernel_rfl) rfl (zF rfl) rfl ?_
   refine zc 9 rfl (by kernel_rfl) (by kernel_rfl) (by kernel_rfl) rfl (zF rfl) rfl ?_
   refine zc 10 rfl (by kernel_rfl) (by kernel_rfl) (by kernel_rfl) rfl (zu rfl rfl rfl rfl rfl (by first | (simp only [Nat.zero_add, Int.toNat_natCast, Int.toNat_zero]; exact rfl) | exact rfl) (by omega)) rfl ?_
   refine zBR 20 (.ptr 0 (l.length - 1 - k) 0) rfl (AEq.of_eq (by rw [e1])) ?_
   have b1 : l.length - 1 - k < (zEp l k).length := by omega
   have b2 : k < (zEp l k).length := by omega
   apply zCI [(0, .sl 0 0 l.length), (2, .int .i64 (k : Nat)), (3, .int .i64 ((l.length : Int) - 1 - k)), (14, .sl 0 0 l.length), (15, .int .i64 (k : Nat)), (16, .sl 0 0 l.length), (17, .int .i64 ((l.length : Int) - 1 - k)), (21, .str ((zEp l k).getD (l.length - 1 - k) [])), (25, .str ((zEp l k).getD k []))]
   · intro fin
     refine zO (is := [7, 11]) (by kernel_rfl) (by simp) rfl ⟨fun o ho => ?_, fun o ho => ?_, trivial⟩
     all_goals (cases ho)
     · repeat (first | refine zB ?_ | refine zJ ?_ | refine zD (zDx rfl rfl rfl rfl (by first | assumption | omega)) ?_)
       refine zO (is := [11]) (by kernel_rfl) (by simp) rfl ⟨fun o ho => ?_, trivial⟩
       all_goals (cases ho)
       repeat (first | refine zB ?_ | refine zJ ?_ | refine zD (zDx rfl rfl rfl rfl (by first | assumption | omega)) ?_)
       exact fin _ ⟨rfl, rfl, rfl, rfl, rfl, rfl, rfl, rfl, rfl, trivial⟩
     · repeat (first | refine zB ?_ | refine zJ ?_ | refine zD (zDx rfl rfl rfl rfl (by first | assumption | omega)) ?_)
       refine zO (is := [7]) (by kernel_rfl) (by simp) rfl ⟨fun o ho => ?_, trivial⟩
       all_goals (cases ho)
       repeat (first | refine zB ?_ | refine zJ ?_ | refine zD (zDx rfl rfl rfl rfl (by first | assumption | omega)) ?_)
       exact fin _ ⟨rfl, rfl, rfl, rfl, rfl, rfl, rfl, rfl, rfl, trivial⟩
   refine zc 12 rfl (by kernel_rfl) (by kernel_rfl) (by kernel_rfl) rfl (zu rfl rfl rfl rfl rfl (by first | (simp only [Nat.zero_add, Int.toNat_natCast, Int.toNat_zero]; exact rfl) | exact rfl) (by omega)) rfl ?_
   refine zO (is := [13]) (by kernel_rfl) (by simp) rfl ⟨fun o ho => ?_, trivial⟩
   all_goals (cases ho)
   repeat (first | refine zB ?_ | refine zJ ?_ | refine zAr rfl rfl rfl rfl rfl rfl rfl (by first | assumption | (show _ < List.length _; first | assumption | omega)) ?_)
   refine zc 14 rfl (by kernel_rfl) (by kernel_rfl) (by kernel_rfl) rfl (zu rfl rfl rfl rfl rfl (by first | (simp only [Nat.zero_add, Int.toNat_natCast, Int.toNat_zero]; exact rfl) | exact rfl) (by omega)) rfl ?_
   refine zBR 27 (.ptr 0 (l.length - 1 - k) 0) rfl (AEq.of_eq (by rw [e1])) ?_
   have b3 : l.length - 1 - k < ((zEp l k).set k ((zEp l k).getD (l.length - 1 - k) [])).length := by simp; omega
   refine zO (is := [15]) (by kernel_rfl) (by simp) rfl ⟨fun o ho => ?_, trivial⟩
   all_goals (cases ho)
   repeat (first | refine zB ?_ | refine zJ ?_ | refine zAr rfl rfl rfl rfl rfl rfl rfl (by first | assumption | (show _ < List.length _; first | assumption | omega)) ?_)
   refine zAB (by kernel_rfl) ?_
   repeat (first | refine zD (zF rfl) ?_ | refine zD (zE rfl) ?_ | refine zB ?_ | refine zA ?_ | refine zC rfl ?_ | refine zZ ?_ | refine zD (zAK rfl rfl (by omega)) ?_ | refine zD (zBa rfl rfl (by omega)) ?_)
   refine zd ⟨k + 1, by omega, by omega, ⟨rfl, rfl, ?_, trivial⟩, ?_⟩
   · show some (AV.int .i64 _) = _
     congr 2; omega
   · show ([some ⟨_, .strs (((zEp l k).set k _).set (l.length - 1 - k) _)⟩] : zg) = _
     rw [zMU l hk2]
 · repeat (first | refine zx ?_ | refine zW ?_ | refine zX ?_ | refine zi ?_)
   refine ax_end hR rfl ?_
   rw [zMc l (by omega)]
end Go.Proofs.YtgmleamhjnlknaaGreatDoor
namespace Go.Proofs
open Go.Shelf
def Tryz.lays156_ren : Go.Shelf.Ren := ⟨fun | 156 => 207 | 165 => 227 | 166 => 228 | 169 => 230 | 240 => 240 | 241 => 241 | 276 => 248 | 277 => 249 | n => n, fun | 31 => 254 | 9 => 9 | 3 => 3 | 4 => 4 | 0 => 0 | 20 => 20 | 72 => 275 | 76 => 277 | 70 => 273 | 37 => 269 | 75 => 233 | 127 => 286 | 164 => 300 | 5 => 5 | 80 => 209 | n => n, fun | n => n⟩
theorem Tryz.lays156 : Go.Proofs.Lays.n156 Tryz.prog Tryz.lays156_ren := {
 mixed := by kernel_rfl
 f156 := Tryz.func207.trans (congrArg some (by kernel_rfl))
 f165 := Tryz.func227.trans (congrArg some (by kernel_rfl))
 f166 := Tryz.func228.trans (congrArg some (by kernel_rfl))
 f169 := Tryz.func230.trans (congrArg some (by kernel_rfl))
 f240 := Tryz.func240.trans (congrArg some (by kernel_rfl))
 f241 := Tryz.func241.trans (congrArg some (by kernel_rfl))
 f276 := Tryz.func248.trans (congrArg some (by kernel_rfl))
 f277 := Tryz.func249.trans (congrArg some (by kernel_rfl))
 t0 := Tryz.underlying0
 a0 := Tryz.isAgg0
 z0 := Tryz.sizeOf0
 v0 := Tryz.zeroValue0
 t3 := Tryz.underlying3
 a3 := Tryz.isAgg3
 z3 := Tryz.sizeOf3
 v3 := Tryz.zeroValue3
 t4 := Tryz.underlying4
 a4 := Tryz.isAgg4
 z4 := Tryz.sizeOf4
 v4 := Tryz.zeroValue4
 t9 := Tryz.underlying9
 a9 := Tryz.isAgg9
 z9 := Tryz.sizeOf9
 v9 := Tryz.zeroValue9
 t20 := Tryz.underlying20
 a20 := Tryz.isAgg20
 z20 := Tryz.sizeOf20
 v20 := Tryz.zeroValue20
 t31 := Tryz.underlying254
 a31 := Tryz.isAgg254
 z31 := Tryz.sizeOf254
 v31 := Tryz.zeroValue254
 t37 := Tryz.underlying269
 a37 := Tryz.isAgg269
 z37 := Tryz.sizeOf269
 v37 := Tryz.zeroValue269
 t70 := Tryz.underlying273
 a70 := Tryz.isAgg273
 z70 := Tryz.sizeOf273
 v70 := Tryz.zeroValue273
 t72 := Tryz.underlying275
 a72 := Tryz.isAgg275
 z72 := Tryz.sizeOf275
 v72 := Tryz.zeroValue275
 t75 := Tryz.underlying233
 a75 := Tryz.isAgg233
 z75 := Tryz.sizeOf233
 v75 := Tryz.zeroValue233
 t76 := Tryz.underlying277
 a76 := Tryz.isAgg277
 z76 := Tryz.sizeOf277
 v76 := Tryz.zeroValue277
 t127 := Tryz.underlying286
 a127 := Tryz.isAgg286
 z127 := Tryz.sizeOf286
 v127 := Tryz.zeroValue286
 t164 := Tryz.underlying300
 a164 := Tryz.isAgg300
 z164 := Tryz.sizeOf300
 v164 := Tryz.zeroValue300 }
theorem Tryz.Builder_Extra_156 : Builder.Extra Tryz.prog Tryz.lays156_ren := {
 sizeBuilder := by kernel_rfl
 liesBuilder := by kernel_rfl
 t5 := Tryz.underlying5
 a5 := Tryz.isAgg5
 z5 := Tryz.sizeOf5
 v5 := Tryz.zeroValue5
 infoByte := by kernel_rfl
 cellsByte := by kernel_rfl
 sizeByte := by kernel_rfl
 neB5 := by decide }
open Go.RowKit in
/-- No element: the empty string; the world is as it was. (Whatever the slice's address and capacity: a nil slice too.) (LAID: no walk: one application.) -/
theorem Tryz.strings_Join_none (a : Option Addr) (c : Nat) (sep : ByteArray) (w : World) :
   Calls Tryz.prog 207 #[.slice a 0 c, .string sep] w fun e w' => e = .returned (.string ⟨#[]⟩) ∧ w' = w := Any.strings_Join_none Tryz.lays156 Tryz.Builder_Extra_156 a c sep w
open Go.RowKit in
/-- strings.Join: "Join concatenates the elements of its first argument to create a single string. The separator string sep is placed between elements in the resulting string.": HOWEVER MANY ELEMENTS. Below the heap's end the world is as it was. (LAID: no walk: one application.) -/
theorem Tryz.strings_Join (bk o c : Nat) (xs : List ByteArray) (sep : ByteArray) (w : World) (hcells : ∀ (j : Nat) x, xs[j]? = some x → w.cell? ⟨bk, o + j, none⟩ = some (.string x)) (hbk : bk < w.heap.size) (hN : xs.length ≤ 140737488355328) (hcap : xs.length ≤ c) (hlen : (Lib.join (xs.map (·.data.toList)) sep.data.toList).length ≤ 140737488355328) :
   Calls Tryz.prog 207 #[.slice (some ⟨bk, o, none⟩) xs.length c, .string sep] w fun e w' => e = .returned (.string ⟨(Lib.join (xs.map (·.data.toList)) sep.data.toList).toArray⟩) ∧ Below w.heap.size w w' := Any.strings_Join Tryz.lays156 Tryz.Builder_Extra_156 bk o c xs sep w hcells hbk hN hcap hlen
def Tryz.laysM171_ren : Go.Shelf.Ren := ⟨fun | 171 => 204 | 243 => 226 | 246 => 239 | 283 => 244 | 284 => 245 | 285 => 246 | 286 => 247 | 129 => 251 | 317 => 250 | 318 => 252 | 319 => 253 | 320 => 254 | 337 => 255 | 338 => 256 | n => n, fun | 3 => 3 | 9 => 9 | 2 => 2 | 4 => 4 | 171 => 295 | 0 => 0 | 53 => 145 | 37 => 269 | 5 => 5 | 173 => 298 | 212 => 304 | 51 => 193 | 20 => 20 | 213 => 305 | 46 => 98 | 232 => 308 | 233 => 309 | n => n, fun | 17 => 5 | 18 => 6 | 19 => 7 | n => n⟩
theorem Tryz.laysM171 : Go.Proofs.LaysM.n171 Tryz.prog Tryz.laysM171_ren := {
 mixed := by kernel_rfl
 f129 := Tryz.func251.trans (congrArg some (by kernel_rfl))
 f171 := Tryz.func204.trans (congrArg some (by kernel_rfl))
 f243 := Tryz.func226.trans (congrArg some (by kernel_rfl))
 f246 := Tryz.func239.trans (congrArg some (by kernel_rfl))
 f283 := Tryz.func244.trans (congrArg some (by kernel_rfl))
 f284 := Tryz.func245.trans (congrArg some (by kernel_rfl))
 f285 := Tryz.func246.trans (congrArg some (by kernel_rfl))
 f286 := Tryz.func247.trans (congrArg some (by kernel_rfl))
 f317 := Tryz.func250.trans (congrArg some (by kernel_rfl))
 f318 := Tryz.func252.trans (congrArg some (by kernel_rfl))
 f319 := Tryz.func253.trans (congrArg some (by kernel_rfl))
 f320 := Tryz.func254.trans (congrArg some (by kernel_rfl))
 f337 := Tryz.func255.trans (congrArg some (by kernel_rfl))
 f338 := Tryz.func256.trans (congrArg some (by kernel_rfl))
 t0 := Tryz.underlying0
 a0 := Tryz.isAgg0
 z0 := Tryz.sizeOf0
 v0 := Tryz.zeroValue0
 t2 := Tryz.underlying2
 a2 := Tryz.isAgg2
 z2 := Tryz.sizeOf2
 v2 := Tryz.zeroValue2
 t3 := Tryz.underlying3
 a3 := Tryz.isAgg3
 z3 := Tryz.sizeOf3
 v3 := Tryz.zeroValue3
 t4 := Tryz.underlying4
 a4 := Tryz.isAgg4
 z4 := Tryz.sizeOf4
 v4 := Tryz.zeroValue4
 t5 := Tryz.underlying5
 a5 := Tryz.isAgg5
 z5 := Tryz.sizeOf5
 v5 := Tryz.zeroValue5
 t9 := Tryz.underlying9
 a9 := Tryz.isAgg9
 z9 := Tryz.sizeOf9
 v9 := Tryz.zeroValue9
 t20 := Tryz.underlying20
 a20 := Tryz.isAgg20
 z20 := Tryz.sizeOf20
 v20 := Tryz.zeroValue20
 t37 := Tryz.underlying269
 a37 := Tryz.isAgg269
 z37 := Tryz.sizeOf269
 v37 := Tryz.zeroValue269
 t46 := Tryz.underlying98
 a46 := Tryz.isAgg98
 z46 := Tryz.sizeOf98
 v46 := Tryz.zeroValue98
 t51 := Tryz.underlying193
 a51 := Tryz.isAgg193
 z51 := Tryz.sizeOf193
 v51 := Tryz.zeroValue193
 t53 := Tryz.underlying145
 a53 := Tryz.isAgg145
 z53 := Tryz.sizeOf145
 v53 := Tryz.zeroValue145
 t171 := Tryz.underlying295
 a171 := Tryz.isAgg295
 z171 := Tryz.sizeOf295
 v171 := Tryz.zeroValue295
 t173 := Tryz.underlying298
 a173 := Tryz.isAgg298
 z173 := Tryz.sizeOf298
 v173 := Tryz.zeroValue298
 t212 := Tryz.underlying304
 a212 := Tryz.isAgg304
 z212 := Tryz.sizeOf304
 v212 := Tryz.zeroValue304
 t213 := Tryz.underlying305
 a213 := Tryz.isAgg305
 z213 := Tryz.sizeOf305
 t232 := Tryz.underlying308
 a232 := Tryz.isAgg308
 z232 := Tryz.sizeOf308
 v232 := Tryz.zeroValue308
 t233 := Tryz.underlying309
 a233 := Tryz.isAgg309
 z233 := Tryz.sizeOf309
 v233 := Tryz.zeroValue309
 g17 := by kernel_rfl
 g18 := by kernel_rfl
 g19 := by kernel_rfl
 i0 := by kernel_rfl
 i2 := by kernel_rfl
 i3 := by kernel_rfl
 i4 := by kernel_rfl
 i5 := by kernel_rfl
 i9 := by kernel_rfl
 i20 := by kernel_rfl
 i37 := by kernel_rfl
 i46 := by kernel_rfl
 i51 := by kernel_rfl
 i53 := by kernel_rfl
 i171 := by kernel_rfl
 i173 := by kernel_rfl
 i212 := by kernel_rfl
 i232 := by kernel_rfl
 i233 := by kernel_rfl
 m17 := by kernel_rfl
 m18 := by kernel_rfl
 m19 := by kernel_rfl }
open Go.RowKit Go.Sort Go.Lib in
/-- strconv.Itoa: "Itoa is equivalent to FormatInt(int64(i), 10).": i's DECIMAL NUMERAL ('Lib.itoa': a '-' where i is negative, then the digits), FOR EVERY int. The world behind the call: the world before it, new blocks behind the heap (the library's 'var a [24]byte'), draws. (LAID: no walk: one application.) -/
theorem Tryz.strconv_Itoa (n : Int) (h0 : -9223372036854775808 ≤ n) (h1 : n ≤ 9223372036854775807) (w : World) (htab : Lib.TabIs Tryz.prog w "internal/strconv.uint64pow10" .u64 Lib.pow10Tab) :
   Calls Tryz.prog 204 #[.int .i64 n] w fun e w' => e = .returned (.string ⟨(Lib.itoa n).toArray⟩) ∧ ∃ k os, w' = grow (w.drewN k) os := Any.strconv_Itoa Tryz.laysM171 n h0 h1 w htab
def Tryz.laysPu14_ren : Go.Shelf.Ren := ⟨fun | 14 => 183 | 16 => 202 | 17 => 203 | 19 => 220 | 20 => 221 | 21 => 222 | 22 => 223 | 23 => 224 | 24 => 225 | 25 => 237 | 27 => 204 | 26 => 238 | 28 => 226 | 29 => 239 | 30 => 244 | 31 => 245 | 32 => 246 | 33 => 247 | 35 => 251 | 34 => 250 | 36 => 252 | 37 => 253 | 38 => 254 | 39 => 255 | 40 => 256 | n => n, fun | 9 => 9 | 3 => 3 | 22 => 145 | 24 => 233 | 25 => 234 | 4 => 4 | 34 => 267 | 5 => 5 | 36 => 98 | 37 => 269 | 0 => 0 | 39 => 270 | 21 => 21 | 44 => 283 | 47 => 286 | 50 => 294 | 48 => 292 | 2 => 2 | 52 => 295 | 55 => 298 | 59 => 304 | 60 => 193 | 20 => 20 | 61 => 305 | 65 => 308 | 66 => 309 | 67 => 209 | n => n, fun | 0 => 1 | 1 => 2 | 2 => 5 | 3 => 6 | 4 => 7 | n => n⟩
theorem Tryz.laysPu14 : Go.Proofs.LaysPu.n14 Tryz.prog Tryz.laysPu14_ren := {
 mixed := by kernel_rfl
 f14 := Tryz.func183.trans (congrArg some (by kernel_rfl))
 f16 := Tryz.func202.trans (congrArg some (by kernel_rfl))
 f17 := Tryz.func203.trans (congrArg some (by kernel_rfl))
 f19 := Tryz.func220.trans (congrArg some (by kernel_rfl))
 f20 := Tryz.func221.trans (congrArg some (by kernel_rfl))
 f21 := Tryz.func222.trans (congrArg some (by kernel_rfl))
 f22 := Tryz.func223.trans (congrArg some (by kernel_rfl))
 f23 := Tryz.func224.trans (congrArg some (by kernel_rfl))
 f24 := Tryz.func225.trans (congrArg some (by kernel_rfl))
 f25 := Tryz.func237.trans (congrArg some (by kernel_rfl))
 f26 := Tryz.func238.trans (congrArg some (by kernel_rfl))
 f27 := Tryz.func204.trans (congrArg some (by kernel_rfl))
 f28 := Tryz.func226.trans (congrArg some (by kernel_rfl))
 f29 := Tryz.func239.trans (congrArg some (by kernel_rfl))
 f30 := Tryz.func244.trans (congrArg some (by kernel_rfl))
 f31 := Tryz.func245.trans (congrArg some (by kernel_rfl))
 f32 := Tryz.func246.trans (congrArg some (by kernel_rfl))
 f33 := Tryz.func247.trans (congrArg some (by kernel_rfl))
 f34 := Tryz.func250.trans (congrArg some (by kernel_rfl))
 f35 := Tryz.func251.trans (congrArg some (by kernel_rfl))
 f36 := Tryz.func252.trans (congrArg some (by kernel_rfl))
 f37 := Tryz.func253.trans (congrArg some (by kernel_rfl))
 f38 := Tryz.func254.trans (congrArg some (by kernel_rfl))
 f39 := Tryz.func255.trans (congrArg some (by kernel_rfl))
 f40 := Tryz.func256.trans (congrArg some (by kernel_rfl))
 t0 := Tryz.underlying0
 a0 := Tryz.isAgg0
 z0 := Tryz.sizeOf0
 v0 := Tryz.zeroValue0
 i0 := by kernel_rfl
 t2 := Tryz.underlying2
 a2 := Tryz.isAgg2
 z2 := Tryz.sizeOf2
 v2 := Tryz.zeroValue2
 i2 := by kernel_rfl
 t3 := Tryz.underlying3
 a3 := Tryz.isAgg3
 z3 := Tryz.sizeOf3
 v3 := Tryz.zeroValue3
 i3 := by kernel_rfl
 t4 := Tryz.underlying4
 a4 := Tryz.isAgg4
 z4 := Tryz.sizeOf4
 v4 := Tryz.zeroValue4
 i4 := by kernel_rfl
 t5 := Tryz.underlying5
 a5 := Tryz.isAgg5
 z5 := Tryz.sizeOf5
 v5 := Tryz.zeroValue5
 i5 := by kernel_rfl
 t9 := Tryz.underlying9
 a9 := Tryz.isAgg9
 z9 := Tryz.sizeOf9
 v9 := Tryz.zeroValue9
 i9 := by kernel_rfl
 t20 := Tryz.underlying20
 a20 := Tryz.isAgg20
 z20 := Tryz.sizeOf20
 v20 := Tryz.zeroValue20
 i20 := by kernel_rfl
 t21 := Tryz.underlying21
 a21 := Tryz.isAgg21
 z21 := Tryz.sizeOf21
 v21 := Tryz.zeroValue21
 i21 := by kernel_rfl
 t22 := Tryz.underlying145
 a22 := Tryz.isAgg145
 z22 := Tryz.sizeOf145
 v22 := Tryz.zeroValue145
 i22 := by kernel_rfl
 t24 := Tryz.underlying233
 a24 := Tryz.isAgg233
 z24 := Tryz.sizeOf233
 v24 := Tryz.zeroValue233
 i24 := by kernel_rfl
 t25 := Tryz.underlying234
 a25 := Tryz.isAgg234
 z25 := Tryz.sizeOf234
 v25 := Tryz.zeroValue234
 i25 := by kernel_rfl
 t34 := Tryz.underlying267
 a34 := Tryz.isAgg267
 z34 := Tryz.sizeOf267
 v34 := Tryz.zeroValue267
 i34 := by kernel_rfl
 c34 := by kernel_rfl
 t36 := Tryz.underlying98
 a36 := Tryz.isAgg98
 z36 := Tryz.sizeOf98
 v36 := Tryz.zeroValue98
 i36 := by kernel_rfl
 t37 := Tryz.underlying269
 a37 := Tryz.isAgg269
 z37 := Tryz.sizeOf269
 v37 := Tryz.zeroValue269
 i37 := by kernel_rfl
 t39 := Tryz.underlying270
 a39 := Tryz.isAgg270
 z39 := Tryz.sizeOf270
 v39 := Tryz.zeroValue270
 i39 := by kernel_rfl
 t44 := Tryz.underlying283
 a44 := Tryz.isAgg283
 z44 := Tryz.sizeOf283
 v44 := Tryz.zeroValue283
 i44 := by kernel_rfl
 t47 := Tryz.underlying286
 a47 := Tryz.isAgg286
 z47 := Tryz.sizeOf286
 v47 := Tryz.zeroValue286
 i47 := by kernel_rfl
 t48 := Tryz.underlying292
 a48 := Tryz.isAgg292
 z48 := Tryz.sizeOf292
 v48 := Tryz.zeroValue292
 i48 := by kernel_rfl
 t50 := Tryz.underlying294
 a50 := Tryz.isAgg294
 z50 := Tryz.sizeOf294
 v50 := Tryz.zeroValue294
 i50 := by kernel_rfl
 t52 := Tryz.underlying295
 a52 := Tryz.isAgg295
 z52 := Tryz.sizeOf295
 v52 := Tryz.zeroValue295
 i52 := by kernel_rfl
 t55 := Tryz.underlying298
 a55 := Tryz.isAgg298
 z55 := Tryz.sizeOf298
 v55 := Tryz.zeroValue298
 i55 := by kernel_rfl
 t59 := Tryz.underlying304
 a59 := Tryz.isAgg304
 z59 := Tryz.sizeOf304
 v59 := Tryz.zeroValue304
 i59 := by kernel_rfl
 t60 := Tryz.underlying193
 a60 := Tryz.isAgg193
 z60 := Tryz.sizeOf193
 v60 := Tryz.zeroValue193
 i60 := by kernel_rfl
 t61 := Tryz.underlying305
 a61 := Tryz.isAgg305
 z61 := Tryz.sizeOf305
 t65 := Tryz.underlying308
 a65 := Tryz.isAgg308
 z65 := Tryz.sizeOf308
 v65 := Tryz.zeroValue308
 i65 := by kernel_rfl
 t66 := Tryz.underlying309
 a66 := Tryz.isAgg309
 z66 := Tryz.sizeOf309
 v66 := Tryz.zeroValue309
 i66 := by kernel_rfl
 t67 := Tryz.underlying209
 a67 := Tryz.isAgg209
 z67 := Tryz.sizeOf209
 v67 := Tryz.zeroValue209
 i67 := by kernel_rfl
 g0 := by kernel_rfl
 m0 := by kernel_rfl
 g1 := by kernel_rfl
 m1 := by kernel_rfl
 g2 := by kernel_rfl
 m2 := by kernel_rfl
 g3 := by kernel_rfl
 m3 := by kernel_rfl
 g4 := by kernel_rfl
 m4 := by kernel_rfl }
open Go.RowKit in
/-- strconv.ParseUint(s, 10, 32), AT EVERY STRING THAT SPELLS A uint32 ('Lib.parseUintB 32 s.data.toList = .ok u'): u, AND NO ERROR. (LAID: no walk: one application.) -/
theorem Tryz.strconv_ParseUint_10_at32_ok (s : ByteArray) (hmax : s.size ≤ 9223372036854775806) (u : Nat) (h : Lib.parseUintB 32 s.data.toList = .ok u) (w : World) :
   Calls Tryz.prog 183 #[.string s, .int .i64 10, .int .i64 32] w fun e w' => e = .returned (.tuple #[.int .u64 u, .nilIface]) ∧ (w' = w ∨ w' = Lib.bytesWorld w 5 s) := Any.strconv_ParseUint_10_at32_ok Tryz.laysPu14 s hmax u h w
def Tryz.lays212_ren : Go.Shelf.Ren := ⟨fun | 212 => 169 | 263 => 190 | 264 => 191 | n => n, fun | 46 => 98 | 51 => 193 | 146 => 240 | 53 => 145 | 148 => 242 | n => n, fun | n => n⟩
theorem Tryz.lays212 : Go.Proofs.Lays.n212 Tryz.prog Tryz.lays212_ren := {
 mixed := by kernel_rfl
 f212 := Tryz.func169.trans (congrArg some (by kernel_rfl))
 f263 := Tryz.func190.trans (congrArg some (by kernel_rfl))
 f264 := Tryz.func191.trans (congrArg some (by kernel_rfl))
 t46 := Tryz.underlying98
 a46 := Tryz.isAgg98
 z46 := Tryz.sizeOf98
 v46 := Tryz.zeroValue98
 t51 := Tryz.underlying193
 a51 := Tryz.isAgg193
 z51 := Tryz.sizeOf193
 v51 := Tryz.zeroValue193
 t53 := Tryz.underlying145
 a53 := Tryz.isAgg145
 z53 := Tryz.sizeOf145
 v53 := Tryz.zeroValue145
 t146 := Tryz.underlying240
 a146 := Tryz.isAgg240
 z146 := Tryz.sizeOf240
 v146 := Tryz.zeroValue240
 t148 := Tryz.underlying242
 a148 := Tryz.isAgg242
 z148 := Tryz.sizeOf242
 v148 := Tryz.zeroValue242 }
open Go.RowKit Go.Lib in
/-- math/bits.Mul: "Mul returns the full-width product of x and y": on a machine of 64 bits: Mul64's. (LAID: no walk: one application.) -/
theorem Tryz.bits_Mul (x y : Nat) (hx : x < 18446744073709551616) (hy : y < 18446744073709551616) (w : World) :
   Calls Tryz.prog 169 #[.int .u64 x, .int .u64 y] w fun e w' => e = .returned (.tuple #[.int .u64 ((x * y / 18446744073709551616 : Nat) : Int), .int .u64 ((x * y % 18446744073709551616 : Nat) : Int)]) ∧ w' = w := Any.bits_Mul Tryz.lays212 x y hx hy w
end Go.Proofs
namespace Go.Ax.Bg
open Go.Ax.Tb (zBF)
def dg (c : UInt8) : Bool := decide (48 ≤ c.toNat ∧ c.toNat < 58)
theorem dg_iff {c : UInt8} : dg c = true ↔ zBF c := by
 unfold dg zBF
 simp only [decide_eq_true_eq]
 constructor <;> intro h <;> exact ⟨by omega, by omega⟩
def trR (s : List UInt8) : List UInt8 := (s.reverse.dropWhile dg).reverse
def trL (s : List UInt8) : List UInt8 := s.dropWhile dg
theorem zFE {l m : List UInt8} (h : l.all dg = true) : (l ++ m).dropWhile dg = m.dropWhile dg := by
 induction l with
 | nil => rfl
 | cons x r ih =>
   simp only [List.all_cons, Bool.and_eq_true] at h
   rw [List.cons_append, List.dropWhile_cons_of_pos h.1, ih h.2]
theorem trR_of {s : List UInt8} {k : Nat} (hk : k ≤ s.length) (h : (s.drop k).all dg = true) (h2 : k = 0 ∨ dg (s.getD (k - 1) 0) = false) : trR s = s.take k := by
 unfold trR
 conv => lhs; rw [← List.take_append_drop k s]
 rw [List.reverse_append, zFE (by rw [List.all_reverse]; exact h)]
 rcases h2 with h2 | h2
 · subst h2; rfl
 · rcases Nat.eq_zero_or_pos k with q | q
   · subst q; rfl
   · have e : s.take k = s.take (k - 1) ++ [s.getD (k - 1) 0] := by
       have := zAU s 0 (k - 1) (by omega)
       rwa [show k - 1 + 1 = k by omega] at this
     rw [e, List.reverse_append, List.reverse_singleton, List.singleton_append, List.dropWhile_cons_of_neg (by rw [h2]; decide)]
     simp
theorem trL_of {s : List UInt8} {k : Nat} (h : (s.take k).all dg = true) (h2 : s.length ≤ k ∨ dg (s.getD k 0) = false) : trL s = s.drop k := by
 unfold trL
 conv => lhs; rw [← List.take_append_drop k s]
 rw [zFE h]
 rcases h2 with h2 | h2
 · rw [List.drop_of_length_le h2]; rfl
 · rcases Nat.lt_or_ge k s.length with q | q
   · rw [zBm s 0 k q, List.dropWhile_cons_of_neg (by rw [h2]; decide)]
   · rw [List.drop_of_length_le q]; rfl
theorem zKy {l : List UInt8} : l.dropWhile dg = [] ↔ l.all dg = true := by
 induction l with
 | nil => simp
 | cons x r ih =>
   cases h : dg x with
   | true => rw [List.dropWhile_cons_of_pos h, ih]; simp [h]
   | false => rw [List.dropWhile_cons_of_neg (by rw [h]; decide)]; simp [h]
theorem dw_head {l : List UInt8} {x : UInt8} {r : List UInt8} (h : l.dropWhile dg = x :: r) : dg x = false := by
 induction l with
 | nil => cases h
 | cons y q ih =>
   cases hy : dg y with
   | true => rw [List.dropWhile_cons_of_pos hy] at h; exact ih h
   | false =>
     rw [List.dropWhile_cons_of_neg (by rw [hy]; decide)] at h
     cases h; exact hy
theorem trR_nil {s : List UInt8} : trL (trR s) = [] ↔ s.all dg = true := by
 unfold trL trR
 rw [zKy, List.all_reverse]
 constructor
 · intro h
   cases hq : s.reverse.dropWhile dg with
   | nil => rw [zKy, List.all_reverse] at hq; exact hq
   | cons x r =>
     rw [hq] at h
     have := dw_head hq
     simp [this] at h
 · intro h
   have : s.reverse.dropWhile dg = [] := by rw [zKy, List.all_reverse]; exact h
   rw [this]; rfl
/-- Up to nine digits as a number. -/
theorem parse_go {l : List UInt8} (hd : ∀ c ∈ l, zBF c) : ∀ (a : Nat), zAc a l ≤ 4294967295 → Lib.parseUintM 4294967295 a l = .ok (zAc a l) := by
 induction l with
 | nil => intro a _; rfl
 | cons c r ih =>
   intro a h
   have hc := hd c (by simp)
   unfold zBF at hc
   rw [zCG] at h ⊢
   have h1 : a * 10 + (c.toNat - 48) ≤ 4294967295 := by
     refine Nat.le_trans ?_ h
     rw [zEx r]
     have : (a * 10 + (c.toNat - 48)) * 1 ≤ (a * 10 + (c.toNat - 48)) * 10 ^ r.length := Nat.mul_le_mul_left _ (Nat.one_le_pow _ _ (by decide))
     omega
   have i := ih (fun x hx => hd x (by simp [hx])) _ h
   unfold Lib.parseUintM
   rw [if_pos (by omega), if_neg (by omega), if_neg (by omega)]
   exact i
theorem zFM {l : List UInt8} (h0 : l ≠ []) (hd : ∀ c ∈ l, zBF c) (h9 : l.length ≤ 9) : Lib.parseUintB 32 l = .ok (zAc 0 l) ∧ zAc 0 l < 1000000000 := by
 have hlt := zF4 hd
 have hp : 10 ^ l.length ≤ 10 ^ 9 := Nat.pow_le_pow_right (by decide) h9
 have e9 : (10 : Nat) ^ 9 = 1000000000 := by decide
 rw [e9] at hp
 unfold Lib.parseUintB
 rw [if_neg h0]
 have e32 : (2 : Nat) ^ 32 - 1 = 4294967295 := by decide
 rw [e32]
 exact ⟨parse_go hd 0 (by omega), by omega⟩
theorem zIX : ∀ (ls : List (List UInt8)), Lib.join ls [] = ls.flatten
 | [] => rfl
 | x :: r => by
   rw [Lib.join_cons, List.flatten_cons]
   congr 1
   unfold Lib.joinTail
   congr 1
   simp
end Go.Ax.Bg
namespace Go.Proofs.YtgmleamhjnlknaaGreatDoor
open Go.Ax Go.Ax.Bg Go.RowKit
set_option maxRecDepth 100000
set_option maxHeartbeats 4000000
theorem zJx (w : World) (q : Nat) (os : Array Obj) : Below w.heap.size w (Go.Sort.grow (w.drewN q) os) := by
 refine ⟨rfl, rfl, rfl, ?_, fun k hk => ?_⟩
 · show w.heap.size ≤ (w.heap ++ os).size
   simp
 · show (w.heap ++ os)[k]? = w.heap[k]?
   rw [Array.getElem?_append_left hk]
theorem vals1 {w : World} {S : Nat → Prop} {σ : Nat → Option Blk} {a : AV} {vals : Array Value} (hv : VRs w S σ [a] vals) : ∃ x, vals = #[x] ∧ VR w S σ a x := by
 obtain ⟨h1, h2⟩ := hv
 have q := h2 0 (by simp)
 have hl : vals.toList.length = 1 := by simpa using h1
 match hq : vals.toList, hl with
 | [x], _ =>
   have e : vals = #[x] := by rw [← Array.toArray_toList (xs := vals), hq]
   subst e
   exact ⟨x, rfl, by simpa using q⟩
theorem vals2 {w : World} {S : Nat → Prop} {σ : Nat → Option Blk} {a b : AV} {vals : Array Value} (hv : VRs w S σ [a, b] vals) : ∃ x y, vals = #[x, y] ∧ VR w S σ a x ∧ VR w S σ b y := by
 obtain ⟨h1, h2⟩ := hv
 have q := h2 0 (by simp)
 have q1 := h2 1 (by simp)
 have hl : vals.toList.length = 2 := by simpa using h1
 match hq : vals.toList, hl with
 | [x, y], _ =>
   have e : vals = #[x, y] := by rw [← Array.toArray_toList (xs := vals), hq]
   subst e
   exact ⟨x, y, rfl, by simpa using q, by simpa using q1⟩
theorem vals3 {w : World} {S : Nat → Prop} {σ : Nat → Option Blk} {a b c : AV} {vals : Array Value} (hv : VRs w S σ [a, b, c] vals) : ∃ x y z, vals = #[x, y, z] ∧ VR w S σ a x ∧ VR w S σ b y ∧ VR w S σ c z := by
 obtain ⟨h1, h2⟩ := hv
 have q := h2 0 (by simp)
 have q1 := h2 1 (by simp)
 have q2 := h2 2 (by simp)
 have hl : vals.toList.length = 3 := by simpa using h1
 match hq : vals.toList, hl with
 | [x, y, z], _ =>
   have e : vals = #[x, y, z] := by rw [← Array.toArray_toList (xs := vals), hq]
   subst e
   exact ⟨x, y, z, rfl, by simpa using q, by simpa using q1, by simpa using q2⟩
theorem itoa (n : Int) (h : -9223372036854775808 ≤ n ∧ n ≤ 9223372036854775807) : zk Tryz.prog 204 [.int .i64 n] (.str (Lib.itoa n)) := by
 refine zk.of_below ⟨Tryz.f204, rfl, by kernel_rfl, rfl⟩ rfl rfl (fun w S vals hG hS hv => ?_)
 obtain ⟨x, rfl, a⟩ := vals1 hv
 have hx : x = .int .i64 n := by cases a; rfl
 subst hx
 have hp : pinG w := hG
 refine (Tryz.strconv_Itoa n h.1 h.2 w hp.2.1).mono ?_
 rintro e w' ⟨rfl, k, os, rfl⟩
 exact ⟨_, rfl, zJx w k os, .str _ _⟩
theorem itoaN (n : Nat) (h : n ≤ 9223372036854775807) : zk Tryz.prog 204 [.int .i64 (n : Nat)] (.str (Lib.decDigits n)) := by
 have := itoa n ⟨by omega, by omega⟩
 rwa [Go.Ax.Tb.itoa_nat] at this
theorem mulB (a b : Nat) (ha : a < 18446744073709551616) (hb : b < 18446744073709551616) : zk Tryz.prog 169 [.int .u64 (a : Nat), .int .u64 (b : Nat)] (.tup [.int .u64 (a * b / 18446744073709551616 : Nat), .int .u64 (a * b % 18446744073709551616 : Nat)]) := by
 refine zk.of_below ⟨Tryz.f169, rfl, by kernel_rfl, rfl⟩ rfl rfl (fun w S vals hG hS hv => ?_)
 obtain ⟨x, y, rfl, p, q⟩ := vals2 hv
 have hx : x = .int .u64 (a : Nat) := by cases p; rfl
 have hy : y = .int .u64 (b : Nat) := by cases q; rfl
 subst hx hy
 refine (Tryz.bits_Mul a b ha hb w).mono ?_
 rintro e w' ⟨rfl, rfl⟩
 refine ⟨_, rfl, Below.refl _ _, .tup _ _ _ rfl (fun i hi => ?_)⟩
 match i, hi with
 | 0, _ => exact .int _ _ _
 | 1, _ => exact .int _ _ _
theorem parse32 (s : List UInt8) (u : Nat) (hl : s.length ≤ 1000) (h : Lib.parseUintB 32 s = .ok u) : zk Tryz.prog 183 [.str s, .int .i64 10, .int .i64 32] (.tup [.int .u64 (u : Nat), .nilif]) := by
 refine zk.of_below ⟨Tryz.f183, rfl, by kernel_rfl, rfl⟩ rfl rfl (fun w S vals hG hS hv => ?_)
 obtain ⟨x, y, z, rfl, p, q, r⟩ := vals3 hv
 have hx : x = zFd s := by cases p; rfl
 have hy : y = .int .i64 10 := by cases q; rfl
 have hz : z = .int .i64 32 := by cases r; rfl
 subst hx hy hz
 have hd : (⟨s.toArray⟩ : ByteArray).data.toList = s := by simp
 have hsz : (⟨s.toArray⟩ : ByteArray).size = s.length := by simp [ByteArray.size]
 refine (Tryz.strconv_ParseUint_10_at32_ok ⟨s.toArray⟩ (by rw [hsz]; omega) u (by rw [hd]; exact h) w).mono ?_
 rintro e w' ⟨rfl, hw⟩
 refine ⟨_, rfl, ?_, .tup _ _ _ rfl (fun i hi => ?_)⟩
 · rcases hw with rfl | rfl
   · exact Below.refl _ _
   · exact Lib.bytesWorld_below _ _ _
 · match i, hi with
   | 0, _ => exact .int _ _ _
   | 1, _ => exact .nilif _
theorem join (ls : List (List UInt8)) (sep : List UInt8) (hN : ls.length ≤ 140737488355328) (hj : (Lib.join ls sep).length ≤ 140737488355328) : zk Tryz.prog 207 [.ro (.strs ls) 0 ls.length, .str sep] (.str (Lib.join ls sep)) := by
 refine zk.of_below ⟨Tryz.f207, rfl, by kernel_rfl, rfl⟩ rfl rfl (fun w S vals hG hS hv => ?_)
 obtain ⟨x, y, rfl, a, b⟩ := vals2 hv
 have hy : y = zFd sep := by cases b; rfl
 subst hy
 have hsep : (⟨sep.toArray⟩ : ByteArray).data.toList = sep := by simp
 have hbyte : ∀ l : List UInt8, (⟨l.toArray⟩ : ByteArray).data.toList = l := fun l => by simp
 generalize hn : ls.length = n at a
 cases a with
 | ro0 _ _ _ ad cap =>
   have : ls = [] := List.length_eq_zero_iff.mp hn
   subst this
   refine (Tryz.strings_Join_none ad cap ⟨sep.toArray⟩ w).mono ?_
   rintro e w' ⟨rfl, rfl⟩
   exact ⟨_, rfl, Below.refl _ _, .str _ []⟩
 | ro _ _ _ _ bk o cap val hSb hlen hc hvv h1' =>
   subst hn
   have hxs : (ls.map (fun l => (⟨l.toArray⟩ : ByteArray))).length = ls.length := by simp
   have c := Tryz.strings_Join bk o cap (ls.map (fun l => (⟨l.toArray⟩ : ByteArray))) ⟨sep.toArray⟩ w (fun j x hx => ?_) (hS _ hSb) (by simpa using hN) (by simpa using hlen) ?_
   · rw [hxs] at c
     refine c.mono ?_
     rintro e w' ⟨rfl, hb⟩
     have e2 : ((ls.map (fun l => (⟨l.toArray⟩ : ByteArray))).map (fun x => x.data.toList)) = ls := by rw [List.map_map]; exact (List.map_congr_left (fun x _ => rfl)).trans (List.map_id _)
     rw [e2, hsep]
     exact ⟨_, rfl, hb, .str _ _⟩
   · simp only [List.getElem?_map, Option.map_eq_some_iff] at hx
     obtain ⟨l, hl, rfl⟩ := hx
     have hlt : j < ls.length := (List.getElem?_eq_some_iff.1 hl).1
     have q := hc j 0 hlt (by simp [Cells.sz])
     have v := hvv j 0 hlt (by simp [Cells.sz])
     simp only [Cells.sz, Nat.mul_one, Nat.add_zero] at q
     simp only [Cells.at, Nat.zero_add, List.getD, hl, Option.getD_some] at v
     rw [q]
     generalize val j 0 = z at v
     cases v; rfl
   · have e2 : ((ls.map (fun l => (⟨l.toArray⟩ : ByteArray))).map (fun x => x.data.toList)) = ls := by rw [List.map_map]; exact (List.map_congr_left (fun x _ => rfl)).trans (List.map_id _)
     rw [e2, hsep]; exact hj
end Go.Proofs.YtgmleamhjnlknaaGreatDoor
namespace Go.Proofs.YtgmleamhjnlknaaGreatDoor
open Go.Ax Go.Ax.Bg Go.RowKit
attribute [local irreducible] Ax zAV QOp zV
set_option maxRecDepth 100000
set_option maxHeartbeats 4000000
def zF6 (s p : List UInt8) : Bool := decide (p.length ≤ s.length ∧ s.take p.length = p)
theorem zLm (s p : List UInt8) (hs : s.length ≤ 9223372036854775807) (hp : p.length ≤ 9223372036854775807) : zk Tryz.prog 179 [.str s, .str p] (.bool (zF6 s p)) := by
 refine zV.value0 (zN (P := Tryz.prog) (fn := Tryz.f179) rfl rfl (by kernel_rfl) rfl (fun c hR hfix => ?_)) (fix := fun _ => False) (fun _ h => h) rfl rfl
 repeat (first | refine zD (zF rfl) ?_ | refine zD (zE rfl) ?_ | refine zB ?_ | refine zA ?_ | refine zG ?_ | refine zC rfl ?_ | refine zD (zC2 rfl rfl) ?_ | refine zD (zAl rfl rfl) ?_)
 refine zAH rfl rfl (fun h0 => ?_) (fun h0 => ?_)
 · repeat (first | refine zD (zF rfl) ?_ | refine zD (zE rfl) ?_ | refine zB ?_ | refine zA ?_ | refine zj rfl rfl ?_ | refine zH ?_ | refine zD (zr rfl rfl) ?_ | refine zD (zAl rfl rfl) ?_ | refine zD (zBv rfl rfl) ?_ | refine zD (zBy rfl rfl rfl rfl rfl rfl (by omega)) ?_)
   refine zR hR rfl ?_
   show AV.bool (decide ((List.drop _ s).take _ = p)) = _
   unfold zF6
   congr 1
   rw [decide_eq_decide]
   simp only [Int.toNat_zero, List.drop_zero, Int.toNat_natCast, Nat.sub_zero]
   exact ⟨fun h => ⟨by omega, h⟩, fun h => h.2⟩
 · repeat (first | refine zD (zE rfl) ?_ | refine zB ?_ | refine zA ?_ | refine zp rfl rfl rfl ?_ | refine zH ?_ | refine zD (zr rfl rfl) ?_)
   refine zR hR rfl ?_
   show AV.bool false = _
   unfold zF6
   rw [decide_eq_false]
   exact fun h => h0 (by omega)
theorem zHA (s p : List UInt8) (hs : s.length ≤ 9223372036854775807) (hp : p.length ≤ 9223372036854775807) : zk Tryz.prog 146 [.str s, .str p] (.bool (zF6 s p)) := by
 have hc := zLm s p hs hp
 refine zV.value0 (zN (P := Tryz.prog) (fn := Tryz.f146) rfl rfl (by kernel_rfl) rfl (fun c hR hfix => ?_)) (fix := fun _ => False) (fun _ h => h) rfl rfl
 generalize zF6 s p = b at *
 repeat (first | refine zD (zF rfl) ?_ | refine zD (zE rfl) ?_ | refine zB ?_ | refine zA ?_ | refine zG ?_ | refine zC rfl ?_)
 refine zM rfl rfl rfl hc ?_
 repeat (first | refine zD (zE rfl) ?_ | refine zB ?_ | refine zA ?_ | refine zH ?_)
 exact zR hR rfl rfl
/-- strings.Repeat("0", n), n small. -/
theorem repeat0 (n : Nat) (hn : n ≤ 60) : zk Tryz.prog 205 [.str [48], .int .i64 (n : Nat)] (.str (List.replicate n 48)) := by
 refine zV.value0 (zN (P := Tryz.prog) (fn := Tryz.f205) rfl rfl (by kernel_rfl) rfl (fun c hR hfix => ?_)) (fix := fun _ => False) (fun _ h => h) rfl rfl
 repeat (first | refine zD (zF rfl) ?_ | refine zD (zE rfl) ?_ | refine zB ?_ | refine zA ?_ | refine zG ?_ | refine zC rfl ?_ | refine zT ?_ | refine zD (zA0 rfl rfl) ?_)
 refine zK rfl (fun h0 => ?_) (fun h0 => ?_)
 · have : n = 0 := by omega
   subst this
   repeat (first | refine zD (zE rfl) ?_ | refine zB ?_ | refine zA ?_ | refine zG ?_ | refine zC rfl ?_ | refine zH ?_ | refine zQ ?_ | refine zo ?_)
   exact zR hR rfl rfl
 repeat (first | refine zD (zE rfl) ?_ | refine zB ?_ | refine zA ?_ | refine zG ?_ | refine zC rfl ?_ | refine zD (zA0 rfl rfl) ?_)
 refine zK rfl (fun h1 => ?_) (fun h1 => ?_)
 · have : n = 1 := by omega
   subst this
   repeat (first | refine zD (zF rfl) ?_ | refine zD (zE rfl) ?_ | refine zB ?_ | refine zA ?_ | refine zG ?_ | refine zC rfl ?_ | refine zH ?_ | refine zQ ?_ | refine zo ?_)
   exact zR hR rfl rfl
 repeat (first | refine zD (zF rfl) ?_ | refine zB ?_ | refine zA ?_ | refine zG ?_ | refine zC rfl ?_ | refine ze rfl ?_ | refine zZ ?_ | refine zP ?_ | refine zD (zAQ rfl rfl) ?_ | refine zD (zAl rfl rfl) ?_)
 have hm := mulB 1 n (by omega) (by omega)
 rw [Nat.one_mul, Nat.div_eq_of_lt (by omega), Nat.mod_eq_of_lt (by omega)] at hm
 have p1 : zk Tryz.prog 146 [.str (List.replicate 128 32), .str [48]] (.bool false) := zHA _ _ (by decide) (by decide)
 have p2 : zk Tryz.prog 146 [.str (List.replicate 128 45), .str [48]] (.bool false) := zHA _ _ (by decide) (by decide)
 have p3 : zk Tryz.prog 146 [.str (List.replicate 64 48), .str [48]] (.bool true) := zHA _ _ (by decide) (by decide)
 refine zD (zAX (m := 1) rfl rfl rfl zA2 (by decide)) ?_
 repeat (refine zD (zF rfl) ?_)
 refine zD (zAX (m := n) rfl rfl rfl zA2 (by omega)) ?_
 refine zM rfl rfl rfl hm ?_
 repeat (first | refine zD (zF rfl) ?_ | refine zD (zE rfl) ?_ | refine zB ?_ | refine zA ?_ | refine zG ?_ | refine zC rfl ?_ | refine zj rfl rfl ?_ | refine zD (zBU rfl rfl) ?_ | refine zD (zr rfl rfl) ?_ | refine zD (zz rfl rfl) ?_)
 refine zK rfl (fun h => absurd h (by omega)) (fun h => ?_)
 repeat (first | refine zD (zF rfl) ?_ | refine zA ?_ | refine zG ?_ | refine zC rfl ?_ | refine zP ?_)
 refine zD (zDo (m := n) rfl rfl rfl (by omega)) ?_
 repeat (first | refine zD (zF rfl) ?_ | refine zD (zE rfl) ?_ | refine zB ?_ | refine zA ?_ | refine zG ?_ | refine zC rfl ?_ | refine zf rfl ?_ | refine ze rfl ?_ | refine zT ?_ | refine zP ?_ | refine zD (zA0 rfl rfl) ?_ | refine zD (zIT rfl rfl) ?_ | refine zD (zAl rfl rfl) ?_ | refine zD (zEO rfl rfl rfl (by first | assumption | omega | simp)) ?_)
 refine zAH rfl rfl (fun h3 => ?_) (fun h3 => absurd (show (n : Int) ≤ 128 by omega) h3)
 repeat (first | refine zD (zF rfl) ?_ | refine zj rfl rfl ?_)
 refine zM rfl rfl rfl p1 ?_
 repeat (first | refine zD (zF rfl) ?_ | refine zD (zE rfl) ?_ | refine zB ?_ | refine zA ?_ | refine zG ?_ | refine zC rfl ?_ | refine ze rfl ?_ | refine zD (zIT rfl rfl) ?_ | refine zD (zr rfl rfl) ?_)
 refine zAH rfl rfl (fun h4 => ?_) (fun h4 => absurd (show (n : Int) ≤ 128 by omega) h4)
 repeat (first | refine zD (zF rfl) ?_ | refine zj rfl rfl ?_)
 refine zM rfl rfl rfl p2 ?_
 repeat (first | refine zD (zF rfl) ?_ | refine zD (zE rfl) ?_ | refine zB ?_ | refine zA ?_ | refine zG ?_ | refine zC rfl ?_ | refine ze rfl ?_ | refine zD (zIT rfl rfl) ?_ | refine zD (zr rfl rfl) ?_)
 refine zAH rfl rfl (fun h5 => ?_) (fun h5 => absurd (show (n : Int) ≤ 64 by omega) h5)
 repeat (first | refine zD (zF rfl) ?_ | refine zj rfl rfl ?_)
 refine zM rfl rfl rfl p3 ?_
 repeat (first | refine zD (zF rfl) ?_ | refine zD (zE rfl) ?_ | refine zB ?_ | refine zA ?_ | refine zG ?_ | refine zC rfl ?_ | refine zf rfl ?_ | refine zD (zr rfl rfl) ?_)
 refine zD (zBy rfl rfl rfl rfl rfl rfl (by show (0 : Int) ≤ 0 ∧ (0 : Int) ≤ (n : Nat) ∧ ((n : Nat) : Int) ≤ ((64 : Nat) : Int); omega)) ?_
 repeat (first | refine zD (zE rfl) ?_ | refine zB ?_ | refine zA ?_ | refine zH ?_ | refine zQ ?_ | refine zo ?_)
 refine zR hR rfl ?_
 show AV.str ((List.drop 0 (List.replicate 64 48)).take (n - 0)) = _
 rw [List.drop_zero, Nat.sub_zero, List.take_replicate, Nat.min_eq_left (by omega)]
/-- strings.asciiSet: the digits. -/
def zC5 (k : Nat) : List AV := (List.range 256).map fun j => AV.bool (decide (48 ≤ j ∧ j < 48 + k))
theorem zBj (k : Nat) : (zC5 k).length = 256 := by unfold zC5; simp
theorem zG7 (k j : Nat) (hj : j < 256) : (zC5 k)[j]? = some (AV.bool (decide (48 ≤ j ∧ j < 48 + k))) := by
 unfold zC5
 rw [List.getElem?_map, List.getElem?_range hj]; rfl
theorem setL_set (k : Nat) (hk : k < 10) : (zC5 k).set (48 + k) (.bool true) = zC5 (k + 1) := by
 apply List.ext_getElem?
 intro i
 rcases Nat.lt_or_ge i 256 with hi | hi
 · rw [zG7 (k + 1) i hi]
   by_cases h : i = 48 + k
   · subst h
     rw [List.getElem?_set_self (by rw [zBj]; exact hi)]
     congr 2
     exact (decide_eq_true (by omega)).symm
   · rw [List.getElem?_set_ne (Ne.symm h), zG7 k i hi]
     congr 2
     rw [decide_eq_decide]; omega
 · rw [List.getElem?_eq_none (by rw [List.length_set, zBj]; exact hi), List.getElem?_eq_none (by rw [zBj]; exact hi)]
def digS : List UInt8 := [48, 49, 50, 51, 52, 53, 54, 55, 56, 57]
theorem zLp (k : Nat) (hk : k < 10) : (digS.getD k 0).toNat = 48 + k := by
 have : k = 0 ∨ k = 1 ∨ k = 2 ∨ k = 3 ∨ k = 4 ∨ k = 5 ∨ k = 6 ∨ k = 7 ∨ k = 8 ∨ k = 9 := by omega
 rcases this with rfl | rfl | rfl | rfl | rfl | rfl | rfl | rfl | rfl | rfl <;> rfl
theorem box_all (l : List AV) : (List.range (Cells.box l).sz).map ((Cells.box l).at 0) = l := by
 apply List.ext_getElem?
 intro i
 rcases Nat.lt_or_ge i l.length with h | h
 · rw [List.getElem?_map, List.getElem?_range (by exact h)]
   show some (l.getD i .any) = _
   rw [List.getD, List.getElem?_eq_getElem h]; rfl
 · rw [List.getElem?_eq_none (by simpa [Cells.sz] using h), List.getElem?_eq_none h]
theorem set_ok : zk Tryz.prog 197 [.str digS] (.tup [.agg (zC5 10), .bool true]) := by
 refine zV.value0 (zN (P := Tryz.prog) (fn := Tryz.f197) rfl rfl (by kernel_rfl) rfl (fun c hR hfix => ?_)) (fix := fun _ => False) (fun _ h => h) rfl (by kernel_rfl)
 repeat (first | refine zD (zE rfl) ?_ | refine zB ?_ | refine zA ?_ | refine zG ?_ | refine zC rfl ?_ | refine zT ?_ | refine z8 rfl rfl rfl ?_)
 refine zCo [some ⟨248, .box (zC5 0)⟩] (by kernel_rfl) ?_
 refine zAC (ι := Nat) (fun k => [(0, .str digS), (2, .ptr 0 0 0), (4, .int .i64 (k : Nat))]) (fun k => [some ⟨248, .box (zC5 k)⟩]) (fun k => k ≤ 10) (fun k => 10 - k) 0 ⟨⟨rfl, rfl, rfl, trivial⟩, rfl, by omega⟩ ?_
 rintro k hk
 have hdl : digS.length = 10 := rfl
 repeat (first | refine zD (zF rfl) ?_ | refine zB ?_ | refine zA ?_ | refine zG ?_ | refine zC rfl ?_ | refine zD (zAQ rfl rfl) ?_ | refine zD (zAl rfl rfl) ?_)
 refine zK rfl (fun h1 => ?_) (fun h1 => ?_)
 · have hk2 : k < 10 := by omega
   repeat (first | refine zD (zF rfl) ?_ | refine zD (zE rfl) ?_ | refine zB ?_ | refine zA ?_ | refine zG ?_ | refine zC rfl ?_ | refine zT ?_ | refine zP ?_ | refine zD (zC2 rfl rfl) ?_ | refine zD (zEO rfl rfl rfl (by first | assumption | omega | simp)) ?_)
   refine zK rfl (fun h2 => absurd h2 (by rw [Int.toNat_natCast, zLp k hk2]; omega)) (fun h2 => ?_)
   repeat (first | refine zD (zF rfl) ?_ | refine zA ?_ | refine zC rfl ?_ | refine zP ?_)
   refine zU 18 (.int .u8 (48 + k : Nat)) rfl (AEq.of_eq (by rw [Int.toNat_natCast, zLp k hk2])) ?_
   refine zD (zJH (m := ((48 + k : Nat) : Int)) (jx := 48 + k) rfl rfl rfl rfl (by rw [Int.toNat_natCast, Nat.zero_add]) (by omega)) ?_
   refine zAr rfl rfl rfl rfl rfl (by rw [show (Cells.box (zC5 k)).sz = 256 from zBj k]; exact Nat.ble_eq.symm ▸ (by omega : 48 + k + 1 ≤ 256)) rfl Nat.zero_lt_one ?_
   repeat (first | refine zD (zF rfl) ?_ | refine zD (zE rfl) ?_ | refine zB ?_ | refine zA ?_ | refine zC rfl ?_ | refine zZ ?_ | refine zD (zAK rfl rfl (by omega)) ?_)
   refine zd ⟨k + 1, by omega, by omega, ⟨rfl, rfl, rfl, trivial⟩, ?_⟩
   show ([some ⟨_, .box ((zC5 k).set (48 + k) (.bool true))⟩] : zg) = _
   rw [setL_set k hk2]
 · have hke : k = 10 := by omega
   subst hke
   repeat (first | refine zA ?_ | refine zG ?_ | refine zC rfl ?_ | refine zx ?_ | refine zW ?_ | refine zX ?_ | refine zi ?_)
   refine zD (zH9 (ob := ⟨248, .box (zC5 10)⟩) rfl rfl rfl (zBj 10).symm rfl rfl (box_all _) Nat.zero_lt_one) ?_
   refine zl (c' := .box (zC5 10)) rfl rfl (by rw [show (Cells.box (zC5 10)).sz = 256 from zBj 10]; rfl) rfl (by rw [show (Cells.box (zC5 10)).sz = 256 from zBj 10]; exact zBj 10) Nat.zero_lt_one rfl rfl (fun i' j' hi' hj' => ?_) ?_
   · rw [if_pos (Nat.lt_one_iff.1 hi')]; rfl
   repeat (first | refine zD (zE rfl) ?_ | refine zB ?_ | refine zA ?_ | refine zH ?_)
   exact zR hR rfl rfl
theorem zGo (ch : UInt8) : zk Tryz.prog 216 [.rp (.box (zC5 10)) 0 0, .int .u8 (ch.toNat : Nat)] (.bool (dg ch)) := by
 have hlt := ch.toNat_lt
 have hat := zG7 10 ch.toNat (by simpa using hlt)
 refine zV.value0 (zN (P := Tryz.prog) (fn := Tryz.f216) rfl rfl (by kernel_rfl) rfl (fun c hR hfix => ?_)) (fix := fun _ => False) (fun _ h => h) rfl rfl
 repeat (first | refine zD (zF rfl) ?_ | refine zD (zE rfl) ?_ | refine zB ?_ | refine zA ?_ | refine zG ?_ | refine zC rfl ?_ | refine zD (zIC rfl) ?_)
 refine zD (zJ8 (m := ((ch.toNat : Nat) : Int)) (jx := ch.toNat) rfl rfl rfl rfl (by rw [Int.toNat_natCast, Nat.zero_add]) (by omega)) ?_
 refine zD (zDa rfl rfl rfl hat) ?_
 repeat (first | refine zD (zE rfl) ?_ | refine zB ?_ | refine zA ?_ | refine zH ?_)
 exact zR hR rfl rfl
theorem right_ok (s : List UInt8) (hs : s.length ≤ 9223372036854775807) : zk Tryz.prog 199 [.str s, .rp (.box (zC5 10)) 0 0] (.str (trR s)) := by
 refine zV.value0 (zN (P := Tryz.prog) (fn := Tryz.f199) rfl rfl (by kernel_rfl) rfl (fun c hR hfix => ?_)) (fix := fun _ => False) (fun _ h => h) rfl rfl
 repeat (first | refine zD (zE rfl) ?_ | refine zB ?_ | refine zA ?_ | refine zG ?_ | refine zC rfl ?_ | refine zT ?_)
 refine zAC (ι := Nat) (fun k => [(0, .str (s.take k)), (1, .rp (.box (zC5 10)) 0 0)]) (fun _ => []) (fun k => k ≤ s.length ∧ (s.drop k).all dg = true) (fun k => k) s.length ⟨⟨by rw [List.take_length]; rfl, rfl, trivial⟩, rfl, Nat.le_refl _, by simp⟩ ?_
 rintro k ⟨hk, hd⟩
 have hlen : (s.take k).length = k := by simp; omega
 have hof := trR_of hk hd
 repeat (first | refine zD (zF rfl) ?_ | refine zB ?_ | refine zA ?_ | refine zG ?_ | refine zC rfl ?_ | refine zD (zBU rfl rfl) ?_ | refine zD (zAl rfl rfl) ?_)
 refine zK rfl (fun h1 => ?_) (fun h1 => ?_)
 · have hk1 : 0 < k := by omega
   have hg : (s.take k).getD (k - 1) 0 = s.getD (k - 1) 0 := by
     simp only [List.getD, List.getElem?_take, show k - 1 < k by omega, if_true]
   have e1 : ((k : Int) - 1).toNat = k - 1 := by omega
   have hc := zGo (s.getD (k - 1) 0)
   repeat (first | refine zD (zF rfl) ?_ | refine zA ?_ | refine zG ?_ | refine zC rfl ?_ | refine zT ?_ | refine zP ?_ | refine zD (zAl rfl rfl) ?_ | refine zD (zBa rfl rfl (by omega)) ?_ | refine zD (zEO rfl rfl rfl (by first | assumption | omega | simp)) ?_)
   refine zU 13 (.int .u8 ((s.getD (k - 1) 0).toNat : Nat)) rfl (AEq.of_eq (by rw [hlen, e1, hg])) ?_
   refine zM rfl rfl rfl hc ?_
   repeat (first | refine zB ?_ | refine zA ?_ | refine zD (zAw rfl) ?_)
   refine zCv rfl (fun h2 => ?_) (fun h2 => ?_)
   · have h3 : dg (s.getD (k - 1) 0) = false := by simpa using h2
     repeat (first | refine zD (zF rfl) ?_ | refine zD (zE rfl) ?_ | refine zB ?_ | refine zA ?_ | refine zG ?_ | refine zC rfl ?_ | refine zx ?_ | refine zW ?_ | refine zX ?_ | refine zi ?_ | refine zHM rfl ?_ | refine zH ?_)
     refine zR hR rfl ?_
     rw [hof (.inr h3)]; rfl
   · have h3 : dg (s.getD (k - 1) 0) = true := by simpa using h2
     repeat (first | refine zD (zF rfl) ?_ | refine zA ?_ | refine zC rfl ?_ | refine zP ?_ | refine zD (zAl rfl rfl) ?_ | refine zD (zBa rfl rfl (by omega)) ?_)
     refine zD (zBy rfl rfl rfl rfl rfl rfl (by omega)) ?_
     repeat (first | refine zD (zE rfl) ?_ | refine zB ?_ | refine zZ ?_)
     refine zd ⟨k - 1, ⟨by omega, ?_⟩, by omega, ⟨?_, rfl, trivial⟩, rfl⟩
     · rw [zBm s 0 (k - 1) (by omega), show k - 1 + 1 = k by omega, List.all_cons, h3, hd]; rfl
     · show some (AV.str ((List.drop 0 (s.take k)).take ((((s.take k).length : Int) - 1).toNat - 0))) = _
       rw [List.drop_zero, hlen, e1, Nat.sub_zero, List.take_take, Nat.min_eq_left (by omega)]
 · have hk0 : k = 0 := by omega
   subst hk0
   repeat (first | refine zD (zF rfl) ?_ | refine zD (zE rfl) ?_ | refine zB ?_ | refine zA ?_ | refine zG ?_ | refine zC rfl ?_ | refine zx ?_ | refine zW ?_ | refine zX ?_ | refine zi ?_ | refine zH ?_)
   refine zR hR rfl ?_
   rw [hof (.inl rfl)]; rfl
theorem left_ok (s : List UInt8) (hs : s.length ≤ 9223372036854775807) : zk Tryz.prog 198 [.str s, .rp (.box (zC5 10)) 0 0] (.str (trL s)) := by
 refine zV.value0 (zN (P := Tryz.prog) (fn := Tryz.f198) rfl rfl (by kernel_rfl) rfl (fun c hR hfix => ?_)) (fix := fun _ => False) (fun _ h => h) rfl rfl
 repeat (first | refine zD (zE rfl) ?_ | refine zB ?_ | refine zA ?_ | refine zG ?_ | refine zC rfl ?_ | refine zT ?_)
 refine zAC (ι := Nat) (fun k => [(0, .str (s.drop k)), (1, .rp (.box (zC5 10)) 0 0)]) (fun _ => []) (fun k => k ≤ s.length ∧ (s.take k).all dg = true) (fun k => s.length - k) 0 ⟨⟨by rw [List.drop_zero]; rfl, rfl, trivial⟩, rfl, Nat.zero_le _, by simp⟩ ?_
 rintro k ⟨hk, hd⟩
 have hlen : (s.drop k).length = s.length - k := by simp
 have hof := trL_of hd
 repeat (first | refine zD (zF rfl) ?_ | refine zB ?_ | refine zA ?_ | refine zG ?_ | refine zC rfl ?_ | refine zD (zBU rfl rfl) ?_ | refine zD (zAl rfl rfl) ?_)
 refine zK rfl (fun h1 => ?_) (fun h1 => ?_)
 · have hk1 : k < s.length := by omega
   have hg : (s.drop k).getD 0 0 = s.getD k 0 := by simp [List.getD]
   have hc := zGo (s.getD k 0)
   repeat (first | refine zD (zF rfl) ?_ | refine zA ?_ | refine zG ?_ | refine zC rfl ?_ | refine zT ?_ | refine zP ?_ | refine zD (zEO rfl rfl rfl (by first | assumption | omega | simp)) ?_)
   refine zU 10 (.int .u8 ((s.getD k 0).toNat : Nat)) rfl (AEq.of_eq (by rw [Int.toNat_zero, hg])) ?_
   refine zM rfl rfl rfl hc ?_
   repeat (first | refine zB ?_ | refine zA ?_ | refine zD (zAw rfl) ?_)
   refine zCv rfl (fun h2 => ?_) (fun h2 => ?_)
   · have h3 : dg (s.getD k 0) = false := by simpa using h2
     repeat (first | refine zD (zF rfl) ?_ | refine zD (zE rfl) ?_ | refine zB ?_ | refine zA ?_ | refine zG ?_ | refine zC rfl ?_ | refine zx ?_ | refine zW ?_ | refine zX ?_ | refine zi ?_ | refine zHM rfl ?_ | refine zH ?_)
     refine zR hR rfl ?_
     rw [hof (.inr h3)]; rfl
   · have h3 : dg (s.getD k 0) = true := by simpa using h2
     repeat (first | refine zD (zF rfl) ?_ | refine zA ?_ | refine zC rfl ?_ | refine zP ?_)
     refine zD (zBy rfl rfl rfl rfl rfl rfl (by omega)) ?_
     repeat (first | refine zD (zE rfl) ?_ | refine zB ?_ | refine zZ ?_)
     refine zd ⟨k + 1, ⟨by omega, ?_⟩, by omega, ⟨?_, rfl, trivial⟩, rfl⟩
     · rw [zAU s 0 k hk1, List.all_append, hd]; simp only [List.all_cons, List.all_nil, h3, Bool.and_true]
     · show some (AV.str ((List.drop 1 (s.drop k)).take ((s.drop k).length - 1))) = _
       rw [List.drop_drop, List.take_of_length_le (by simp; omega)]
 · have hk0 : s.length ≤ k := by omega
   repeat (first | refine zD (zF rfl) ?_ | refine zD (zE rfl) ?_ | refine zB ?_ | refine zA ?_ | refine zG ?_ | refine zC rfl ?_ | refine zx ?_ | refine zW ?_ | refine zX ?_ | refine zi ?_ | refine zH ?_)
   refine zR hR rfl ?_
   rw [hof (.inl hk0)]; rfl
theorem trim_ok (s : List UInt8) (hs : s.length ≤ 9223372036854775807) : zk Tryz.prog 182 [.str s, .str digS] (.str (trL (trR s))) := by
 have h1 := set_ok
 have h2 := right_ok s hs
 have hle : (trR s).length ≤ s.length := by
   unfold trR
   rw [List.length_reverse]
   have := (List.dropWhile_sublist (p := dg) (l := s.reverse)).length_le
   simpa using this
 have h3 := left_ok (trR s) (by omega)
 refine zV.value0 (zN (P := Tryz.prog) (fn := Tryz.f182) rfl rfl (by kernel_rfl) rfl (fun c hR hfix => ?_)) (fix := fun _ => False) (fun _ h => h) rfl rfl
 have hl := zBj 10
 repeat (first | refine zD (zF rfl) ?_ | refine zD (zE rfl) ?_ | refine zB ?_ | refine zA ?_ | refine zG ?_ | refine zC rfl ?_ | refine zD (zBv rfl rfl) ?_)
 by_cases h0 : s = []
 · subst h0
   repeat (first | refine zD (zF rfl) ?_ | refine zD (zE rfl) ?_ | refine zB ?_ | refine zA ?_ | refine zG ?_ | refine zC rfl ?_ | refine zp rfl rfl rfl ?_ | refine zf rfl ?_ | refine zH ?_ | refine zQ ?_ | refine zD (zr rfl rfl) ?_)
   exact zR hR rfl rfl
 rw [show decide (s = _) = false from decide_eq_false h0]
 repeat (first | refine zD (zF rfl) ?_ | refine zB ?_ | refine zA ?_ | refine zG ?_ | refine zC rfl ?_ | refine zj rfl rfl ?_ | refine zp rfl rfl rfl ?_ | refine ze rfl ?_ | refine zP ?_ | refine zD (zA0 rfl rfl) ?_ | refine zD (zr rfl rfl) ?_ | refine zD (zAl rfl rfl) ?_ | refine zD (zBv rfl rfl) ?_)
 refine zM rfl rfl rfl h1 ?_
 repeat (first | refine zD (zF rfl) ?_ | refine zD (zz rfl rfl) ?_ | refine z8 rfl rfl rfl ?_)
 refine zl (c' := .box (zC5 10)) rfl rfl rfl rfl (zBj 10) Nat.zero_lt_one rfl (zBj 10) (fun i' j' hi' hj' => ?_) ?_
 · rw [if_pos (Nat.lt_one_iff.1 hi')]; rfl
 repeat (first | refine zD (zF rfl) ?_ | refine zD (zE rfl) ?_ | refine zB ?_ | refine zA ?_ | refine zG ?_ | refine zC rfl ?_ | refine zf rfl ?_)
 have hrl : ∀ (h : Nat) (o : AObj), ([some ⟨248, .box (zC5 10)⟩] : zg)[h]? = some (some o) → zAO o.c := zGp (fun i j hi hj => by
   show noRef ((zC5 10).getD j .any) = true
   rw [List.getD, zG7 10 j (by have : j < (zC5 10).length := hj; rwa [zBj] at this)]; rfl)
 refine zAx [some ⟨248, .box (zC5 10)⟩] rfl ?_
 refine zEs rfl rfl rfl rfl h2 hrl ⟨trivial, fun o ho => by simp at ho; subst ho; exact Nat.zero_lt_one, trivial⟩ rfl rfl rfl ?_
 skip
 refine zEs rfl rfl rfl rfl h3 hrl ⟨trivial, fun o ho => by simp at ho; subst ho; exact Nat.zero_lt_one, trivial⟩ rfl rfl rfl ?_
 repeat (first | refine zD (zE rfl) ?_ | refine zB ?_ | refine zA ?_ | refine zH ?_ | refine zQ ?_)
 exact zR hR rfl rfl
end Go.Proofs.YtgmleamhjnlknaaGreatDoor
namespace Go.Proofs.YtgmleamhjnlknaaGreatDoor
open Go.Ax Go.Ax.Bg Go.RowKit
open Go.Ax.Tb (zBF zCT zBH zBZ)
attribute [local irreducible] Ax zAV QOp zV
set_option maxRecDepth 100000
set_option maxHeartbeats 4000000
theorem zLz {i : Nat} (h : i ≤ 9) : 10 ^ i ≤ 1000000000 := by
 have := Nat.pow_le_pow_right (show 0 < 10 by decide) h
 exact Nat.le_trans this (by decide)
theorem zG8 (S : List UInt8) (hd : ∀ c ∈ S, zBF c) (hl : S.length ≤ 1000000) : zk Tryz.prog 151 [.str S] (zAL (zAc 0 S)) := by
 refine zV.value0 (zN (P := Tryz.prog) (fn := Tryz.f151) rfl rfl (by kernel_rfl) rfl (fun c hR hfix => ?_)) (fix := fun _ => False) (fun _ h => h) rfl rfl
 repeat (first | refine zD (zE rfl) ?_ | refine zB ?_ | refine zA ?_ | refine zG ?_ | refine zC rfl ?_)
 refine zAv 3 (zAL 0) rfl AEq.natNil ?_
 refine zT ?_
 refine zAC (ι := Nat × List UInt8) (fun p => [(0, .str p.2), (3, zAL p.1)]) (fun _ => []) (fun p => p.2.length ≤ S.length ∧ (∀ c ∈ p.2, zBF c) ∧ zAc p.1 p.2 = zAc 0 S ∧ p.1 < 10 ^ (S.length - p.2.length)) (fun p => p.2.length) (0, S) ⟨⟨rfl, rfl, trivial⟩, rfl, Nat.le_refl _, hd, rfl, by simp⟩ ?_
 rintro ⟨v, s⟩ ⟨h1, h2, h3, h4⟩
 simp only at *
 repeat (first | refine zD (zF rfl) ?_ | refine zB ?_ | refine zA ?_ | refine zG ?_ | refine zC rfl ?_ | refine zD (zBU rfl rfl) ?_ | refine zD (zAl rfl rfl) ?_)
 refine zK rfl (fun h5 => ?_) (fun h5 => ?_)
 · have hs0 : s ≠ [] := by rintro rfl; simp at h5
   obtain ⟨k, hk, hk1, hk9, hks⟩ : ∃ k : Nat, (if (9 : Int) < (s.length : Nat) then (9 : Int) else (s.length : Nat)) = (k : Int) ∧ 1 ≤ k ∧ k ≤ 9 ∧ k ≤ s.length := by
     have : 0 < s.length := List.length_pos_iff.2 hs0
     by_cases hz : (9 : Int) < (s.length : Nat)
     · exact ⟨9, by rw [if_pos hz]; rfl, by omega, by omega, by omega⟩
     · exact ⟨s.length, by rw [if_neg hz], by omega, by omega, Nat.le_refl _⟩
   have ht0 : s.take k ≠ [] := by
     intro e
     have := congrArg List.length e
     rw [List.length_take, Nat.min_eq_left hks] at this
     simp at this; omega
   have htl : (s.take k).length = k := by rw [List.length_take, Nat.min_eq_left hks]
   obtain ⟨hp, hplt⟩ := zFM ht0 (fun c hc => h2 c (List.mem_of_mem_take hc)) (by omega)
   have hp32 := parse32 (s.take k) _ (by omega) hp
   have hdv : zAc (v * 10 ^ k + zAc 0 (s.take k)) (s.drop k) = zAc 0 S := by
     rw [← h3]
     conv => rhs; rw [← List.take_append_drop k s]
     rw [zFJ, zEx (s.take k) v, htl]
   have hxlt := zF4 (l := s.take k) (fun c hc => h2 c (List.mem_of_mem_take hc))
   rw [htl] at hxlt
   have hvn : v * 10 ^ k + zAc 0 (s.take k) < 10 ^ (S.length - (s.drop k).length) := by
     rw [List.length_drop, show S.length - (s.length - k) = (S.length - s.length) + k by omega, Nat.pow_add]
     have : (v + 1) * 10 ^ k ≤ 10 ^ (S.length - s.length) * 10 ^ k := Nat.mul_le_mul_right _ h4
     rw [Nat.add_mul] at this
     omega
   obtain ⟨x, hx⟩ : ∃ x, zAc 0 (s.take k) = x := ⟨_, rfl⟩
   rw [hx] at hplt hp32 hdv hvn
   have hvl : (zh v).length ≤ S.length - s.length := zAj (Nat.lt_of_lt_of_le h4 (Nat.pow_le_pow_left (by decide) _))
   have hma := zMP (zh v) (10 ^ k) x (zAW v) (by omega) (by have := zLz hk9; omega) (by omega)
   rw [zAG] at hma
   repeat (first | refine zD (zF rfl) ?_ | refine zD (zE rfl) ?_ | refine zB ?_ | refine zA ?_ | refine zG ?_ | refine zC rfl ?_ | refine zT ?_ | refine zP ?_ | refine zD (zAl rfl rfl) ?_ | refine zD (q_min rfl rfl) ?_ | refine zD (zBy rfl rfl rfl rfl rfl rfl (by omega)) ?_)
   rw [hk]
   refine zU 17 (.str (s.take k)) rfl (AEq.of_eq (by
     show AV.str ((List.drop 0 s).take (k - 0)) = _
     rw [List.drop_zero, Nat.sub_zero])) ?_
   refine zM rfl rfl rfl hp32 ?_
   repeat (first | refine zD (zF rfl) ?_ | refine zD (zE rfl) ?_ | refine zB ?_ | refine zA ?_ | refine zG ?_ | refine zC rfl ?_ | refine zT ?_ | refine zD (zz rfl rfl) ?_)
   refine zAC (ι := Nat) (fun i => [(0, .str s), (3, zAL v), (4, .int .i64 (k : Nat)), (5, .int .u64 (x : Nat)), (7, .int .u32 (10 ^ i : Nat)), (21, .int .i64 (k : Nat)), (22, .int .i64 (i : Nat))]) (fun _ => []) (fun i => i ≤ k) (fun i => k - i) 0 ⟨⟨rfl, rfl, rfl, rfl, rfl, rfl, rfl, trivial⟩, rfl, Nat.zero_le _⟩ ?_
   rintro i hi
   repeat (first | refine zB ?_ | refine zA ?_ | refine zG ?_ | refine zC rfl ?_ | refine zD (zAQ rfl rfl) ?_)
   refine zK rfl (fun h6 => ?_) (fun h6 => ?_)
   · have hpw := zLz (show i + 1 ≤ 9 by omega)
     rw [Nat.pow_succ] at hpw
     repeat (first | refine zD (zF rfl) ?_ | refine zA ?_ | refine zG ?_ | refine zC rfl ?_ | refine zT ?_ | refine zP ?_)
     refine zD (zGW (m := 10 ^ i) (n := 10) rfl rfl zDm (by omega)) ?_
     repeat (first | refine zD (zF rfl) ?_ | refine zD (zE rfl) ?_ | refine zB ?_ | refine zA ?_ | refine zC rfl ?_ | refine zZ ?_ | refine zD (zAK rfl rfl (by omega)) ?_)
     exact zd ⟨i + 1, by omega, by omega, ⟨rfl, rfl, rfl, rfl, rfl, rfl, rfl, trivial⟩, rfl⟩
   · have hie : i = k := by omega
     subst hie
     repeat (first | refine zD (zF rfl) ?_ | refine zA ?_ | refine zG ?_ | refine zC rfl ?_ | refine zx ?_ | refine zW ?_ | refine zX ?_ | refine zi ?_)
     refine zD (zAX (m := x) rfl rfl rfl zDm (by omega)) ?_
     refine zM rfl rfl rfl hma ?_
     repeat (first | refine zD (zF rfl) ?_ | refine zD (zE rfl) ?_ | refine zB ?_ | refine zA ?_ | refine zC rfl ?_ | refine zZ ?_ | refine zD (zBy rfl rfl rfl rfl rfl rfl (by omega)) ?_)
     refine zd ⟨(v * 10 ^ i + x, s.drop i), ⟨by simp only [List.length_drop]; omega, fun c hc => h2 c (List.mem_of_mem_drop hc), hdv, hvn⟩, by simp only [List.length_drop]; omega, ⟨?_, rfl, trivial⟩, rfl⟩
     show some (AV.str ((List.drop i s).take (s.length - i))) = _
     rw [List.take_of_length_le (by simp)]
 · have hs0 : s = [] := by
     rcases s with _ | ⟨x, r⟩
     · rfl
     · exact absurd (by simp) h5
   subst hs0
   repeat (first | refine zD (zF rfl) ?_ | refine zD (zE rfl) ?_ | refine zB ?_ | refine zA ?_ | refine zG ?_ | refine zC rfl ?_ | refine zx ?_ | refine zW ?_ | refine zX ?_ | refine zi ?_ | refine zH ?_)
   refine zR hR rfl ?_
   rw [← h3]; rfl
theorem zMH : zk Tryz.prog 185 [zAL 0] (.str (Lib.decDigits 0)) := by
 refine zV.value0 (zN (P := Tryz.prog) (fn := Tryz.f185) rfl rfl (by kernel_rfl) rfl (fun c hR hfix => ?_)) (fix := fun _ => False) (fun _ h => h) rfl rfl
 have en : zAL 0 = .ro (.ints .u32 []) 0 0 := by unfold zAL; rw [zBK]; rfl
 rw [en]
 repeat (first | refine zD (zF rfl) ?_ | refine zD (zE rfl) ?_ | refine zB ?_ | refine zA ?_ | refine zG ?_ | refine zC rfl ?_ | refine zf rfl ?_ | refine zH ?_ | refine zQ ?_ | refine zD (zA0 rfl rfl) ?_ | refine zD (zw rfl rfl rfl) ?_)
 refine zR hR rfl ?_
 rw [Lib.decDigits_one (by decide)]; rfl
theorem zCR {n L : Nat} (h : (zh n).length ≤ L) (hL : 1 ≤ L) : (Lib.decDigits n).length ≤ 10 * L := by
 have h1 := zAp (zAW n)
 rw [zAG] at h1
 have h2 : B ^ (zh n).length ≤ B ^ L := Nat.pow_le_pow_right (by decide) h
 have h3 : B ^ L ≤ (10 ^ 10) ^ L := Nat.pow_le_pow_left (by decide) L
 rw [← Nat.pow_mul] at h3
 exact zCs (by omega) (by omega)
theorem zG9 (n : Nat) (h : (zh n).length ≤ 1000000) : zk Tryz.prog 185 [zAL n] (.str (Lib.decDigits n)) := by
 rcases Nat.eq_zero_or_pos n with h0 | h0
 · subst h0; exact zMH
 have hdl := zCR h (by decide)
 have hn0 : 0 < (zh n).length := zBc.2 (by omega)
 refine zV.value0 (zN (P := Tryz.prog) (fn := Tryz.f185) rfl rfl (by kernel_rfl) rfl (fun c hR hfix => ?_)) (fix := fun _ => False) (fun _ h => h) rfl rfl
 unfold zAL
 repeat (first | refine zD (zF rfl) ?_ | refine zD (zE rfl) ?_ | refine zB ?_ | refine zA ?_ | refine zG ?_ | refine zC rfl ?_ | refine zD (zA0 rfl rfl) ?_ | refine zD (zw rfl rfl rfl) ?_)
 refine zK rfl (fun q => absurd q (by omega)) (fun q => ?_)
 repeat (first | refine zD (zE rfl) ?_ | refine zB ?_ | refine zA ?_ | refine zG ?_ | refine zC rfl ?_ | refine zP ?_)
 refine zBn 3 ⟨9, .strs []⟩ rfl rfl ?_
 refine zT ?_
 refine zAC (ι := Nat × List (List UInt8)) (fun p => [(0, zAL p.1), (3, .sl 0 0 p.2.length)]) (fun p => [some ⟨9, .strs p.2⟩]) (fun p => (zh p.1).length ≤ 1000000 ∧ p.2.length ≤ p.2.reverse.flatten.length ∧ (if p.1 = 0 then Lib.decDigits n = p.2.reverse.flatten else Lib.decDigits n = Lib.decDigits p.1 ++ p.2.reverse.flatten)) (fun p => p.1) (n, [])
   ⟨⟨rfl, rfl, trivial⟩, rfl, h, by simp, by rw [if_neg (by simp only; omega)]; simp⟩ ?_
 rintro ⟨m, ps⟩ ⟨h1, h2, h3⟩
 simp only at *
 have hpos : 0 < (zh m).length ↔ m ≠ 0 := zBc
 have hds := zGr (zh m) 1000000000 (zAW m) (by omega) (by decide)
 rw [zAG] at hds
 have hflen : ps.reverse.flatten.length ≤ 10000000 := by
   have e : ps.reverse.flatten.length ≤ (Lib.decDigits n).length := by
     split at h3
     · rw [h3]; exact Nat.le_refl _
     · rw [h3, List.length_append]; omega
   omega
 have en : zAL m = .ro (.ints .u32 (zh m)) 0 (zh m).length := rfl
 rw [en]
 repeat (first | refine zD (zF rfl) ?_ | refine zB ?_ | refine zA ?_ | refine zG ?_ | refine zC rfl ?_ | refine zD (zBU rfl rfl) ?_ | refine zD (zw rfl rfl rfl) ?_)
 refine zK rfl (fun h4 => ?_) (fun h4 => ?_)
 · have hm0 : m ≠ 0 := hpos.1 (by omega)
   rw [if_neg hm0] at h3
   have hr : m % 1000000000 < 1000000000 := Nat.mod_lt _ (by decide)
   have hlt : m / 1000000000 < m := Nat.div_lt_self (by omega) (by decide)
   have hit := itoaN (m % 1000000000) (by omega)
   have hpos2 : 0 < (zh (m / 1000000000)).length ↔ m / 1000000000 ≠ 0 := zBc
   have hlen2 := zD6 hlt h1
   have hrl : (Lib.decDigits (m % 1000000000)).length ≤ 9 := zCs (by decide) (by have e9 : (10 : Nat) ^ 9 = 1000000000 := by decide
                                                                                 rw [e9]; exact hr)
   have hrp := repeat0 (9 - (Lib.decDigits (m % 1000000000)).length) (by omega)
   obtain ⟨t, ht0, htl, htp, htn⟩ : ∃ t : List UInt8, t ≠ [] ∧ t.length ≤ 9 ∧ (m / 1000000000 ≠ 0 → t = List.replicate (9 - (Lib.decDigits (m % 1000000000)).length) 48 ++ Lib.decDigits (m % 1000000000)) ∧ (m / 1000000000 = 0 → t = Lib.decDigits (m % 1000000000)) := by
     by_cases z : m / 1000000000 = 0
     · exact ⟨_, zBZ _, hrl, fun h => absurd z h, fun _ => rfl⟩
     · refine ⟨_, ?_, ?_, fun _ => rfl, fun h => absurd h z⟩
       · simp [zBZ]
       · simp; omega
   have hsplit : m / 1000000000 ≠ 0 → Lib.decDigits m = Lib.decDigits (m / 1000000000) ++ t := fun z => by
     have e9 : (10 : Nat) ^ 9 = 1000000000 := by decide
     have hs := zJE (n := m) (k := 9) (by decide) (by rw [e9]; omega)
     rw [e9] at hs
     rw [hs, htp z]; rfl
   have hone : m / 1000000000 = 0 → Lib.decDigits m = t := fun z => by
     rw [htn z]
     congr 1
     have := Nat.div_add_mod m 1000000000
     omega
   have hnew : (if m / 1000000000 = 0 then Lib.decDigits n = (ps ++ [t]).reverse.flatten else Lib.decDigits n = Lib.decDigits (m / 1000000000) ++ (ps ++ [t]).reverse.flatten) := by
     rw [List.reverse_append, List.reverse_singleton, List.singleton_append, List.flatten_cons]
     split
     · rename_i z; rw [h3, hone z]
     · rename_i z; rw [h3, hsplit z, List.append_assoc]
   obtain ⟨r, hrr⟩ : ∃ r, m % 1000000000 = r := ⟨_, rfl⟩
   obtain ⟨d, hdd⟩ : ∃ d, m / 1000000000 = d := ⟨_, rfl⟩
   simp only [hrr, hdd] at *
   repeat (first | refine zD (zF rfl) ?_ | refine zD (zE rfl) ?_ | refine zB ?_ | refine zA ?_ | refine zG ?_ | refine zC rfl ?_ | refine zT ?_ | refine zP ?_)
   refine zM rfl rfl rfl hds ?_
   repeat (first | refine zD (zF rfl) ?_ | refine zD (zE rfl) ?_ | refine zB ?_ | refine zA ?_ | refine zG ?_ | refine zC rfl ?_ | refine zD (zz rfl rfl) ?_)
   refine zD (zDo (m := r) rfl rfl rfl (by omega)) ?_
   refine zM rfl rfl rfl hit ?_
   have en2 : zAL d = .ro (.ints .u32 (zh d)) 0 (zh d).length := rfl
   rw [en2]
   repeat (first | refine zD (zF rfl) ?_ | refine zD (zE rfl) ?_ | refine zB ?_ | refine zA ?_ | refine zG ?_ | refine zC rfl ?_ | refine zD (zBU rfl rfl) ?_ | refine zD (zw rfl rfl rfl) ?_)
   apply zAu (H := [some ⟨9, .strs ps⟩]) [(0, zAL d), (3, .sl 0 0 ps.length), (5, .str t)]
   · intro fin
     refine zK rfl (fun q2 => ?_) (fun q2 => ?_)
     · have hd0 : d ≠ 0 := hpos2.1 (by omega)
       repeat (first | refine zD (zF rfl) ?_ | refine zC rfl ?_ | refine zD (zAl rfl rfl) ?_ | refine zD (zBa rfl rfl (by omega)) ?_)
       refine zU 25 (.int .i64 (9 - (Lib.decDigits r).length : Nat)) rfl (AEq.of_eq (by congr 1; omega)) ?_
       refine zM rfl rfl rfl hrp ?_
       repeat (refine zD (zF rfl) ?_)
       refine zD (zDc rfl rfl (by simp; omega)) ?_
       repeat (first | refine zD (zE rfl) ?_ | refine zB ?_ | refine zA ?_)
       exact fin _ ⟨rfl, rfl, by rw [htp hd0]; rfl, trivial⟩
     · have hd0 : d = 0 := by
         rcases Nat.eq_zero_or_pos d with z | z
         · exact z
         · exact absurd (by have := hpos2.2 (by omega); omega) q2
       repeat (first | refine zA ?_ | refine zP ?_)
       exact fin _ ⟨rfl, rfl, by rw [htn hd0]; rfl, trivial⟩
   repeat (first | refine zD (zF rfl) ?_ | refine zC rfl ?_ | refine zS rfl rfl rfl rfl rfl rfl rfl rfl rfl rfl rfl ?_)
   refine zAE rfl rfl rfl rfl rfl rfl rfl rfl rfl rfl rfl rfl (Nat.le_refl 1) rfl (by show (ps.length + 1) * 16 ≤ _ ∧ _; omega) (fun i j _ _ => rfl) (by rw [hfix]; exact fun h => h) ?_
   repeat (first | refine zD (zE rfl) ?_ | refine zB ?_ | refine zZ ?_)
   refine zd ⟨(d, ps ++ [t]), ⟨hlen2, ?_, hnew⟩, hlt, ⟨rfl, ?_, trivial⟩, rfl⟩
   · simp only [List.reverse_append, List.reverse_singleton, List.singleton_append, List.flatten_cons, List.length_append, List.length_singleton]
     have := List.length_pos_iff.2 ht0
     omega
   · show some (AV.sl 0 0 (ps.length + 1)) = _
     simp
 · have hm0 : m = 0 := by
     rcases Nat.eq_zero_or_pos m with q | q
     · exact q
     · exact absurd (by have := hpos.2 (by omega); omega) h4
   rw [if_pos hm0] at h3
   have hrv := zKS ps (by omega)
   have hjl : (Lib.join ps.reverse []).length ≤ 140737488355328 := by rw [zIX]; omega
   have hjn := join ps.reverse [] (by rw [List.length_reverse]; omega) hjl
   rw [zIX, ← h3, List.length_reverse] at hjn
   repeat (first | refine zD (zF rfl) ?_ | refine zA ?_ | refine zG ?_ | refine zC rfl ?_ | refine zx ?_ | refine zW ?_ | refine zX ?_ | refine zi ?_)
   refine zFH (fix := fun h => h < 1) rfl rfl rfl hrv (fun h hh => hh) (fun h hh => hh) ?_
   rintro r H rfl
   repeat (first | refine zD (zF rfl) ?_ | refine zB ?_ | refine zA ?_ | refine zG ?_ | refine zC rfl ?_)
   refine zCZ 0 35 ps.length [] rfl zJS rfl (by show _ ≤ ps.reverse.length; simp) trivial ?_
   refine zM rfl rfl rfl hjn ?_
   repeat (first | refine zD (zE rfl) ?_ | refine zB ?_ | refine zA ?_ | refine zH ?_)
   exact zR hR rfl rfl
end Go.Proofs.YtgmleamhjnlknaaGreatDoor
namespace Go.Ax.Idx
def outC (n : Int) : Bool := decide (n < 0 ∨ 16 < n)
def outK (n : Int) : Bool := decide (n < 0 ∨ 6 < n)
/-- index.CheckCounts -/
def checkCountsF (l : List Int) : Int :=
 if l.length ≠ 7 then 3 else if l.any outC then 4 else if 16 < l.sum then 2 else 0
/-- index.Check -/
def checkF (l : List Int) : Int := if 16 < l.length then 2 else if l.any outK then 4 else 0
def zJ9 (s : Int × Int) (k : Nat) : Int × Int := (s.1 * (s.2 + 1) / (k + 1), s.2 + 1)
def wrow (s : Int × Int) (c : Int) : Int × Int := (List.range c.toNat).foldl zJ9 s
def waysS (l : List Int) : Int × Int := l.foldl wrow (1, 0)
def waysF (l : List Int) : Int := (waysS l).1
def fct : Nat → Int
 | 0 => 1
 | n + 1 => (n + 1) * fct n
theorem zLH : ∀ n, 1 ≤ fct n
 | 0 => by simp [fct]
 | n + 1 => by
   have := zLH n
   simp only [fct]
   have h : (1 : Int) * 1 ≤ (n + 1) * fct n := Int.mul_le_mul (by omega) this (by omega) (by omega)
   omega
theorem fct_mono : ∀ d m, fct m ≤ fct (m + d) := by
 intro d
 induction d with
 | zero => intro m; exact Int.le_refl _
 | succ d ih =>
   intro m
   have h := ih m
   have p := zLH (m + d)
   have : fct (m + d + 1) = (m + d + 1) * fct (m + d) := by simp only [fct]; congr 1
   rw [← Nat.add_assoc, this]
   have h5 : (1 : Int) * fct (m + d) ≤ (m + d + 1) * fct (m + d) := Int.mul_le_mul_of_nonneg_right (by omega) (by omega)
   omega
/-- What holds of the two zAm while 'ways' counts. -/
structure WOk (s : Int × Int) (n : Nat) : Prop where
 num : s.2 = n
 lo : 0 ≤ s.1
 hi : s.1 ≤ fct n
theorem WOk.step {s : Int × Int} {n : Nat} (h : WOk s n) (k : Nat) : WOk (zJ9 s k) (n + 1) := by
 obtain ⟨h1, h2, h3⟩ := h
 have hm : 0 ≤ s.1 * (s.2 + 1) := Int.mul_nonneg h2 (by omega)
 refine ⟨by simp only [zJ9]; omega, Int.ediv_nonneg hm (by omega), ?_⟩
 simp only [zJ9, fct]
 refine Int.le_trans (Int.ediv_le_self _ hm) ?_
 rw [h1, Int.mul_comm]
 exact Int.mul_le_mul_of_nonneg_left h3 (by omega)
theorem WOk.range {s : Int × Int} {n : Nat} (h : WOk s n) (j : Nat) : WOk ((List.range j).foldl zJ9 s) (n + j) := by
 induction j with
 | zero => exact h
 | succ j ih => rw [List.range_succ, List.foldl_append]; exact ih.step j
theorem WOk.mul {s : Int × Int} {n : Nat} (h : WOk s n) (hn : n ≤ 15) : 0 ≤ s.1 * (s.2 + 1) ∧ s.1 * (s.2 + 1) ≤ 9223372036854775807 := by
 obtain ⟨h1, h2, h3⟩ := h
 have h4 : fct n ≤ fct 15 := by
   have := fct_mono (15 - n) n
   rwa [show n + (15 - n) = 15 by omega] at this
 have h5 : fct 15 = 1307674368000 := by decide
 refine ⟨Int.mul_nonneg h2 (by omega), ?_⟩
 have : s.1 * (s.2 + 1) ≤ 1307674368000 * 16 := Int.mul_le_mul (by omega) (by omega) (by omega) (by omega)
 omega
/-- The place of the first element with a property, or -1. -/
def zCa {α : Type} (p : α → Bool) : List α → Int
 | [] => -1
 | x :: r => if p x then 0 else if zCa p r < 0 then -1 else zCa p r + 1
theorem zKH {α : Type} (p : α → Bool) (l : List α) (h : zCa p l < 0) : zCa p l = -1 := by
 cases l with
 | nil => rfl
 | cons x r =>
   simp only [zCa] at h ⊢
   by_cases h1 : p x = true
   · simp [h1] at h
   · by_cases h2 : zCa p r < 0
     · simp [h1, h2]
     · simp only [h1, h2, if_false, Bool.false_eq_true] at h
       omega
theorem zBo {α : Type} (p : α → Bool) (l : List α) (k : Nat) (h : (l.take k).any p = false) (hk : k ≤ l.length) : zCa p l = if zCa p (l.drop k) < 0 then -1 else zCa p (l.drop k) + k := by
 induction k generalizing l with
 | zero =>
   simp only [List.drop_zero]
   split
   · exact zKH p l (by assumption)
   · omega
 | succ k ih => cases l with
   | nil => simp at hk
   | cons x r =>
     simp only [List.take_succ_cons, List.any_cons, Bool.or_eq_false_iff] at h
     have := ih r h.2 (by simpa using hk)
     simp only [zCa, h.1, List.drop_succ_cons, Bool.false_eq_true, if_false]
     rw [this]
     split <;> split <;> omega
theorem zEz {α : Type} (p : α → Bool) (l : List α) : decide (0 ≤ zCa p l) = l.any p := by
 induction l with
 | nil => rfl
 | cons x r ih =>
   simp only [zCa, List.any_cons]
   by_cases h1 : p x = true
   · simp [h1]
   · simp only [Bool.not_eq_true] at h1
     simp only [h1, Bool.false_eq_true, if_false, Bool.false_or]
     rw [← ih]
     by_cases h2 : zCa p r < 0
     · rw [if_pos h2]; simp; omega
     · rw [if_neg h2]; congr 1; simp; omega
/-- How often each kind occurs. -/
def cnt (m : List Int) : List Int := (List.range 7).map fun (i : Nat) => ((m.count (i : Int) : Nat) : Int)
theorem getD_set {l : List Int} {i j : Nat} {v : Int} (hi : i < l.length) : (l.set i v).getD j 0 = if j = i then v else l.getD j 0 := by
 by_cases h : j = i
 · subst h; simp [List.getD, hi]
 · simp only [List.getD, h, if_false]
   rw [List.getElem?_set_ne (fun e => h e.symm)]
/-- One less of kind i. -/
def less (l : List Int) (i : Nat) : List Int := l.set i (l.getD i 0 - 1)
/-- The zAm of placements that begin with a smaller kind. -/
def rrow (l : List Int) (c : Nat) : Int := ((List.range c).map fun i => if 0 < l.getD i 0 then waysF (less l i) else 0).sum
def rankF : List Int → Int
 | [] => 0
 | c :: r => rrow (cnt (c :: r)) c.toNat + rankF r
end Go.Ax.Idx
namespace Go.Ax.Cd
open Go.Ax.Idx
def eqp (v y : Int) : Bool := decide (v = y)
/-- cards.Check, from some card on -/
def deckGo (seen : List Int) : List Int → Int
 | [] => 0
 | c :: r => if c < 0 ∨ 52 ≤ c then 4 else if seen.any (eqp c) then 7 else deckGo (seen ++ [c]) r
def deckF (l : List Int) : Int := if 52 < l.length then 2 else deckGo [] l
/-- cards.Fits -/
def fitsGo (n : Int) (j : Nat) : List Int → Int
 | [] => 0
 | d :: r => if d < 0 ∨ n - 1 - j < d then 4 else fitsGo n (j + 1) r
def fitsF (n : Int) (l : List Int) : Int := if (l.length : Int) ≠ (if 1 > n then 1 else n) - 1 then 3 else fitsGo n 0 l
/-- The first zAm. -/
def iota (n : Nat) : List Int := (List.range n).map fun (i : Nat) => (i : Int)
def swapF (l : List Int) (i k : Nat) : List Int := (l.set i (l.getD k 0)).set k (l.getD i 0)
/-- cards.Shuffle, from some draw on -/
def shufGo (l : List Int) (j : Nat) : List Int → List Int
 | [] => l
 | d :: r => shufGo (swapF l (l.length - 1 - j) d.toNat) (j + 1) r
def shufF (l draws : List Int) : List Int := shufGo l 0 draws
/-- The draws between two decks, from place i on downwards: what is still to be placed is 'now'. -/
def zLS (to : List Int) : Nat → List Int → List Int
 | 0, _ => []
 | i + 1, now => zCa (eqp (to.getD (i + 1) 0)) now :: zLS to i (swapF now (i + 1) (zCa (eqp (to.getD (i + 1) 0)) now).toNat)
def drawsF (l to : List Int) : List Int := zLS to (l.length - 1) l
def drawsE (l to : List Int) : Int := if l.length ≠ to.length then 3 else if to.any (fun c => !(l.any (eqp c))) then 3 else 0
end Go.Ax.Cd
namespace Go.Ax.Cd
open Go.Ax.Idx
end Go.Ax.Cd
namespace Go.Ax.Cd
open Go.Ax.Idx
/-- The hands behind so many cards. -/
def dealGo (P : Nat) (l : List Int) : Nat → List (List Int)
 | 0 => List.replicate P []
 | m + 1 => (dealGo P l m).set (m % P) ((dealGo P l m).getD (m % P) [] ++ [l.getD m 0])
end Go.Ax.Cd
namespace Go.Proofs.YtgmleamhjnlknaaGreatDoor
open Go.Ax Go.Ax.Idx Go.Ax.Cd
attribute [local irreducible] Ax zAV QOp zV
set_option maxRecDepth 100000
set_option maxHeartbeats 4000000
theorem equalI (a b : List Int) (hlen : a.length ≤ 9223372036854775807) (hlb : b.length ≤ 9223372036854775807) : zk Tryz.prog 109 [.ro (.ints .i64 a) 0 a.length, .ro (.ints .i64 b) 0 b.length] (.bool (decide (a = b))) := by
 refine zV.value0 (zN (P := Tryz.prog) (fn := Tryz.f109) rfl rfl (by kernel_rfl) rfl (fun c hR hfix => ?_)) (fix := fun _ => False) (fun _ h => h) rfl rfl
 repeat (first | refine zD (zF rfl) ?_ | refine zD (zE rfl) ?_ | refine zB ?_ | refine zA ?_ | refine zG ?_ | refine zC rfl ?_ | refine zD (zAb rfl rfl) ?_ | refine zD (zw rfl rfl rfl) ?_)
 refine zK rfl (fun h => ?_) (fun h => ?_)
 · repeat (first | refine zD (zE rfl) ?_ | refine zB ?_ | refine zA ?_ | refine zG ?_ | refine zC rfl ?_ | refine zH ?_ | refine zQ ?_)
   refine zR hR rfl ?_
   have : ¬ a = b := by rintro rfl; exact h rfl
   simp [zA1, this]
 have hab : a.length = b.length := by omega
 repeat (first | refine zD (zF rfl) ?_ | refine zB ?_ | refine zA ?_ | refine zG ?_ | refine zC rfl ?_ | refine zT ?_ | refine zP ?_ | refine zD (zw rfl rfl rfl) ?_)
 refine zAC (ι := Nat) (fun k => [(0, .ro (.ints .i64 a) 0 a.length), (1, .ro (.ints .i64 b) 0 b.length), (12, .int .i64 (a.length : Nat)), (13, .int .i64 (k : Nat))]) (fun _ => [])
   (fun k => k ≤ a.length ∧ a.take k = b.take k) (fun k => a.length - k) 0 ⟨⟨rfl, rfl, rfl, rfl, trivial⟩, rfl, Nat.zero_le _, rfl⟩ ?_
 intro k ⟨hk, heq⟩
 repeat (first | refine zB ?_ | refine zA ?_ | refine zG ?_ | refine zC rfl ?_ | refine zD (zAQ rfl rfl) ?_)
 refine zK rfl (fun h2 => ?_) (fun h2 => ?_)
 · have hk' : k < a.length := by omega
   have ha := zAU a 0 k hk'
   have hb := zAU b 0 k (by omega)
   repeat (first | refine zD (zF rfl) ?_ | refine zD (zE rfl) ?_ | refine zB ?_ | refine zA ?_ | refine zG ?_ | refine zC rfl ?_ | refine zT ?_ | refine zP ?_)
   refine zCp (by kernel_rfl) (by kernel_rfl) rfl ?_
   repeat (first | refine zD (zF rfl) ?_ | refine zD (z6 rfl rfl rfl) ?_ | refine zB ?_ | refine zA ?_ | refine zD (zAb rfl rfl) ?_ | refine zD (zY rfl rfl rfl rfl (by first | (simp only [Nat.zero_add, Int.toNat_natCast, Int.toNat_zero]; exact rfl) | exact rfl) (by omega)) ?_)
   refine zK rfl (fun h3 => ?_) (fun h3 => ?_)
   · repeat (first | refine zD (zE rfl) ?_ | refine zB ?_ | refine zA ?_ | refine zG ?_ | refine zC rfl ?_ | refine zH ?_ | refine zQ ?_ | refine zo ?_ | refine zAf ?_)
     refine zR hR rfl ?_
     have : ¬ a = b := by rintro rfl; exact h3 rfl
     simp [zA1, this]
   · repeat (first | refine zD (zF rfl) ?_ | refine zB ?_ | refine zA ?_ | refine zC rfl ?_ | refine zZ ?_ | refine zP ?_ | refine zD (zAK rfl rfl (by omega)) ?_)
     have h4 : a.getD k 0 = b.getD k 0 := by omega
     exact zd ⟨k + 1, ⟨by omega, by rw [ha, hb, heq, h4]⟩, by omega, ⟨rfl, rfl, rfl, rfl, trivial⟩, rfl⟩
 · have hk' : k = a.length := by omega
   subst hk'
   rw [List.take_length, hab, List.take_length] at heq
   repeat (first | refine zD (zE rfl) ?_ | refine zB ?_ | refine zA ?_ | refine zG ?_ | refine zC rfl ?_ | refine zx ?_ | refine zW ?_ | refine zX ?_ | refine zi ?_ | refine zH ?_)
   refine zR hR rfl ?_
   simp [zA1, heq]
theorem zKi (l : List Int) (g : FuncId) (caps : List AV) (p : Int → Bool) (hc : noRef.noRefs caps = true) (hlen : l.length ≤ 9223372036854775807) (hp : ∀ x ∈ l, zk Tryz.prog g ([.int .i64 x] ++ caps) (.bool (p x))) :
   zk Tryz.prog 209 [.ro (.ints .i64 l) 0 l.length, .fn g caps] (.int .i64 (zCa p l)) := by
 refine zV.value0 (zN (P := Tryz.prog) (fn := Tryz.f209) rfl rfl (by kernel_rfl) rfl (fun c hR hfix => ?_)) (fix := fun _ => False) (fun _ h => h) (by simp [noRef.noRefs, noRef, hc]) rfl
 repeat (first | refine zD (zF rfl) ?_ | refine zD (zE rfl) ?_ | refine zB ?_ | refine zA ?_ | refine zG ?_ | refine zC rfl ?_ | refine zT ?_ | refine zD (zw rfl rfl rfl) ?_)
 refine zAC (ι := Nat) (fun k => [(0, .ro (.ints .i64 l) 0 l.length), (1, .fn g caps), (7, .int .i64 (l.length : Nat)), (8, .int .i64 (k : Nat))]) (fun _ => [])
   (fun k => k ≤ l.length ∧ (l.take k).any p = false) (fun k => l.length - k) 0 ⟨⟨rfl, rfl, rfl, rfl, trivial⟩, rfl, Nat.zero_le _, rfl⟩ ?_
 intro k ⟨hk, hany⟩
 repeat (first | refine zB ?_ | refine zA ?_ | refine zG ?_ | refine zC rfl ?_ | refine zD (zAQ rfl rfl) ?_)
 refine zK rfl (fun h => ?_) (fun h => ?_)
 · have hk' : k < l.length := by omega
   have hanys := zCA p l 0 k hk'
   repeat (first | refine zD (zF rfl) ?_ | refine zD (zE rfl) ?_ | refine zD (z6 rfl rfl rfl) ?_ | refine zB ?_ | refine zA ?_ | refine zG ?_ | refine zC rfl ?_ | refine zT ?_ | refine zP ?_ | refine zD (zY rfl rfl rfl rfl (by first | (simp only [Nat.zero_add, Int.toNat_natCast, Int.toNat_zero]; exact rfl) | exact rfl) (by omega)) ?_)
   refine zM rfl rfl rfl (hp _ (zA6 0 hk')) ?_
   repeat (first | refine zB ?_ | refine zA ?_)
   refine zCv rfl (fun h2 => ?_) (fun h2 => ?_)
   · repeat (first | refine zD (zF rfl) ?_ | refine zD (zE rfl) ?_ | refine zB ?_ | refine zA ?_ | refine zG ?_ | refine zC rfl ?_ | refine zH ?_ | refine zQ ?_ | refine zo ?_ | refine zAf ?_)
     refine zR hR rfl ?_
     have := zBo p l k hany hk
     rw [zBm l 0 k hk'] at this
     simp only [zCa, h2, if_true] at this
     rw [this]; simp [zA1]
   · repeat (first | refine zD (zF rfl) ?_ | refine zB ?_ | refine zA ?_ | refine zC rfl ?_ | refine zZ ?_ | refine zP ?_ | refine zD (zAK rfl rfl (by omega)) ?_)
     refine zd ⟨k + 1, ⟨by omega, by rw [hanys, hany, h2]; rfl⟩, by omega, ⟨rfl, rfl, rfl, rfl, trivial⟩, rfl⟩
 · have hk' : k = l.length := by omega
   subst hk'
   repeat (first | refine zD (zE rfl) ?_ | refine zB ?_ | refine zA ?_ | refine zG ?_ | refine zC rfl ?_ | refine zx ?_ | refine zW ?_ | refine zX ?_ | refine zi ?_ | refine zH ?_)
   refine zR hR rfl ?_
   have := zBo p l l.length hany hk
   rw [List.drop_length] at this
   rw [this]; rfl
theorem zIe (l : List Int) (g : FuncId) (caps : List AV) (p : Int → Bool) (hc : noRef.noRefs caps = true) (hlen : l.length ≤ 9223372036854775807) (hp : ∀ x ∈ l, zk Tryz.prog g ([.int .i64 x] ++ caps) (.bool (p x))) :
   zk Tryz.prog 187 [.ro (.ints .i64 l) 0 l.length, .fn g caps] (.bool (l.any p)) := by
 refine zV.value0 (zN (P := Tryz.prog) (fn := Tryz.f187) rfl rfl (by kernel_rfl) rfl (fun c hR hfix => ?_)) (fix := fun _ => False) (fun _ h => h) (by simp [noRef.noRefs, noRef, hc]) rfl
 repeat (first | refine zD (zF rfl) ?_ | refine zD (zE rfl) ?_ | refine zB ?_ | refine zA ?_ | refine zG ?_ | refine zC rfl ?_)
 refine zM rfl rfl rfl (zKi l g caps p hc hlen hp) ?_
 repeat (first | refine zD (zE rfl) ?_ | refine zB ?_ | refine zA ?_ | refine zH ?_ | refine zD (zC2 rfl rfl) ?_)
 refine zR hR rfl ?_
 simp only [zA1, zEz]
theorem zK6 (l : List Int) (g : FuncId) (caps : List AV) (p : Int → Bool) (hc : noRef.noRefs caps = true) (hlen : l.length ≤ 9223372036854775807) (hp : ∀ x ∈ l, zk Tryz.prog g ([.int .i64 x] ++ caps) (.bool (p x))) :
   zk Tryz.prog 153 [.ro (.ints .i64 l) 0 l.length, .fn g caps] (.int .i64 (zCa p l)) := by
 refine zV.value0 (zN (P := Tryz.prog) (fn := Tryz.f153) rfl rfl (by kernel_rfl) rfl (fun c hR hfix => ?_)) (fix := fun _ => False) (fun _ h => h) (by simp [noRef.noRefs, noRef, hc]) rfl
 repeat (first | refine zD (zF rfl) ?_ | refine zD (zE rfl) ?_ | refine zB ?_ | refine zA ?_ | refine zG ?_ | refine zC rfl ?_ | refine zT ?_ | refine zD (zw rfl rfl rfl) ?_)
 refine zAC (ι := Nat) (fun k => [(0, .ro (.ints .i64 l) 0 l.length), (1, .fn g caps), (7, .int .i64 (l.length : Nat)), (8, .int .i64 (k : Nat))]) (fun _ => [])
   (fun k => k ≤ l.length ∧ (l.take k).any p = false) (fun k => l.length - k) 0 ⟨⟨rfl, rfl, rfl, rfl, trivial⟩, rfl, Nat.zero_le _, rfl⟩ ?_
 intro k ⟨hk, hany⟩
 repeat (first | refine zB ?_ | refine zA ?_ | refine zG ?_ | refine zC rfl ?_ | refine zD (zAQ rfl rfl) ?_)
 refine zK rfl (fun h => ?_) (fun h => ?_)
 · have hk' : k < l.length := by omega
   have hanys := zCA p l 0 k hk'
   repeat (first | refine zD (zF rfl) ?_ | refine zD (zE rfl) ?_ | refine zD (z6 rfl rfl rfl) ?_ | refine zB ?_ | refine zA ?_ | refine zG ?_ | refine zC rfl ?_ | refine zT ?_ | refine zP ?_ | refine zD (zY rfl rfl rfl rfl (by first | (simp only [Nat.zero_add, Int.toNat_natCast, Int.toNat_zero]; exact rfl) | exact rfl) (by omega)) ?_)
   refine zM rfl rfl rfl (hp _ (zA6 0 hk')) ?_
   repeat (first | refine zB ?_ | refine zA ?_)
   refine zCv rfl (fun h2 => ?_) (fun h2 => ?_)
   · repeat (first | refine zD (zF rfl) ?_ | refine zD (zE rfl) ?_ | refine zB ?_ | refine zA ?_ | refine zG ?_ | refine zC rfl ?_ | refine zH ?_ | refine zQ ?_ | refine zo ?_ | refine zAf ?_)
     refine zR hR rfl ?_
     have := zBo p l k hany hk
     rw [zBm l 0 k hk'] at this
     simp only [zCa, h2, if_true] at this
     rw [this]; simp [zA1]
   · repeat (first | refine zD (zF rfl) ?_ | refine zB ?_ | refine zA ?_ | refine zC rfl ?_ | refine zZ ?_ | refine zP ?_ | refine zD (zAK rfl rfl (by omega)) ?_)
     refine zd ⟨k + 1, ⟨by omega, by rw [hanys, hany, h2]; rfl⟩, by omega, ⟨rfl, rfl, rfl, rfl, trivial⟩, rfl⟩
 · have hk' : k = l.length := by omega
   subst hk'
   repeat (first | refine zD (zE rfl) ?_ | refine zB ?_ | refine zA ?_ | refine zG ?_ | refine zC rfl ?_ | refine zx ?_ | refine zW ?_ | refine zX ?_ | refine zi ?_ | refine zH ?_)
   refine zR hR rfl ?_
   have := zBo p l l.length hany hk
   rw [List.drop_length] at this
   rw [this]; rfl
theorem zMh (l : List Int) (g : FuncId) (caps : List AV) (p : Int → Bool) (hc : noRef.noRefs caps = true) (hlen : l.length ≤ 9223372036854775807) (hp : ∀ x ∈ l, zk Tryz.prog g ([.int .i64 x] ++ caps) (.bool (p x))) :
   zk Tryz.prog 86 [.ro (.ints .i64 l) 0 l.length, .fn g caps] (.bool (l.any p)) := by
 refine zV.value0 (zN (P := Tryz.prog) (fn := Tryz.f86) rfl rfl (by kernel_rfl) rfl (fun c hR hfix => ?_)) (fix := fun _ => False) (fun _ h => h) (by simp [noRef.noRefs, noRef, hc]) rfl
 repeat (first | refine zD (zF rfl) ?_ | refine zD (zE rfl) ?_ | refine zB ?_ | refine zA ?_ | refine zG ?_ | refine zC rfl ?_)
 refine zM rfl rfl rfl (zK6 l g caps p hc hlen hp) ?_
 repeat (first | refine zD (zE rfl) ?_ | refine zB ?_ | refine zA ?_ | refine zH ?_ | refine zD (zC2 rfl rfl) ?_)
 refine zR hR rfl ?_
 simp only [zA1, zEz]
def notOk (e : Int) : Bool := decide (e ≠ 0)
theorem fine1 (n : Int) : zk Tryz.prog 87 [.int .i64 n] (.bool (notOk n)) := by
 refine zV.value0 (zN (P := Tryz.prog) (fn := Tryz.f87) rfl rfl (by kernel_rfl) rfl (fun c hR hfix => ?_)) (fix := fun _ => False) (fun _ h => h) rfl rfl
 repeat (first | refine zD (zF rfl) ?_ | refine zD (zE rfl) ?_ | refine zB ?_ | refine zA ?_ | refine zG ?_ | refine zC rfl ?_ | refine zH ?_ | refine zD (zAb rfl rfl) ?_)
 refine zR hR rfl ?_
 simp [zA1, notOk]
theorem fineI (l : List Int) (hlen : l.length ≤ 1000) : zk Tryz.prog 29 [.ro (.ints .i64 l) 0 l.length] (.bool (!(l.any notOk))) := by
 refine zV.value0 (zN (P := Tryz.prog) (fn := Tryz.f29) rfl rfl (by kernel_rfl) rfl (fun c hR hfix => ?_)) (fix := fun _ => False) (fun _ h => h) rfl rfl
 repeat (first | refine zD (zF rfl) ?_ | refine zD (zE rfl) ?_ | refine zB ?_ | refine zA ?_ | refine zG ?_ | refine zC rfl ?_)
 refine zM rfl rfl rfl (zMh l 87 [] notOk rfl (by omega) (fun x _ => fine1 x)) ?_
 repeat (first | refine zD (zE rfl) ?_ | refine zB ?_ | refine zA ?_ | refine zH ?_ | refine zD (zAw rfl) ?_)
 exact zR hR rfl rfl
end Go.Proofs.YtgmleamhjnlknaaGreatDoor
namespace Go.Ax.Bg
open Go.Ax.Tb (zBF)
def zDl (s : List UInt8) : Bool := decide (s ≠ []) && s.all dg && (decide (s.getD 0 0 ≠ 48) || decide (s.length = 1))
theorem zCF {s : List UInt8} : zDl s = true ↔ zFK s := by
 unfold zDl zFK
 simp only [Bool.and_eq_true, Bool.or_eq_true, decide_eq_true_eq, List.all_eq_true, dg_iff]
 constructor
 · rintro ⟨⟨h1, h2⟩, h3⟩; exact ⟨h1, h2, h3⟩
 · rintro ⟨h1, h2, h3⟩; exact ⟨⟨h1, h2⟩, h3⟩
def natE (s : List UInt8) : Int := if zDl s = false then 5 else if 2000 < s.length then 2 else 0
theorem zI9 {s : List UInt8} (h : natE s = 0) : zFK s ∧ s.length ≤ 2000 := by
 unfold natE at h
 split at h
 · omega
 · split at h
   · omega
   · rename_i h1 h2
     exact ⟨zCF.1 (by simpa using h1), by omega⟩
def zFc (a b : List UInt8) : Int := if natE a ≠ 0 then natE a else natE b
theorem zHC {s : List UInt8} (h : zFK s) {k : Nat} (hl : s.length ≤ k) : (zh (zAc 0 s)).length ≤ k := by
 refine zAj (Nat.lt_of_lt_of_le (zF4 h.2.1) ?_)
 exact Nat.le_trans (Nat.pow_le_pow_right (by decide) hl) (Nat.pow_le_pow_left (by decide) k)
/-- A result, if it is not too long. -/
def resF (n : Nat) : List UInt8 × Int := if 2000 < (Lib.decDigits n).length then ([], 2) else (Lib.decDigits n, 0)
/-- Texts that are not too long spell zAm below this one. -/
def powT : Nat → Nat
 | 0 => 1
 | k + 1 => 10 * powT k
theorem zLj : ∀ k, powT k = 10 ^ k
 | 0 => rfl
 | k + 1 => by rw [powT, zLj k, Nat.pow_succ, Nat.mul_comm]
def TB : Nat := powT 2000
theorem TB_eq : TB = 10 ^ 2000 := zLj 2000
theorem zKY {n : Nat} (h : n < TB) : (Lib.decDigits n).length ≤ 2000 := by
 rw [TB_eq] at h
 revert h
 generalize hk : 2000 = k
 intro h
 exact zCs (by omega) h
theorem zJN {n : Nat} (h : n < TB) : resF n = (Lib.decDigits n, 0) := by
 unfold resF
 rw [if_neg (by have := zKY h; omega)]
def addF (a b : List UInt8) : List UInt8 × Int := if zFc a b ≠ 0 then ([], zFc a b) else resF (zAc 0 a + zAc 0 b)
def mulF (a b : List UInt8) : List UInt8 × Int := if zFc a b ≠ 0 then ([], zFc a b) else resF (zAc 0 a * zAc 0 b)
def subF (a b : List UInt8) : List UInt8 × Int := if zFc a b ≠ 0 then ([], zFc a b) else if zAc 0 a < zAc 0 b then ([], 4) else resF (zAc 0 a - zAc 0 b)
def divF (a b : List UInt8) : List UInt8 × List UInt8 × Int := if zFc a b ≠ 0 then ([], [], zFc a b) else if zAc 0 b = 0 then ([], [], 18) else (Lib.decDigits (zAc 0 a / zAc 0 b), Lib.decDigits (zAc 0 a % zAc 0 b), 0)
def gcdF (a b : List UInt8) : List UInt8 × Int := if zFc a b ≠ 0 then ([], zFc a b) else (Lib.decDigits (Nat.gcd (zAc 0 a) (zAc 0 b)), 0)
def ncmpF (a b : List UInt8) : Int × Int := if zFc a b ≠ 0 then (0, zFc a b) else (zCn (zAc 0 a) (zAc 0 b), 0)
/-- Products of zAm from one to another. -/
def prodF (low : Nat) : Nat → Nat
 | 0 => 1
 | k + 1 => prodF low k * (low + k)
def factN (n : Nat) : Nat := prodF 1 n
def factF (n : Int) : List UInt8 × Int := if n < 0 ∨ 1000 < n then ([], 4) else resF (factN n.toNat)
def binoF (n k : Int) : List UInt8 × Int := if n < 0 ∨ 1000 < n ∨ k < 0 ∨ n < k then ([], 4) else (Lib.decDigits (prodF (n.toNat - k.toNat + 1) k.toNat / factN k.toNat), 0)
/-- A text that spells n. -/
def IsN (s : List UInt8) (n : Nat) : Prop := natE s = 0 ∧ zAc 0 s = n
theorem IsN.self {s : List UInt8} (h : natE s = 0) : IsN s (zAc 0 s) := ⟨h, rfl⟩
theorem IsN.dig {s : List UInt8} {n : Nat} (h : IsN s n) : s = Lib.decDigits n := by
 rw [← h.2, zDQ (zI9 h.1).1]
theorem IsN.two {a b : List UInt8} {m n : Nat} (ha : IsN a m) (hb : IsN b n) : zFc a b = 0 := by
 unfold zFc; rw [if_neg (by simp [ha.1])]; exact hb.1
theorem IsN.lt {a : List UInt8} {m k : Nat} (ha : IsN a m) (h : a.length ≤ k) : m < 10 ^ k := by
 rw [← ha.2]
 exact Nat.lt_of_lt_of_le (zF4 (zI9 ha.1).1.2.1) (Nat.pow_le_pow_right (by decide) h)
theorem IsN.lt2 {a : List UInt8} {m : Nat} (ha : IsN a m) : m < TB := by
 have h := (zI9 ha.1).2
 rw [TB_eq]
 revert h
 generalize 2000 = j
 intro h
 exact ha.lt h
theorem IsN.add {a b : List UInt8} {m n : Nat} (ha : IsN a m) (hb : IsN b n) (h : m + n < TB) : addF a b = (Lib.decDigits (m + n), 0) := by
 unfold addF; rw [if_neg (by simp [ha.two hb]), ha.2, hb.2, zJN h]
theorem IsN.mul {a b : List UInt8} {m n : Nat} (ha : IsN a m) (hb : IsN b n) (h : m * n < TB) : mulF a b = (Lib.decDigits (m * n), 0) := by
 unfold mulF; rw [if_neg (by simp [ha.two hb]), ha.2, hb.2, zJN h]
theorem IsN.sub {a b : List UInt8} {m n : Nat} (ha : IsN a m) (hb : IsN b n) : subF a b = if m < n then ([], 4) else (Lib.decDigits (m - n), 0) := by
 unfold subF; rw [if_neg (by simp [ha.two hb]), ha.2, hb.2, zJN (by have := ha.lt2; omega)]
theorem IsN.gcd {a b : List UInt8} {m n : Nat} (ha : IsN a m) (hb : IsN b n) : gcdF a b = (Lib.decDigits (Nat.gcd m n), 0) := by
 unfold gcdF; rw [if_neg (by simp [ha.two hb]), ha.2, hb.2]
theorem IsN.inj {a b : List UInt8} {n : Nat} (ha : IsN a n) (hb : IsN b n) : a = b := by rw [ha.dig, hb.dig]
theorem lt_big {n k : Nat} (h : n < 10 ^ k) (hk : k ≤ 2000) : n < TB := by
 rw [TB_eq]
 revert hk
 generalize 2000 = j
 intro hk
 exact Nat.lt_of_lt_of_le h (Nat.pow_le_pow_right (by decide) hk)
theorem zGG {m n j k : Nat} (hm : m < 10 ^ j) (hn : n < 10 ^ k) : m * n < 10 ^ (j + k) := by
 rw [Nat.pow_add]; exact Nat.mul_lt_mul'' hm hn
theorem add_big {m n k : Nat} (hm : m < 10 ^ k) (hn : n < 10 ^ k) : m + n < 10 ^ (k + 1) := by
 rw [Nat.pow_succ]; omega
/-- Choices. -/
def ch : Nat → Nat → Nat
 | _, 0 => 1
 | 0, _ + 1 => 0
 | n + 1, k + 1 => ch n k + ch n (k + 1)
end Go.Ax.Bg
namespace Go.Proofs.YtgmleamhjnlknaaGreatDoor
open Go.Ax Go.Ax.Bg Go.RowKit
open Go.Ax.Tb (zBF zCT zBH zBZ)
attribute [local irreducible] Ax zAV QOp zV
set_option maxRecDepth 100000
set_option maxHeartbeats 4000000
theorem zIO (s : List UInt8) (hs : s.length ≤ 9223372036854775807) : zk Tryz.prog 150 [.str s] (.bool (zDl s)) := by
 have ht := trim_ok s hs
 have hn := trR_nil (s := s)
 have hc : zDl s = (decide (s ≠ []) && s.all dg && (decide (s.getD 0 0 ≠ 48) || decide (s.length = 1))) := rfl
 refine zV.value0 (zN (P := Tryz.prog) (fn := Tryz.f150) rfl rfl (by kernel_rfl) rfl (fun c hR hfix => ?_)) (fix := fun _ => False) (fun _ h => h) rfl rfl
 generalize trL (trR s) = u at *
 generalize zDl s = b at *
 by_cases h0 : s = []
 · subst h0
   repeat (first | refine zD (zF rfl) ?_ | refine zD (zE rfl) ?_ | refine zB ?_ | refine zA ?_ | refine zG ?_ | refine zC rfl ?_ | refine zB7 rfl rfl ?_ | refine zp rfl rfl rfl ?_ | refine zH ?_ | refine zD (zr rfl rfl) ?_ | refine zD (zCz rfl rfl) ?_)
   refine zR hR rfl ?_
   rw [hc]; rfl
 have hlen : 0 < s.length := List.length_pos_iff.2 h0
 repeat (first | refine zD (zF rfl) ?_ | refine zD (zE rfl) ?_ | refine zB ?_ | refine zA ?_ | refine zG ?_ | refine zC rfl ?_ | refine zD (zCz rfl rfl) ?_)
 refine zAH rfl rfl (fun h1 => ?_) (fun h1 => absurd h0 h1)
 repeat (first | refine zD (zF rfl) ?_ | refine zj rfl rfl ?_)
 refine zM rfl rfl rfl ht ?_
 repeat (first | refine zD (zF rfl) ?_ | refine zj rfl rfl ?_ | refine zD (zr rfl rfl) ?_ | refine zD (zBv rfl rfl) ?_)
 refine zAH rfl rfl (fun h2 => ?_) (fun h2 => ?_)
 · have ha : s.all dg = true := hn.1 h2
   rw [decide_eq_true h0, ha, Bool.true_and, Bool.true_and] at hc
   repeat (first | refine zD (zF rfl) ?_ | refine zj rfl rfl ?_ | refine zD (zAb rfl rfl) ?_ | refine zD (zEO rfl rfl rfl (by first | assumption | omega | simp)) ?_)
   refine zAH rfl rfl (fun h3 => ?_) (fun h3 => ?_)
   · have h4 : decide (s.getD 0 0 ≠ 48) = true := decide_eq_true (fun e => h3 (by simp only [Int.toNat_zero]; rw [e]; rfl))
     rw [h4, Bool.true_or] at hc
     repeat (first | refine zD (zE rfl) ?_ | refine zB ?_ | refine zA ?_ | refine zj rfl rfl ?_ | refine zp rfl rfl rfl ?_ | refine zH ?_ | refine zD (zr rfl rfl) ?_)
     refine zR hR rfl ?_
     rw [hc]; rfl
   · have h5 : s.getD 0 0 = 48 := by
       simp only [Int.toNat_zero] at h3
       apply UInt8.toNat_inj.1
       have : ((s.getD 0 0).toNat : Int) = 48 := by omega
       show (s.getD 0 0).toNat = 48
       omega
     have h4 : decide (s.getD 0 0 ≠ 48) = false := decide_eq_false (fun e => e h5)
     rw [h4, Bool.false_or] at hc
     repeat (first | refine zD (zF rfl) ?_ | refine zD (zE rfl) ?_ | refine zB ?_ | refine zA ?_ | refine zj rfl rfl ?_ | refine zH ?_ | refine zD (zA0 rfl rfl) ?_ | refine zD (zr rfl rfl) ?_ | refine zD (zAl rfl rfl) ?_)
     refine zR hR rfl ?_
     rw [hc]
     show AV.bool (decide ((s.length : Int) = 1)) = _
     congr 1
     rw [decide_eq_decide]; omega
 · have ha : s.all dg = false := by
     cases hq : s.all dg with
     | false => rfl
     | true => exact absurd (hn.2 hq) h2
   rw [ha, Bool.and_false, Bool.false_and] at hc
   repeat (first | refine zD (zE rfl) ?_ | refine zB ?_ | refine zA ?_ | refine zB7 rfl rfl ?_ | refine zp rfl rfl rfl ?_ | refine zH ?_ | refine zD (zr rfl rfl) ?_)
   refine zR hR rfl ?_
   rw [hc]; rfl
def twoA (a b : List UInt8) : AV := .tup (if zFc a b ≠ 0 then [.nil, .nil, .int .i64 (zFc a b)] else [zAL (zAc 0 a), zAL (zAc 0 b), .int .i64 0])
def zIZ (p : List UInt8 × Int) : AV := .tup [.str p.1, .int .i64 p.2]
end Go.Proofs.YtgmleamhjnlknaaGreatDoor
namespace Go.Proofs.YtgmleamhjnlknaaGreatDoor
open Go.Ax Go.Ax.Bg Go.RowKit
open Go.Ax.Tb (zBF zCT zBH zBZ)
attribute [local irreducible] Ax zAV QOp zV
set_option maxRecDepth 100000
set_option maxHeartbeats 4000000
theorem zHE {a b k : Nat} (ha : (zh a).length ≤ k) (hb : (zh b).length ≤ k) : (zh (a * b)).length ≤ k + k := by
 have h1 := zAp (zAW a)
 have h2 := zAp (zAW b)
 rw [zAG] at h1 h2
 refine zAj ?_
 rw [Nat.pow_add]
 refine Nat.mul_lt_mul'' (Nat.lt_of_lt_of_le h1 (Nat.pow_le_pow_right (by decide) ha)) (Nat.lt_of_lt_of_le h2 (Nat.pow_le_pow_right (by decide) hb))
theorem len_add {a b k : Nat} (ha : (zh a).length ≤ k) (hb : (zh b).length ≤ k) : (zh (a + b)).length ≤ k + 1 := by
 have h1 := zAp (zAW a)
 have h2 := zAp (zAW b)
 rw [zAG] at h1 h2
 refine zAj ?_
 have h3 : B ^ (zh a).length ≤ B ^ k := Nat.pow_le_pow_right (by decide) ha
 have h4 : B ^ (zh b).length ≤ B ^ k := Nat.pow_le_pow_right (by decide) hb
 rw [Nat.pow_succ]
 have : B ^ k * 2 ≤ B ^ k * B := Nat.mul_le_mul_left _ (by decide)
 omega
def tripA (p : List UInt8 × List UInt8 × Int) : AV := .tup [.str p.1, .str p.2.1, .int .i64 p.2.2]
end Go.Proofs.YtgmleamhjnlknaaGreatDoor
namespace Go.Ax
variable [Pins]
open Go.RowKit
theorem zDS {fr : Fr} : ∀ {K : Fr}, (∀ p ∈ K, zAt p.1 fr = some p.2) → zB8 fr K
 | [], _ => have _pin := (inferInstance : Pins); trivial
 | (t, v) :: r, h => ⟨h (t, v) (by simp), zDS (fun p hp => h p (by simp [hp]))⟩
theorem zDV {fr : Fr} : ∀ {K : Fr}, zB8 fr K → ∀ p ∈ K, zAt p.1 fr = some p.2
 | [], _, p, hp => have _pin := (inferInstance : Pins); by simp at hp
 | (t, v) :: r, h, p, hp => by
   rcases List.mem_cons.1 hp with rfl | hp
   · exact h.1
   · exact zDV h.2 p hp
theorem zKG {fr K : Fr} (h : zB8 fr K) {o : Operand} {v : AV} (he : ev K o = some v) : ev fr o = some v := by
 have _pin := (inferInstance : Pins)
 cases o with
 | tmp t => exact zEb h he
 | const x => exact he
 | «global» g => cases he
 | func f => exact he
theorem zIc {fr K : Fr} (h : zB8 fr K) : ∀ {xs : List Operand} {l : List AV}, evs K xs = some l → evs fr xs = some l
 | [], l, he => have _pin := (inferInstance : Pins); he
 | x :: r, l, he => by
   simp only [evs] at he ⊢
   split at he
   · rename_i v hv
     split at he
     · rename_i q hq
       rw [zKG h hv, zIc h hq]
       exact he
     · cases he
   · cases he
section
variable {P : Program} {fn : Func} {c : Ctx} {fr : Fr} {H : zg} {k : List It}
/-- An operation that yields v and leaves the memory as it is told. -/
def zAJ (P : Program) (fn : Func) (c : Ctx) (H : zg) (all : Array Oper) (K : Fr) (o : Oper) (d : Nat) (v : AV) : Prop :=
 ∀ (k : List It) (fr : Fr), zB8 fr K → Ax P fn c (.ops false all [] k) ((d, v) :: fr) H → Ax P fn c (.ops false all [o] k) fr H
theorem pure_q {all : Array Oper} {K : Fr} {d : Nat} {op : Op} {ty : TypeId} {pos : String} {after : Array Edge} {v : AV} (h : QOp false P fn c K H ⟨some d, op, ty, pos, after, none⟩ v) : zAJ P fn c H all K ⟨some d, op, ty, pos, after, none⟩ d v :=
 fun k fr hk h2 => zD (fun w a σ S hr => h w a σ S (hr.weaken hk)) h2
theorem pure_v {all : Array Oper} {K : Fr} {d : Nat} {g : Operand} {args : List Operand} {ats : Array TypeId} {ty : TypeId} {pos : String} {after : Array Edge} {f : FuncId} {caps ags ags' : List AV} {r : AV} (hg : ev K g = some (.fn f caps)) (ha : evs K args = some ags) (has : ags ++ caps = ags') (hcall : zk P f ags' r) :
   zAJ P fn c H all K ⟨some d, .call { callee := .value g, args := args.toArray, argTypes := ats }, ty, pos, after, none⟩ d r :=
 fun k fr hk h2 => zM (zKG hk hg) (zIc hk ha) has hcall h2
/-- A guard that holds. -/
theorem zL0 {all : Array Oper} {K : Fr} {d : Nat} {op : Op} {ty : TypeId} {pos : String} {after : Array Edge} {v : AV} {j t : Nat} {p : Bool} (hy : zEk all j = some t) (hb : zAt t K = some (.bool p)) (h : zAJ P fn c H all K ⟨some d, op, ty, pos, after, none⟩ d v) : zAJ P fn c H all K ⟨some d, op, ty, pos, after, some (j, p)⟩ d v :=
 fun k fr hk h2 => zj hy (zEb hk hb) (h k fr hk h2)
/-- A guard that does not hold: nothing is left in the slot. -/
theorem pure_gno {all : Array Oper} {K : Fr} {d : Nat} {op : Op} {ty : TypeId} {pos : String} {after : Array Edge} {j t : Nat} {p b : Bool} (hy : zEk all j = some t) (hb : zAt t K = some (.bool b)) (hne : (b == p) = false) : zAJ P fn c H all K ⟨some d, op, ty, pos, after, some (j, p)⟩ d (.tup []) :=
 fun k fr hk h2 => zp hy (zEb hk hb) hne h2
abbrev Steps := List (Nat × Nat × AV)
def zGt (st : Steps) (K0 : Fr) (o : Oper) : Fr := ((st.filter (fun s => o.after.toList.any (fun e => Nat.beq e.on s.1 && Region.binds .any e))).map (fun s => s.2)) ++ K0
/-- One operation after the other, in the order that is given. -/
def zF3 (P : Program) (fn : Func) (c : Ctx) (H : zg) (all : Array Oper) (K0 : Fr) : List Nat → Steps → (Steps → Prop) → Prop
 | [], st, G => G st
 | i :: r, st, G => ∃ o d v, all[i]? = some o ∧ o.dst = some d ∧ zAJ P fn c H all (zGt st K0 o) o d v ∧ zF3 P fn c H all K0 r ((i, d, v) :: st) G
theorem zLk {all : Array Oper} {K0 : Fr} {i : Nat} {r : List Nat} {st : Steps} {G : Steps → Prop} {d : Nat} {op : Op} {ty : TypeId} {pos : String} {after : Array Edge} {v : AV} (hi : all[i]? = some ⟨some d, op, ty, pos, after, none⟩)
   (hop : zAJ P fn c H all (zGt st K0 ⟨some d, op, ty, pos, after, none⟩) ⟨some d, op, ty, pos, after, none⟩ d v) (h : zF3 P fn c H all K0 r ((i, d, v) :: st) G) : zF3 P fn c H all K0 (i :: r) st G :=
 ⟨_, _, _, hi, rfl, hop, h⟩
theorem zn {all : Array Oper} {K0 : Fr} {i : Nat} {r : List Nat} {st : Steps} {G : Steps → Prop} {d : Nat} {op : Op} {ty : TypeId} {pos : String} {after : Array Edge} {v : AV} {K : Fr} (hi : all[i]? = some ⟨some d, op, ty, pos, after, none⟩)
   (hK : zGt st K0 ⟨some d, op, ty, pos, after, none⟩ = K) (hop : QOp false P fn c K H ⟨some d, op, ty, pos, after, none⟩ v) (h : zF3 P fn c H all K0 r ((i, d, v) :: st) G) : zF3 P fn c H all K0 (i :: r) st G :=
 zLk hi (hK ▸ pure_q hop) h
theorem zCb {all : Array Oper} {K0 : Fr} {i : Nat} {r : List Nat} {st : Steps} {G : Steps → Prop} {d : Nat} {g : Operand} {args : List Operand} {ats : Array TypeId} {ty : TypeId} {pos : String} {after : Array Edge} {f : FuncId} {caps ags ags' : List AV} {v : AV} {K : Fr} (hi : all[i]? = some ⟨some d, .call { callee := .value g, args := args.toArray, argTypes := ats }, ty, pos, after, none⟩)
   (hK : zGt st K0 ⟨some d, .call { callee := .value g, args := args.toArray, argTypes := ats }, ty, pos, after, none⟩ = K) (hg : ev K g = some (.fn f caps)) (ha : evs K args = some ags) (has : ags ++ caps = ags') (hcall : zk P f ags' v)
   (h : zF3 P fn c H all K0 r ((i, d, v) :: st) G) : zF3 P fn c H all K0 (i :: r) st G :=
 zLk hi (hK ▸ pure_v hg ha has hcall) h
theorem zBs {all : Array Oper} {K0 : Fr} {i : Nat} {r : List Nat} {st : Steps} {G : Steps → Prop} {d : Nat} {op : Op} {ty : TypeId} {pos : String} {after : Array Edge} {v : AV} {K : Fr} {j t : Nat} {p : Bool} (hi : all[i]? = some ⟨some d, op, ty, pos, after, some (j, p)⟩)
   (hK : zGt st K0 ⟨some d, op, ty, pos, after, some (j, p)⟩ = K) (hy : zEk all j = some t) (hb : zAt t K = some (.bool p)) (hop : QOp false P fn c K H ⟨some d, op, ty, pos, after, none⟩ v) (h : zF3 P fn c H all K0 r ((i, d, v) :: st) G) : zF3 P fn c H all K0 (i :: r) st G :=
 ⟨_, _, _, hi, rfl, hK ▸ zL0 hy hb (pure_q hop), h⟩
theorem zB5 {all : Array Oper} {K0 : Fr} {i : Nat} {r : List Nat} {st : Steps} {G : Steps → Prop} {d : Nat} {op : Op} {ty : TypeId} {pos : String} {after : Array Edge} {K : Fr} {j t : Nat} {p b : Bool} (hi : all[i]? = some ⟨some d, op, ty, pos, after, some (j, p)⟩)
   (hK : zGt st K0 ⟨some d, op, ty, pos, after, some (j, p)⟩ = K) (hy : zEk all j = some t) (hb : zAt t K = some (.bool b)) (hne : (b == p) = false) (h : zF3 P fn c H all K0 r ((i, d, .tup []) :: st) G) : zF3 P fn c H all K0 (i :: r) st G :=
 ⟨_, _, _, hi, rfl, hK ▸ pure_gno hy hb hne, h⟩
theorem zAs {all : Array Oper} {K0 : Fr} {st : Steps} {G : Steps → Prop} (h : G st) : zF3 P fn c H all K0 [] st G := h
/-- What the steps tell. -/
def zGU (P : Program) (fn : Func) (c : Ctx) (H : zg) (all : Array Oper) (K0 : Fr) (st : Steps) (s : Nat × Nat × AV) : Prop :=
 ∃ o K, all[s.1]? = some o ∧ o.dst = some s.2.1 ∧ zAJ P fn c H all K o s.2.1 s.2.2 ∧ ∀ p ∈ K, p ∈ K0 ∨ ∃ s' ∈ st, (∃ e ∈ o.after, Region.binds .any e = true ∧ e.on = s'.1) ∧ s'.2 = p
theorem zGU.mono {all : Array Oper} {K0 : Fr} {st st' : Steps} {s : Nat × Nat × AV} (hs : ∀ x ∈ st, x ∈ st') (h : zGU P fn c H all K0 st s) : zGU P fn c H all K0 st' s := by
 obtain ⟨o, K, h1, h2, h3, h4⟩ := h
 refine ⟨o, K, h1, h2, h3, fun p hp => ?_⟩
 rcases h4 p hp with q | ⟨s', q1, q2⟩
 · exact .inl q
 · exact .inr ⟨s', hs _ q1, q2⟩
theorem zFt {all : Array Oper} {K0 : Fr} {G : Steps → Prop} : ∀ {idx : List Nat} {st : Steps}, zF3 P fn c H all K0 idx st G → (∀ s ∈ st, zGU P fn c H all K0 st s) → ∃ st', G st' ∧ st'.map (·.1) = idx.reverse ++ st.map (·.1) ∧ (∀ s ∈ st', zGU P fn c H all K0 st' s)
 | [], st, h, hs => ⟨st, h, by simp, hs⟩
 | i :: r, st, h, hs => by
   obtain ⟨o, d, v, h1, h2, h3, h4⟩ := h
   have hsub : ∀ x ∈ st, x ∈ (i, d, v) :: st := fun x hx => List.mem_cons_of_mem _ hx
   have hstep : zGU P fn c H all K0 ((i, d, v) :: st) (i, d, v) := by
     refine ⟨o, zGt st K0 o, h1, h2, h3, fun p hp => ?_⟩
     unfold zGt at hp
     rcases List.mem_append.1 hp with q | q
     · obtain ⟨s, q1, q2⟩ := List.mem_map.1 q
       obtain ⟨q3, q4⟩ := List.mem_filter.1 q1
       obtain ⟨e, q5, q6⟩ := List.any_eq_true.1 q4
       rw [Bool.and_eq_true] at q6
       exact .inr ⟨s, hsub _ q3, ⟨e, Array.mem_toList_iff.1 q5, q6.2, Nat.eq_of_beq_eq_true q6.1⟩, q2⟩
     · exact .inl q
   obtain ⟨st', g1, g2, g3⟩ := zFt h4 (fun s hs' => by
     rcases List.mem_cons.1 hs' with rfl | q
     · exact hstep
     · exact (hs s q).mono hsub)
   exact ⟨st', g1, by rw [g2]; simp, g3⟩
theorem zI1 {all : Array Oper} {fuel : Nat} {listed : Array Bool} : ∀ {is : List Nat}, (∀ i ∈ is, ∀ o, all[i]? = some o → Ax P fn c (.ops false all [o] (.any all fuel (listed.setIfInBounds i true) :: k)) fr H) → AllR P fn c all fuel listed k fr H is
 | [], _ => trivial
 | i :: r, h => ⟨h i (by simp), zI1 (fun j hj => h j (by simp [hj]))⟩
/-- May these operations run in any order, ahead of all others? -/
def okRun (all : Array Oper) (listed : Array Bool) (idx : List Nat) (k0 : List Nat) : Bool :=
 (idx.all fun i => !listed.getD i true && (match all[i]? with
   | some o => (match o.dst with | some d => !k0.contains d | none => false) && o.after.toList.all (fun e => !Region.binds .any e || (Nat.blt e.on i && (idx.contains e.on || listed.getD e.on false)))
   | none => false)) &&
 ((List.range all.size).all fun j => idx.contains j || listed.getD j true || (match all[j]? with
   | some o => idx.all (fun i => o.after.toList.any (fun e => Nat.beq e.on i && Region.binds .any e))
   | none => true)) &&
 (idx.all fun i => idx.all fun j => Nat.beq i j || !(match all[i]?, all[j]? with | some o, some o' => o.dst == o'.dst | _, _ => false))
def zFA (listed : Array Bool) (idx : List Nat) : Array Bool := idx.foldl (fun a i => a.setIfInBounds i true) listed
theorem zEt : ∀ (idx : List Nat) (listed : Array Bool), (zFA listed idx).size = listed.size
 | [], _ => have _pin := (inferInstance : Pins); rfl
 | i :: r, listed => by
   have := zEt r (listed.setIfInBounds i true)
   simpa [zFA] using this
theorem zFm : ∀ (idx : List Nat) (listed : Array Bool) (j : Nat), j < listed.size → (zFA listed idx)[j]? = if j ∈ idx then some true else listed[j]?
 | [], _, j, _ => have _pin := (inferInstance : Pins); by simp [zFA]
 | i :: r, listed, j, hj => by
   have h := zFm r (listed.setIfInBounds i true) j (by simpa using hj)
   have e : zFA listed (i :: r) = zFA (listed.setIfInBounds i true) r := rfl
   rw [e, h]
   by_cases h1 : j ∈ r
   · simp [h1]
   · by_cases h2 : i = j
     · subst h2; simp [h1, hj]
     · have h3 : ¬ j = i := fun e => h2 e.symm
       simp [h1, h2, h3, Array.getElem?_setIfInBounds]
def unl (cur : Array Bool) (st : Steps) : Nat := (st.filter (fun s => !cur.getD s.1 true)).length
theorem zAR {all : Array Oper} {fuel : Nat} {listed listed' : Array Bool} (idx : List Nat) (K0 : Fr) (hK : zB8 fr K0) (hok : okRun all listed idx (K0.map (·.1)) = true) (hnd : idx.Nodup) (hd : zCQ fn.ntmps all.toList = true) (hl : zFA listed idx = listed')
   (h : zF3 P fn c H all K0 idx [] (fun st => Ax P fn c (.any all fuel listed' k) (st.map (·.2) ++ K0) H)) : Ax P fn c (.any all (fuel + idx.length) listed k) fr H := by
 obtain ⟨st, hG, hidx, hst⟩ := zFt h (fun s hs => by simp at hs)
 rw [List.map_nil, List.append_nil] at hidx
 clear h
 unfold okRun at hok
 simp only [Bool.and_eq_true] at hok
 obtain ⟨⟨ok1, ok2⟩, ok3⟩ := hok
 rw [List.all_eq_true] at ok1 ok2 ok3
 have hmem : ∀ i, i ∈ idx ↔ ∃ s ∈ st, s.1 = i := fun i => by
   have : i ∈ idx.reverse ↔ ∃ s ∈ st, s.1 = i := by rw [← hidx]; simp
   rw [← this, List.mem_reverse]
 have hlen : st.length = idx.length := by
   have := congrArg List.length hidx
   simpa using this
 have hnd' : (st.map (·.1)).Nodup := by rw [hidx]; exact (List.reverse_perm idx).nodup_iff.2 hnd
 have hlt : ∀ i ∈ idx, i < listed.size := fun i hi => by
   have := ok1 i hi
   simp only [Bool.and_eq_true, Bool.not_eq_true'] at this
   rcases Nat.lt_or_ge i listed.size with q | q
   · exact q
   · have h1 := this.1
     simp only [Array.getD, show ¬ i < listed.size by omega, dite_false] at h1
     cases h1
 -- the induction
 have key : ∀ (m : Nat) (cur : Array Bool) (fr : Fr), cur.size = listed.size → (∀ j, j ∉ idx → cur[j]? = listed[j]?) → unl cur st = m → (∀ s ∈ st, cur.getD s.1 true = true → zAt s.2.1 fr = some s.2.2) → zB8 fr K0 → Ax P fn c (.any all (fuel + m) cur k) fr H := by
   intro m
   induction m with
   | zero =>
     intro cur fr hcs hco hcm hck hk0
     have hall : ∀ s ∈ st, cur.getD s.1 true = true := fun s hs => by
       cases hq : cur.getD s.1 true with
       | true => rfl
       | false =>
         exfalso
         have h0 : st.filter (fun s => !cur.getD s.1 true) = [] := List.length_eq_zero_iff.1 hcm
         have : s ∈ st.filter (fun s => !cur.getD s.1 true) := List.mem_filter.2 ⟨hs, by rw [hq]; rfl⟩
         rw [h0] at this; simp at this
     have hcur : cur = listed' := by
       rw [← hl]
       apply Array.ext_getElem?
       intro j
       rcases Nat.lt_or_ge j listed.size with q | q
       · rw [zFm idx listed j q]
         by_cases hj : j ∈ idx
         · rw [if_pos hj]
           obtain ⟨s, hs1, hs2⟩ := (hmem j).1 hj
           have := hall s hs1
           rw [hs2] at this
           simp only [Array.getD, show j < cur.size by omega, dite_true] at this
           rw [Array.getElem?_eq_getElem (by omega)]
           exact congrArg some this
         · rw [if_neg hj]; exact hco j hj
       · rw [Array.getElem?_eq_none (by omega), Array.getElem?_eq_none (by rw [zEt]; omega)]
     subst hcur
     intro w a σ S hr
     refine hG w a σ S (hr.weaken (zDS fun p hp => ?_))
     rcases List.mem_append.1 hp with q | q
     · obtain ⟨s, q1, q2⟩ := List.mem_map.1 q
       rw [← q2]; exact hck s q1 (hall s q1)
     · exact zDV hk0 p q
   | succ m ih =>
     intro cur fr hcs hco hcm hck hk0
     -- some step is left
     obtain ⟨s0, hs0, hs0u⟩ : ∃ s ∈ st, cur.getD s.1 true = false := by
       rcases hq : st.filter (fun s => !cur.getD s.1 true) with _ | ⟨s, r⟩
       · unfold unl at hcm; rw [hq] at hcm; simp at hcm
       · have : s ∈ st.filter (fun s => !cur.getD s.1 true) := by rw [hq]; simp
         obtain ⟨h1, h2⟩ := List.mem_filter.1 this
         exact ⟨s, h1, by simpa using h2⟩
     have hsub : ∀ i ∈ Region.ready .any all cur, i ∈ idx ∧ cur.getD i true = false := by
       intro i hi
       obtain ⟨h1, o, ho, hdeps⟩ := mem_ready.1 hi
       refine ⟨?_, h1⟩
       apply Classical.byContradiction
       intro hni
       have hjs : i < all.size := (Array.getElem?_eq_some_iff.1 ho).1
       have := ok2 i (List.mem_range.2 hjs)
       simp only [Bool.or_eq_true, ho] at this
       rcases this with (q | q) | q
       · exact hni (by simpa using q)
       · have hco' := hco i hni
         have h2 : listed.getD i true = cur.getD i true := by
           simp only [Array.getD_eq_getD_getElem?, hco']
         rw [h2, h1] at q; cases q
       · rw [List.all_eq_true] at q
         have := q s0.1 ((hmem s0.1).2 ⟨s0, hs0, rfl⟩)
         obtain ⟨e, he1, he2⟩ := List.any_eq_true.1 this
         rw [Bool.and_eq_true] at he2
         have h3 := hdeps e (Array.mem_toList_iff.1 he1) he2.2
         rw [Nat.eq_of_beq_eq_true he2.1] at h3
         have hsz := hlt s0.1 ((hmem s0.1).2 ⟨s0, hs0, rfl⟩)
         simp only [Array.getD, show s0.1 < cur.size by omega, dite_true] at h3 hs0u
         rw [h3] at hs0u; cases hs0u
     have hne : Region.ready .any all cur ≠ [] := by
       intro h0
       -- the least one that is left
       have hex : ∃ i, i ∈ idx ∧ cur.getD i true = false := ⟨s0.1, (hmem s0.1).2 ⟨s0, hs0, rfl⟩, hs0u⟩
       have least : ∀ n i, i ≤ n → i ∈ idx → cur.getD i true = false → False := by
         intro n
         induction n with
         | zero =>
           intro i hi him hiu
           have h1 := ok1 i him
           simp only [Bool.and_eq_true] at h1
           cases hoo : all[i]? with
           | none => rw [hoo] at h1; exact absurd h1.2 (by simp)
           | some o =>
             rw [hoo] at h1
             simp only [Bool.and_eq_true] at h1
             have h2 := List.all_eq_true.1 h1.2.2
             have : i ∈ Region.ready .any all cur := mem_ready.2 ⟨hiu, o, hoo, fun e he hb => by
               have := h2 e (Array.mem_toList_iff.2 he)
               rw [hb] at this
               simp only [Bool.not_true, Bool.false_or, Bool.and_eq_true] at this
               have := Nat.le_of_ble_eq_true this.1
               omega⟩
             rw [h0] at this; simp at this
         | succ n ihn =>
           intro i hi him hiu
           have h1 := ok1 i him
           simp only [Bool.and_eq_true] at h1
           cases hoo : all[i]? with
           | none => rw [hoo] at h1; exact absurd h1.2 (by simp)
           | some o =>
             rw [hoo] at h1
             simp only [Bool.and_eq_true] at h1
             have h2 := List.all_eq_true.1 h1.2.2
             have : i ∈ Region.ready .any all cur := mem_ready.2 ⟨hiu, o, hoo, fun e he hb => by
               have h3 := h2 e (Array.mem_toList_iff.2 he)
               rw [hb] at h3
               simp only [Bool.not_true, Bool.false_or, Bool.and_eq_true, Bool.or_eq_true] at h3
               have hlt' : e.on < i := Nat.le_of_ble_eq_true h3.1
               by_cases hei : e.on ∈ idx
               · cases hq : cur.getD e.on true with
                 | false => exact (ihn e.on (by omega) hei hq).elim
                 | true =>
                   have hsz := hlt e.on hei
                   simp only [Array.getD, show e.on < cur.size by omega, dite_true] at hq ⊢
                   exact hq
               · rcases h3.2 with q | q
                 · exact absurd (by simpa using q) hei
                 · have h2 : cur.getD e.on false = listed.getD e.on false := by simp only [Array.getD_eq_getD_getElem?, hco e.on hei]
                   rw [h2]; exact q⟩
             rw [h0] at this; simp at this
       obtain ⟨i, hi1, hi2⟩ := hex
       exact least i i (Nat.le_refl _) hi1 hi2
     refine zO rfl hne hd (zI1 (fun i hi o ho => ?_))
     obtain ⟨him, hiu⟩ := hsub i hi
     obtain ⟨s, hs1, hs2⟩ := (hmem i).1 him
     obtain ⟨o', K, g1, g2, g3, g4⟩ := hst s hs1
     rw [hs2, ho] at g1
     obtain rfl := Option.some.inj g1
     obtain ⟨_, o2, ho2, hdeps⟩ := mem_ready.1 hi
     rw [ho] at ho2
     obtain rfl := Option.some.inj ho2
     refine g3 _ fr (zDS fun p hp => ?_) (zB (zJ ?_))
     · rcases g4 p hp with q | ⟨s', q1, ⟨e, q2, q3, q4⟩, q5⟩
       · exact zDV hk0 p q
       · have h1 := hdeps e q2 q3
         rw [q4] at h1
         rw [← q5]
         refine hck s' q1 ?_
         have hsz := hlt s'.1 ((hmem s'.1).2 ⟨s', q1, rfl⟩)
         simp only [Array.getD, show s'.1 < cur.size by omega, dite_true] at h1 ⊢
         exact h1
     · have hisz := hlt i him
       refine ih (cur.setIfInBounds i true) _ (by simpa using hcs) (fun j hj => ?_) ?_ (fun s' hs' hu => ?_) ?_
       · rw [Array.getElem?_setIfInBounds_ne (show i ≠ j from fun e => hj (e ▸ him))]; exact hco j hj
       · -- one less
         have hf : st.filter (fun s' => !(cur.setIfInBounds i true).getD s'.1 true) = (st.filter (fun s' => !cur.getD s'.1 true)).filter (fun s' => decide (s'.1 ≠ i)) := by
           rw [List.filter_filter]
           congr 1
           funext s'
           by_cases hq : s'.1 = i
           · rw [hq]; simp [Array.getD, show i < cur.size by omega]
           · have hq' : ¬ i = s'.1 := fun e => hq e.symm
             simp [Array.getD_eq_getD_getElem?, Array.getElem?_setIfInBounds, hq, hq']
         unfold unl at hcm ⊢
         rw [hf]
         have hmemf : s ∈ st.filter (fun s' => !cur.getD s'.1 true) := List.mem_filter.2 ⟨hs1, by rw [hs2, hiu]; rfl⟩
         have hndf : ((st.filter (fun s' => !cur.getD s'.1 true)).map (·.1)).Nodup := List.Nodup.sublist (List.Sublist.map _ List.filter_sublist) hnd'
         revert hcm hmemf hndf
         generalize st.filter (fun s' => !cur.getD s'.1 true) = L
         intro hcm hmemf hndf
         have gen : ∀ (L : Steps) (n : Nat), L.length = n + 1 → s ∈ L → (L.map (·.1)).Nodup → (L.filter (fun s' => decide (s'.1 ≠ i))).length = n := by
           intro L
           induction L with
           | nil => intro n h; simp at h
           | cons x r ihL =>
             intro n hn hm hnd
             simp only [List.map_cons, List.nodup_cons] at hnd
             rcases List.mem_cons.1 hm with rfl | hm
             · have hno : ∀ y ∈ r, y.1 ≠ i := fun y hy e => hnd.1 (List.mem_map.2 ⟨y, hy, by rw [e, hs2]⟩)
               have : (r.filter (fun s' => decide (s'.1 ≠ i))) = r := List.filter_eq_self.2 (fun y hy => by simpa using hno y hy)
               rw [List.filter_cons_of_neg (by simp [hs2]), this]
               simpa using hn
             · have hx : x.1 ≠ i := fun e => hnd.1 (List.mem_map.2 ⟨s, hm, by rw [hs2, e]⟩)
               have hr0 : 0 < r.length := List.length_pos_iff.2 (by rintro rfl; simp at hm)
               obtain ⟨n', rfl⟩ : ∃ n', n = n' + 1 := ⟨n - 1, by simp at hn; omega⟩
               rw [List.filter_cons_of_pos (by simpa using hx), List.length_cons, ihL n' (by simpa using hn) hm hnd.2]
         exact gen L m hcm hmemf hndf
       · by_cases hq : s'.1 = i
         · have : s' = s := by
             have h1 : s ∈ st := hs1
             have hinj : ∀ (L : Steps), (L.map (·.1)).Nodup → ∀ x ∈ L, ∀ y ∈ L, x.1 = y.1 → x = y := by
               intro L
               induction L with
               | nil => intro _ x hx; simp at hx
               | cons z r ihL =>
                 intro hnd x hx y hy hxy
                 simp only [List.map_cons, List.nodup_cons] at hnd
                 rcases List.mem_cons.1 hx with hx | hx <;> rcases List.mem_cons.1 hy with hy | hy
                 · rw [hx, hy]
                 · exact absurd (List.mem_map.2 ⟨y, hy, by rw [← hxy, hx]⟩) hnd.1
                 · exact absurd (List.mem_map.2 ⟨x, hx, by rw [hxy, hy]⟩) hnd.1
                 · exact ihL hnd.2 x hx y hy hxy
             exact hinj st hnd' s' hs' s hs1 (by rw [hq, hs2])
           rw [this]
           exact zLT _ _ _
         · have h1 : cur.getD s'.1 true = true := by
             have hq' : ¬ i = s'.1 := fun e => hq e.symm
             simpa [Array.getD_eq_getD_getElem?, Array.getElem?_setIfInBounds, hq'] using hu
           have h2 := hck s' hs' h1
           -- another slot
           have hne2 : s'.2.1 ≠ s.2.1 := by
             intro e
             obtain ⟨o3, _, f1, f2, _, _⟩ := hst s' hs'
             have h3 := List.all_eq_true.1 (ok3 s'.1 ((hmem s'.1).2 ⟨s', hs', rfl⟩)) i him
             rw [f1, ho] at h3
             simp only [Bool.or_eq_true, Bool.not_eq_true', f2, g2] at h3
             rcases h3 with h3 | h3
             · exact hq (Nat.eq_of_beq_eq_true h3)
             · rw [e] at h3; simp at h3
           show (bif Nat.beq s'.2.1 s.2.1 then some s.2.2 else zAt s'.2.1 fr) = _
           rw [zBM hne2]; exact h2
       · refine zDS fun p hp => ?_
         have h1 := ok1 i him
         simp only [Bool.and_eq_true] at h1
         rw [ho] at h1
         simp only [g2, Bool.and_eq_true, Bool.not_eq_true'] at h1
         have hne3 : p.1 ≠ s.2.1 := by
           intro e
           have : (K0.map (·.1)).contains s.2.1 = true := by
             rw [List.contains_iff_mem]
             exact List.mem_map.2 ⟨p, hp, e⟩
           rw [h1.2.1] at this; cases this
         show (bif Nat.beq p.1 s.2.1 then some s.2.2 else zAt p.1 fr) = _
         rw [zBM hne3]; exact zDV hk0 p hp
 have hm0 : unl listed st = idx.length := by
   unfold unl
   rw [List.filter_eq_self.2 (fun s hs => ?_), hlen]
   have := ok1 s.1 ((hmem s.1).2 ⟨s, hs, rfl⟩)
   simp only [Bool.and_eq_true] at this
   exact this.1
 have := key idx.length listed fr rfl (fun _ _ => rfl) hm0 (fun s hs hu => by
   have h1 := ok1 s.1 ((hmem s.1).2 ⟨s, hs, rfl⟩)
   simp only [Bool.and_eq_true, Bool.not_eq_true'] at h1
   rw [h1.1] at hu; cases hu) hK
 exact this
variable {ind : Bool} {d : Option Nat} {ty : TypeId} {pos : String} {after : Array Edge} {g : Option (Nat × Bool)}
/-- Reading a part of a variable that is a struct. -/
theorem zq {x : Operand} {t : TypeId} {u : TypeDesc} {h i j : Nat} {ob : AObj} {inf : TypeInfo} {L : List AV} (ht : P.underlying t = some u) (hu : zBg u = true) (hinf : P.info? t = some inf) (hsz : Nat.ble (j + inf.size) ob.c.sz = true) (hx : ev fr x = some (.ptr h i j)) (hh : H[h]? = some (some ob))
   (hL : (List.range inf.size).map (fun e => ob.c.at i (j + e)) = L) (hi : i < ob.c.len) : QOp false P fn c fr H ⟨d, .load t x, ty, pos, after, g⟩ (.agg L) := by
 intro w a σ S hr
 have h1 := hr.evAt hx
 subst hL
 have hsz' := Nat.le_of_ble_eq_true hsz
 generalize hz : a.eval x = z at h1
 cases h1 with
 | ptr _ _ _ _ b s C hσ =>
   obtain ⟨hs', cur, g1, g2, g3, g4, g5, g6⟩ := hr.obj hh hσ
   subst hs'
   have hcell : ∀ w' : World, w'.heap = w.heap → ∀ e, e < inf.size → ∃ y, w'.cell? ⟨b, i * ob.c.sz + j + e, none⟩ = some y ∧ VR w S σ (ob.c.at i (j + e)) y ∧ y.oneCell' = true := by
     intro w' hw e he
     obtain ⟨y, e1, e2, e3⟩ := g6 i (j + e) hi (by omega)
     obtain ⟨mk, g1, _, _⟩ := g1.cells (by omega)
     exact ⟨y, by simp [World.cell?, hw, g1, Nat.add_assoc, e1], e2, e3⟩
   let cs : List Value := (List.range inf.size).map (fun e => (w.cell? ⟨b, i * ob.c.sz + j + e, none⟩).getD undef)
   refine ⟨.agg cs.toArray, .agg _ _ _ (by simp [cs]) (fun e he => ?_) (fun e he => ?_), fun w' hw => ?_⟩
   · have he' : e < inf.size := by simpa using he
     obtain ⟨y, e1, e2, _⟩ := hcell w rfl e he'
     simpa [cs, Array.getD, he', e1, List.getD] using e2
   · have he' : e < inf.size := by simpa using he
     obtain ⟨y, e1, _, e3⟩ := hcell w rfl e he'
     simpa [cs, Array.getD, he', e1] using e3
   · have hw := hw.resolve_left (by decide)
     have hl := run_loadCells_list (P := P) w' ⟨b, i * ob.c.sz + j, none⟩ cs (fun e v hv => by
       have he : e < inf.size := by simpa [cs] using (List.getElem?_eq_some_iff.1 hv).1
       obtain ⟨y, e1, _, _⟩ := hcell w rfl e he
       simp only [cs, List.getElem?_map, List.getElem?_range he, Option.map_some, Option.some.injEq] at hv
       subst hv
       rw [e1, Addr.add_lit]
       have := World.cell?_of_block (w := w) (w' := w') (a := ⟨b, i * ob.c.sz + j + e, none⟩) (by rw [hw])
       rw [this, e1]; rfl)
     have hcl : cs.length = inf.size := by simp [cs]
     rw [hcl] at hl
     have hz' : a.eval x = .pointer (some ⟨b, i * ob.c.sz + j, none⟩) := by rw [hz]
     simp [execOp, hz', Instr.loadAt, Instr.sureAddr, loadVar, zCl ht, hu, sizeOf, typeInfo, hinf, hl]
end
end Go.Ax
namespace Go.Ax.Rt
open Go.Ax.Bg
/-- The quotient of integers, its parts. -/
theorem zGI (n : Int) (d : Nat) (hd : d ≠ 0) : (Rat.divInt n d).num.natAbs = n.natAbs / Nat.gcd n.natAbs d ∧ (Rat.divInt n d).den = d / Nat.gcd n.natAbs d ∧ ((Rat.divInt n d).num < 0 ↔ n < 0) := by
 have e : Rat.divInt n d = Rat.normalize n d hd := by rw [Rat.divInt_ofNat, ← Rat.normalize_eq_mkRat]
 have hg : 0 < Nat.gcd n.natAbs d := Nat.gcd_pos_of_pos_right _ (by omega)
 have hdv : (Nat.gcd n.natAbs d : Int) ∣ n := by
   rw [Int.ofNat_dvd_left]; exact Nat.gcd_dvd_left _ _
 rw [e, Rat.num_normalize, Rat.den_normalize]
 obtain ⟨q, hq⟩ := hdv
 generalize Nat.gcd n.natAbs d = g at *
 refine ⟨?_, rfl, ?_⟩
 · rw [hq, Int.mul_ediv_cancel_left _ (by omega), Int.natAbs_mul, Int.natAbs_natCast, Nat.mul_div_cancel_left _ hg]
 · rw [hq, Int.mul_ediv_cancel_left _ (by omega)]
   constructor
   · intro h; exact Int.mul_neg_of_pos_of_neg (by omega) h
   · intro h
     rcases Int.lt_or_le q 0 with z | z
     · exact z
     · exact absurd h (Int.not_lt.2 (Int.mul_nonneg (by omega) z))
theorem zFx (n d : Int) (hd : d ≠ 0) : (Rat.divInt n d).num.natAbs = n.natAbs / Nat.gcd n.natAbs d.natAbs ∧ (Rat.divInt n d).den = d.natAbs / Nat.gcd n.natAbs d.natAbs ∧ ((Rat.divInt n d).num < 0 ↔ n ≠ 0 ∧ ((n < 0 ∧ ¬ d < 0) ∨ (¬ n < 0 ∧ d < 0))) := by
 rcases Int.lt_or_le d 0 with h | h
 · obtain ⟨m, rfl⟩ : ∃ m : Nat, d = -(m : Int) := ⟨d.natAbs, by omega⟩
   have e : Rat.divInt n (-(m : Int)) = Rat.divInt (-n) m := Rat.divInt_neg' n m
   obtain ⟨h1, h2, h3⟩ := zGI (-n) m (by omega)
   rw [e]
   rw [Int.natAbs_neg] at h1 h2
   rw [Int.natAbs_neg, Int.natAbs_natCast]
   exact ⟨h1, h2, h3.trans (by omega)⟩
 · obtain ⟨m, rfl⟩ : ∃ m : Nat, d = (m : Int) := ⟨d.natAbs, by omega⟩
   obtain ⟨h1, h2, h3⟩ := zGI n m (by omega)
   rw [Int.natAbs_natCast]
   exact ⟨h1, h2, h3.trans (by omega)⟩
theorem zHf (p q : Rat) : Rat.divInt (p.num * q.den + q.num * p.den) ((p.den * q.den : Nat) : Int) = p + q := by
 rw [Rat.add_def', Rat.divInt_ofNat]
theorem zJ0 (p q : Rat) : Rat.divInt (p.num * q.num) ((p.den * q.den : Nat) : Int) = p * q := by
 rw [Rat.mul_def', Rat.divInt_ofNat]
def sgn (x : Int) : Int := if x < 0 then -1 else if x = 0 then 0 else 1
def cmpQ (p q : Rat) : Int := if p < q then -1 else if p = q then 0 else 1
theorem sgn_cmp (p q : Rat) : sgn (p.num * q.den - q.num * p.den) = cmpQ p q := by
 unfold sgn cmpQ
 have h1 : p < q ↔ p.num * q.den - q.num * p.den < 0 := by rw [Rat.lt_iff]; omega
 have h2 : p = q ↔ p.num * q.den - q.num * p.den = 0 := by rw [Rat.eq_iff_mul_eq_mul]; omega
 simp only [h1, h2]
def zDR (b : Bool) (n : Nat) : Int := if b then -(n : Int) else n
theorem zDb (b : Bool) (n : Nat) : (zDR b n).natAbs = n := by unfold zDR; split <;> omega
theorem zHZ (b : Bool) (n : Nat) : decide (zDR b n < 0) = (b && decide (n ≠ 0)) := by
 unfold zDR
 cases b
 · simp <;> try omega
 · simp only [if_true, Bool.true_and]
   rw [decide_eq_decide]; omega
theorem zMW (x : Int) : zDR (decide (x < 0)) x.natAbs = x := by
 unfold zDR
 by_cases h : x < 0
 · simp [h]; omega
 · simp [h]; omega
end Go.Ax.Rt
namespace Go.Proofs.YtgmleamhjnlknaaGreatDoor
open Go.Ax Go.Ax.Bg Go.Ax.Rt Go.RowKit
attribute [local irreducible] Ax zAV QOp zV zAJ
set_option maxRecDepth 100000
set_option maxHeartbeats 4000000
def zBr (x : Int) : AV := .agg [.bool (decide (x < 0)), zAL x.natAbs]
theorem zEg (b : Bool) (n : Nat) : zk Tryz.prog 144 [.bool b, zAL n] (zBr (zDR b n)) := by
 have hp : 0 < (zh n).length ↔ n ≠ 0 := zBc
 have hr : zBr (zDR b n) = .agg [.bool (b && decide (n ≠ 0)), zAL n] := by unfold zBr; rw [zDb, zHZ]
 rw [hr]
 refine zV.value0 (zN (P := Tryz.prog) (fn := Tryz.f144) rfl rfl (by kernel_rfl) rfl (fun c hR hfix => ?_)) (fix := fun _ => False) (fun _ h => h) rfl rfl
 unfold zAL at hR ⊢
 cases b
 · repeat (first | refine zD (zF rfl) ?_ | refine zB ?_ | refine zA ?_ | refine zG ?_ | refine zC rfl ?_ | refine zp rfl rfl rfl ?_ | refine zD (zr rfl rfl) ?_ | refine zD (zAa rfl rfl rfl rfl rfl rfl) ?_ | refine z8 rfl rfl rfl ?_)
   refine zl (c' := .box [.bool false, .ro (.ints .u32 (zh n)) 0 (zh n).length]) rfl rfl rfl rfl rfl Nat.zero_lt_one rfl rfl (fun i' j' hi' hj' => ?_) ?_
   · rw [if_pos (Nat.lt_one_iff.1 hi')]; rfl
   repeat (first | refine zB ?_ | refine zA ?_ | refine zH ?_)
   exact zR hR rfl rfl
 · repeat (first | refine zD (zF rfl) ?_ | refine zB ?_ | refine zA ?_ | refine zG ?_ | refine zC rfl ?_ | refine zj rfl rfl ?_ | refine zD (zBU rfl rfl) ?_ | refine zD (zr rfl rfl) ?_ | refine zD (zw rfl rfl rfl) ?_ | refine zD (zAa rfl rfl rfl rfl rfl rfl) ?_ | refine z8 rfl rfl rfl ?_)
   have e : decide (0 < ((zh n).length : Int)) = decide (n ≠ 0) := by rw [decide_eq_decide, ← hp]; omega
   refine zl (c' := .box [.bool (decide (n ≠ 0)), .ro (.ints .u32 (zh n)) 0 (zh n).length]) rfl rfl rfl rfl rfl Nat.zero_lt_one rfl rfl (fun i' j' hi' hj' => ?_) ?_
   · rw [if_pos (Nat.lt_one_iff.1 hi'), ← e]; rfl
   repeat (first | refine zB ?_ | refine zA ?_ | refine zH ?_)
   exact zR hR rfl rfl
theorem mul_sgn (x y : Int) : zDR (!(decide (x < 0) == decide (y < 0))) (x.natAbs * y.natAbs) = x * y := by
 have h : (x * y).natAbs = x.natAbs * y.natAbs := Int.natAbs_mul x y
 unfold zDR
 rcases Int.lt_trichotomy x 0 with hx | hx | hx <;> rcases Int.lt_trichotomy y 0 with hy | hy | hy
 · have := Int.mul_pos_of_neg_of_neg hx hy
   simp only [hx, hy]; simp; omega
 · subst hy; simp
 · have := Int.mul_neg_of_neg_of_pos hx hy
   simp only [hx, show ¬ y < 0 by omega]; simp; omega
 · subst hx; simp
 · subst hx; simp
 · subst hx; simp
 · have := Int.mul_neg_of_pos_of_neg hx hy
   simp only [hy, show ¬ x < 0 by omega]; simp; omega
 · subst hy; simp
 · have := Int.mul_pos hx hy
   simp only [show ¬ x < 0 by omega, show ¬ y < 0 by omega]; simp; omega
theorem zGF (x y : Int) (hx : (zh x.natAbs).length ≤ 1000000) (hy : (zh y.natAbs).length ≤ 1000000) : zk Tryz.prog 138 [zBr x, zBr y] (zBr (x * y)) := by
 have h1 := zKp x.natAbs y.natAbs (by omega) (by omega)
 have h2 := zEg (!(decide (x < 0) == decide (y < 0))) (x.natAbs * y.natAbs)
 rw [mul_sgn] at h2
 refine zV.value0 (zN (P := Tryz.prog) (fn := Tryz.f138) rfl rfl (by kernel_rfl) rfl (fun c hR hfix => ?_)) (fix := fun _ => False) (fun _ h => h) rfl rfl
 repeat (first | refine zB ?_ | refine zA ?_ | refine zG ?_ | refine zC rfl ?_ | refine zA8 rfl rfl ?_ | refine z8 rfl rfl rfl ?_)
 refine zAI (by kernel_rfl) ?_
 refine zAR (fuel := 1) [0, 1, 2, 3, 4, 5, 6, 7, 8, 9, 10] [(2, .ptr 0 0 0), (3, .ptr 1 0 0), (4, .ptr 2 0 0)] ⟨rfl, rfl, rfl, trivial⟩ (by kernel_rfl) (by decide) rfl rfl ?_
 refine zn rfl rfl (zL rfl rfl rfl rfl rfl rfl) ?_
 refine zn rfl rfl (zI rfl rfl rfl rfl rfl) ?_
 refine zn rfl rfl (zL rfl rfl rfl rfl rfl rfl) ?_
 refine zn rfl rfl (zI rfl rfl rfl rfl rfl) ?_
 refine zn rfl rfl (zIn rfl rfl rfl) ?_
 refine zn rfl rfl (zL rfl rfl rfl rfl rfl rfl) ?_
 refine zn rfl rfl (zI rfl rfl rfl rfl rfl) ?_
 refine zn rfl rfl (zL rfl rfl rfl rfl rfl rfl) ?_
 refine zn rfl rfl (zI rfl rfl rfl rfl rfl) ?_
 refine zCb rfl rfl rfl rfl rfl h1 ?_
 refine zCb rfl rfl rfl rfl rfl h2 ?_
 refine zAs ?_
 refine zO (is := [11]) (by kernel_rfl) (by simp) rfl ⟨fun o ho => ?_, trivial⟩
 all_goals (cases ho)
 skip
 unfold zBr zAL
 refine zl (c' := .box [.bool (decide (x * y < 0)), .ro (.ints .u32 (zh (x * y).natAbs)) 0 (zh (x * y).natAbs).length]) rfl rfl rfl rfl rfl Nat.zero_lt_one rfl rfl (fun i' j' hi' hj' => ?_) ?_
 · rw [if_pos (Nat.lt_one_iff.1 hi')]; rfl
 repeat (first | refine zB ?_ | refine zJ ?_)
 refine zAB (by kernel_rfl) ?_
 repeat (first | refine zA ?_ | refine zH ?_)
 exact zR hR rfl rfl
end Go.Proofs.YtgmleamhjnlknaaGreatDoor
namespace Go.Proofs.YtgmleamhjnlknaaGreatDoor
open Go.Ax Go.Ax.Bg Go.Ax.Rt Go.RowKit
attribute [local irreducible] Ax zAV QOp zV zAJ
set_option maxRecDepth 100000
set_option maxHeartbeats 4000000
theorem opp_sgn (x : Int) : zDR (!decide (x < 0)) x.natAbs = -x := by
 unfold zDR
 by_cases h : x < 0
 · simp [h]; omega
 · simp [h]; omega
theorem iopp_ok (x : Int) : zk Tryz.prog 104 [zBr x] (zBr (-x)) := by
 have h2 := zEg (!decide (x < 0)) x.natAbs
 rw [opp_sgn] at h2
 refine zV.value0 (zN (P := Tryz.prog) (fn := Tryz.f104) rfl rfl (by kernel_rfl) rfl (fun c hR hfix => ?_)) (fix := fun _ => False) (fun _ h => h) rfl rfl
 repeat (first | refine zB ?_ | refine zA ?_ | refine zG ?_ | refine zC rfl ?_ | refine zD (zI rfl rfl rfl rfl rfl) ?_ | refine zD (zAw rfl) ?_ | refine zD (zL rfl rfl rfl rfl rfl rfl) ?_ | refine zA8 rfl rfl ?_ | refine z8 rfl rfl rfl ?_)
 refine zM rfl rfl rfl h2 ?_
 skip
 unfold zBr
 refine zl (c' := .box [.bool (decide (-x < 0)), zAL (-x).natAbs]) rfl rfl rfl rfl rfl Nat.zero_lt_one rfl rfl (fun i' j' hi' hj' => ?_) ?_
 · rw [if_pos (Nat.lt_one_iff.1 hi')]; rfl
 repeat (first | refine zB ?_ | refine zA ?_ | refine zH ?_)
 exact zR hR rfl rfl
theorem isign_ok (x : Int) : zk Tryz.prog 141 [zBr x] (.int .i64 (sgn x)) := by
 have hp : 0 < (zh x.natAbs).length ↔ x.natAbs ≠ 0 := zBc
 unfold sgn
 refine zV.value0 (zN (P := Tryz.prog) (fn := Tryz.f141) rfl rfl (by kernel_rfl) rfl (fun c hR hfix => ?_)) (fix := fun _ => False) (fun _ h => h) rfl rfl
 unfold zBr zAL
 rcases Int.lt_trichotomy x 0 with h | h | h
 · have e : decide (x < 0) = true := decide_eq_true h
   rw [e]
   rw [if_pos h] at hR
   repeat (first | refine zD (zE rfl) ?_ | refine zB ?_ | refine zA ?_ | refine zG ?_ | refine zC rfl ?_ | refine zT ?_ | refine zD (zI rfl rfl rfl rfl rfl) ?_ | refine zD (zA0 rfl rfl) ?_ | refine zD (zw rfl rfl rfl) ?_ | refine zD (zL rfl rfl rfl rfl rfl rfl) ?_ | refine zA8 rfl rfl ?_)
   refine zK rfl (fun h0 => absurd h0 (by omega)) (fun h0 => ?_)
   repeat (first | refine zD (zE rfl) ?_ | refine zB ?_ | refine zA ?_ | refine zG ?_ | refine zC rfl ?_ | refine zf rfl ?_ | refine zH ?_ | refine zQ ?_ | refine zo ?_ | refine zD (zI rfl rfl rfl rfl rfl) ?_ | refine zD (zL rfl rfl rfl rfl rfl rfl) ?_)
   exact zR hR rfl rfl
 · subst h
   rw [if_neg (by omega), if_pos rfl] at hR
   have e0 : zh (0 : Int).natAbs = [] := zBK
   rw [e0]
   repeat (first | refine zD (zE rfl) ?_ | refine zB ?_ | refine zA ?_ | refine zG ?_ | refine zC rfl ?_ | refine zf rfl ?_ | refine zT ?_ | refine zH ?_ | refine zQ ?_ | refine zo ?_ | refine zD (zI rfl rfl rfl rfl rfl) ?_ | refine zD (zA0 rfl rfl) ?_ | refine zD (zw rfl rfl rfl) ?_ | refine zD (zL rfl rfl rfl rfl rfl rfl) ?_ | refine zA8 rfl rfl ?_)
   exact zR hR rfl rfl
 · have e : decide (x < 0) = false := decide_eq_false (by omega)
   rw [e]
   rw [if_neg (by omega), if_neg (by omega)] at hR
   repeat (first | refine zD (zE rfl) ?_ | refine zB ?_ | refine zA ?_ | refine zG ?_ | refine zC rfl ?_ | refine zT ?_ | refine zD (zI rfl rfl rfl rfl rfl) ?_ | refine zD (zA0 rfl rfl) ?_ | refine zD (zw rfl rfl rfl) ?_ | refine zD (zL rfl rfl rfl rfl rfl rfl) ?_ | refine zA8 rfl rfl ?_)
   refine zK rfl (fun h0 => absurd h0 (by omega)) (fun h0 => ?_)
   repeat (first | refine zD (zE rfl) ?_ | refine zB ?_ | refine zA ?_ | refine zG ?_ | refine zC rfl ?_ | refine ze rfl ?_ | refine zZ ?_ | refine zP ?_ | refine zH ?_ | refine zD (zI rfl rfl rfl rfl rfl) ?_ | refine zD (zL rfl rfl rfl rfl rfl rfl) ?_)
   exact zR hR rfl rfl
theorem add_sgn1 (x y : Int) (h : decide (x < 0) = decide (y < 0)) : zDR (decide (x < 0)) (x.natAbs + y.natAbs) = x + y := by
 unfold zDR
 rw [decide_eq_decide] at h
 by_cases h1 : x < 0
 · simp [h1]; omega
 · simp [h1]; omega
theorem add_sgn2 (x y : Int) (h : ¬ decide (x < 0) = decide (y < 0)) (h2 : y.natAbs ≤ x.natAbs) : zDR (decide (x < 0)) (x.natAbs - y.natAbs) = x + y := by
 unfold zDR
 rw [decide_eq_decide] at h
 by_cases h1 : x < 0
 · simp [h1]; omega
 · simp [h1]; omega
theorem add_sgn3 (x y : Int) (h : ¬ decide (x < 0) = decide (y < 0)) (h2 : ¬ y.natAbs ≤ x.natAbs) : zDR (decide (y < 0)) (y.natAbs - x.natAbs) = x + y := by
 unfold zDR
 rw [decide_eq_decide] at h
 by_cases h1 : y < 0
 · simp [h1]; omega
 · simp [h1]; omega
theorem zLl {x y : Int} : 0 ≤ zCn x y ↔ y ≤ x := by
 unfold zCn
 split
 · omega
 · split <;> omega
theorem zLf (x y : Int) (hx : (zh x.natAbs).length ≤ 1000000) (hy : (zh y.natAbs).length ≤ 1000000) : zk Tryz.prog 139 [zBr x, zBr y] (zBr (x + y)) := by
 by_cases h : decide (x < 0) = decide (y < 0)
 · have h1 := add_ok x.natAbs y.natAbs (by omega) (by omega)
   have h2 := zEg (decide (x < 0)) (x.natAbs + y.natAbs)
   rw [add_sgn1 x y h] at h2
   refine zV.value0 (zN (P := Tryz.prog) (fn := Tryz.f139) rfl rfl (by kernel_rfl) rfl (fun c hR hfix => ?_)) (fix := fun _ => False) (fun _ h => h) rfl rfl
   unfold zBr at hR ⊢
   repeat (first | refine zB ?_ | refine zA ?_ | refine zG ?_ | refine zC rfl ?_ | refine zD (zI rfl rfl rfl rfl rfl) ?_ | refine zD (zL rfl rfl rfl rfl rfl rfl) ?_ | refine zD (zHN rfl rfl rfl) ?_ | refine zA8 rfl rfl ?_ | refine z8 rfl rfl rfl ?_)
   refine zAv 9 (.bool true) rfl (AEq.of_eq (by rw [h]; simp)) ?_
   repeat (first | refine zG ?_ | refine zf rfl ?_)
   refine zAI (by kernel_rfl) ?_
   refine zAR (fuel := 1) [0, 1, 2, 3, 4, 5, 6, 7] [(2, .ptr 0 0 0), (3, .ptr 1 0 0), (4, .ptr 2 0 0)] ⟨rfl, rfl, rfl, trivial⟩ (by kernel_rfl) (by decide) rfl rfl ?_
   refine zn rfl rfl (zL rfl rfl rfl rfl rfl rfl) ?_
   refine zn rfl rfl (zI rfl rfl rfl rfl rfl) ?_
   refine zn rfl rfl (zL rfl rfl rfl rfl rfl rfl) ?_
   refine zn rfl rfl (zI rfl rfl rfl rfl rfl) ?_
   refine zn rfl rfl (zL rfl rfl rfl rfl rfl rfl) ?_
   refine zn rfl rfl (zI rfl rfl rfl rfl rfl) ?_
   refine zCb rfl rfl rfl rfl rfl h1 ?_
   refine zCb rfl rfl rfl rfl rfl h2 ?_
   refine zAs ?_
   refine zO (is := [8]) (by kernel_rfl) (by simp) rfl ⟨fun o ho => ?_, trivial⟩
   all_goals (cases ho)
   skip
   unfold zBr
   refine zl (c' := .box [.bool (decide (x + y < 0)), zAL (x + y).natAbs]) rfl rfl rfl rfl rfl Nat.zero_lt_one rfl rfl (fun i' j' hi' hj' => ?_) ?_
   · rw [if_pos (Nat.lt_one_iff.1 hi')]; rfl
   repeat (first | refine zB ?_ | refine zJ ?_)
   refine zAB (by kernel_rfl) ?_
   repeat (first | refine zA ?_ | refine zH ?_ | refine zQ ?_)
   exact zR hR rfl rfl
 · have h0 := zJM x.natAbs y.natAbs (by omega) (by omega)
   by_cases hc : y.natAbs ≤ x.natAbs
   · have h1 := sub_ok x.natAbs y.natAbs hc (by omega)
     have h2 := zEg (decide (x < 0)) (x.natAbs - y.natAbs)
     rw [add_sgn2 x y h hc] at h2
     refine zV.value0 (zN (P := Tryz.prog) (fn := Tryz.f139) rfl rfl (by kernel_rfl) rfl (fun c hR hfix => ?_)) (fix := fun _ => False) (fun _ h => h) rfl rfl
     unfold zBr at hR ⊢
     repeat (first | refine zB ?_ | refine zA ?_ | refine zG ?_ | refine zC rfl ?_ | refine zD (zI rfl rfl rfl rfl rfl) ?_ | refine zD (zL rfl rfl rfl rfl rfl rfl) ?_ | refine zD (zHN rfl rfl rfl) ?_ | refine zA8 rfl rfl ?_ | refine z8 rfl rfl rfl ?_)
     refine zAv 9 (.bool false) rfl (AEq.of_eq (by rw [beq_eq_false_iff_ne.2 h])) ?_
     repeat (first | refine zA ?_ | refine zG ?_ | refine zC rfl ?_ | refine ze rfl ?_ | refine zP ?_ | refine zD (zI rfl rfl rfl rfl rfl) ?_ | refine zD (zL rfl rfl rfl rfl rfl rfl) ?_)
     refine zM rfl rfl rfl h0 ?_
     repeat (first | refine zB ?_ | refine zA ?_ | refine zD (zC2 rfl rfl) ?_)
     refine zK rfl (fun h5 => ?_) (fun h5 => absurd (zLl.2 (Int.ofNat_le.2 hc)) h5)
     repeat (refine zG ?_)
     refine zAI (by kernel_rfl) ?_
     refine zAR (fuel := 1) [0, 1, 2, 3, 4, 5, 6, 7] [(2, .ptr 0 0 0), (3, .ptr 1 0 0), (4, .ptr 2 0 0)] ⟨rfl, rfl, rfl, trivial⟩ (by kernel_rfl) (by decide) rfl rfl ?_
     refine zn rfl rfl (zL rfl rfl rfl rfl rfl rfl) ?_
     refine zn rfl rfl (zI rfl rfl rfl rfl rfl) ?_
     refine zn rfl rfl (zL rfl rfl rfl rfl rfl rfl) ?_
     refine zn rfl rfl (zI rfl rfl rfl rfl rfl) ?_
     refine zn rfl rfl (zL rfl rfl rfl rfl rfl rfl) ?_
     refine zn rfl rfl (zI rfl rfl rfl rfl rfl) ?_
     refine zCb rfl rfl rfl rfl rfl h1 ?_
     refine zCb rfl rfl rfl rfl rfl h2 ?_
     refine zAs ?_
     refine zO (is := [8]) (by kernel_rfl) (by simp) rfl ⟨fun o ho => ?_, trivial⟩
     all_goals (cases ho)
     skip
     unfold zBr
     refine zl (c' := .box [.bool (decide (x + y < 0)), zAL (x + y).natAbs]) rfl rfl rfl rfl rfl Nat.zero_lt_one rfl rfl (fun i' j' hi' hj' => ?_) ?_
     · rw [if_pos (Nat.lt_one_iff.1 hi')]; rfl
     repeat (first | refine zB ?_ | refine zJ ?_)
     refine zAB (by kernel_rfl) ?_
     repeat (first | refine zA ?_ | refine zH ?_ | refine zQ ?_)
     exact zR hR rfl rfl
   · have h1 := sub_ok y.natAbs x.natAbs (by omega) (by omega)
     have h2 := zEg (decide (y < 0)) (y.natAbs - x.natAbs)
     rw [add_sgn3 x y h hc] at h2
     refine zV.value0 (zN (P := Tryz.prog) (fn := Tryz.f139) rfl rfl (by kernel_rfl) rfl (fun c hR hfix => ?_)) (fix := fun _ => False) (fun _ h => h) rfl rfl
     unfold zBr at hR ⊢
     repeat (first | refine zB ?_ | refine zA ?_ | refine zG ?_ | refine zC rfl ?_ | refine zD (zI rfl rfl rfl rfl rfl) ?_ | refine zD (zL rfl rfl rfl rfl rfl rfl) ?_ | refine zD (zHN rfl rfl rfl) ?_ | refine zA8 rfl rfl ?_ | refine z8 rfl rfl rfl ?_)
     refine zAv 9 (.bool false) rfl (AEq.of_eq (by rw [beq_eq_false_iff_ne.2 h])) ?_
     repeat (first | refine zA ?_ | refine zG ?_ | refine zC rfl ?_ | refine ze rfl ?_ | refine zP ?_ | refine zD (zI rfl rfl rfl rfl rfl) ?_ | refine zD (zL rfl rfl rfl rfl rfl rfl) ?_)
     refine zM rfl rfl rfl h0 ?_
     repeat (first | refine zB ?_ | refine zA ?_ | refine zD (zC2 rfl rfl) ?_)
     refine zK rfl (fun h5 => absurd (Int.ofNat_le.1 (zLl.1 h5)) hc) (fun h5 => ?_)
     repeat (first | refine zA ?_ | refine zG ?_ | refine zP ?_)
     refine zAI (by kernel_rfl) ?_
     refine zAR (fuel := 1) [0, 1, 2, 3, 4, 5, 6, 7] [(2, .ptr 0 0 0), (3, .ptr 1 0 0), (4, .ptr 2 0 0)] ⟨rfl, rfl, rfl, trivial⟩ (by kernel_rfl) (by decide) rfl rfl ?_
     refine zn rfl rfl (zL rfl rfl rfl rfl rfl rfl) ?_
     refine zn rfl rfl (zI rfl rfl rfl rfl rfl) ?_
     refine zn rfl rfl (zL rfl rfl rfl rfl rfl rfl) ?_
     refine zn rfl rfl (zI rfl rfl rfl rfl rfl) ?_
     refine zn rfl rfl (zL rfl rfl rfl rfl rfl rfl) ?_
     refine zn rfl rfl (zI rfl rfl rfl rfl rfl) ?_
     refine zCb rfl rfl rfl rfl rfl h1 ?_
     refine zCb rfl rfl rfl rfl rfl h2 ?_
     refine zAs ?_
     refine zO (is := [8]) (by kernel_rfl) (by simp) rfl ⟨fun o ho => ?_, trivial⟩
     all_goals (cases ho)
     skip
     unfold zBr
     refine zl (c' := .box [.bool (decide (x + y < 0)), zAL (x + y).natAbs]) rfl rfl rfl rfl rfl Nat.zero_lt_one rfl rfl (fun i' j' hi' hj' => ?_) ?_
     · rw [if_pos (Nat.lt_one_iff.1 hi')]; rfl
     repeat (first | refine zB ?_ | refine zJ ?_)
     refine zAB (by kernel_rfl) ?_
     repeat (first | refine zA ?_ | refine zH ?_)
     exact zR hR rfl rfl
theorem len_neg {x : Int} {k : Nat} (h : (zh x.natAbs).length ≤ k) : (zh (-x).natAbs).length ≤ k := by rw [Int.natAbs_neg]; exact h
theorem isub_ok (x y : Int) (hx : (zh x.natAbs).length ≤ 1000000) (hy : (zh y.natAbs).length ≤ 1000000) : zk Tryz.prog 157 [zBr x, zBr y] (zBr (x - y)) := by
 have h1 := iopp_ok y
 have h2 := zLf x (-y) hx (len_neg hy)
 rw [show x + -y = x - y from rfl] at h2
 refine zV.value0 (zN (P := Tryz.prog) (fn := Tryz.f157) rfl rfl (by kernel_rfl) rfl (fun c hR hfix => ?_)) (fix := fun _ => False) (fun _ h => h) rfl rfl
 repeat (first | refine zB ?_ | refine zA ?_ | refine zG ?_ | refine zC rfl ?_ | refine zA8 rfl rfl ?_ | refine z8 rfl rfl rfl ?_)
 refine zAI (by kernel_rfl) ?_
 refine zAR (fuel := 1) [0, 1, 2, 3] [(2, .ptr 0 0 0), (3, .ptr 1 0 0), (4, .ptr 2 0 0)] ⟨rfl, rfl, rfl, trivial⟩ (by kernel_rfl) (by decide) rfl rfl ?_
 refine zn rfl rfl (zq rfl rfl rfl rfl rfl rfl rfl (by first | exact Nat.zero_lt_one | assumption | omega)) ?_
 refine zn rfl rfl (zq rfl rfl rfl rfl rfl rfl rfl (by first | exact Nat.zero_lt_one | assumption | omega)) ?_
 refine zCb rfl rfl rfl rfl rfl h1 ?_
 refine zCb rfl rfl rfl rfl rfl h2 ?_
 refine zAs ?_
 refine zO (is := [4]) (by kernel_rfl) (by simp) rfl ⟨fun o ho => ?_, trivial⟩
 all_goals (cases ho)
 skip
 unfold zBr
 refine zl (c' := .box [.bool (decide (x - y < 0)), zAL (x - y).natAbs]) rfl rfl rfl rfl rfl Nat.zero_lt_one rfl rfl (fun i' j' hi' hj' => ?_) ?_
 · rw [if_pos (Nat.lt_one_iff.1 hi')]; rfl
 repeat (first | refine zB ?_ | refine zJ ?_)
 refine zAB (by kernel_rfl) ?_
 repeat (first | refine zA ?_ | refine zH ?_)
 exact zR hR rfl rfl
theorem icmp_ok (x y : Int) (hx : (zh x.natAbs).length ≤ 1000000) (hy : (zh y.natAbs).length ≤ 1000000) : zk Tryz.prog 147 [zBr x, zBr y] (.int .i64 (sgn (x - y))) := by
 have h1 := isub_ok x y hx hy
 have h2 := isign_ok (x - y)
 refine zV.value0 (zN (P := Tryz.prog) (fn := Tryz.f147) rfl rfl (by kernel_rfl) rfl (fun c hR hfix => ?_)) (fix := fun _ => False) (fun _ h => h) rfl rfl
 repeat (first | refine zD (zE rfl) ?_ | refine zB ?_ | refine zA ?_ | refine zG ?_ | refine zC rfl ?_ | refine zD (zq rfl rfl rfl rfl rfl rfl rfl (by first | exact Nat.zero_lt_one | assumption | omega)) ?_ | refine zA8 rfl rfl ?_)
 refine zM rfl rfl rfl h1 ?_
 skip
 refine zM rfl rfl rfl h2 ?_
 repeat (first | refine zD (zE rfl) ?_ | refine zB ?_ | refine zA ?_ | refine zH ?_)
 exact zR hR rfl rfl
theorem whole_ok (n : Int) (h : -9223372036854775808 ≤ n ∧ n < 9223372036854775808) : zk Tryz.prog 73 [.int .i64 n] (zBr n) := by
 refine zV.value0 (zN (P := Tryz.prog) (fn := Tryz.f73) rfl rfl (by kernel_rfl) rfl (fun c hR hfix => ?_)) (fix := fun _ => False) (fun _ h => h) rfl rfl
 rcases Int.lt_or_le n 0 with hn | hn
 · have h1 := zH0 n.natAbs (by omega)
   repeat (first | refine zD (zF rfl) ?_ | refine zB ?_ | refine zA ?_ | refine zG ?_ | refine zC rfl ?_ | refine zD (zAQ rfl rfl) ?_ | refine z8 rfl rfl rfl ?_)
   refine zK rfl (fun _ => ?_) (fun h0 => absurd hn h0)
   repeat (first | refine zD (zF rfl) ?_ | refine zG ?_ | refine zC rfl ?_ | refine zD (zAK rfl rfl (by omega)) ?_)
   refine zD (q_neg rfl (by omega)) ?_
   refine zU 7 (.int .i64 ((n.natAbs - 1 : Nat) : Int)) rfl (AEq.of_eq (congrArg _ (by omega))) ?_
   refine zD (zAX (m := n.natAbs - 1) rfl rfl rfl zA2 (by omega)) ?_
   refine zD (zD4 (m := n.natAbs - 1) (n := 1) rfl rfl zA2 (by omega)) ?_
   refine zU 9 (.int .u64 ((n.natAbs : Nat) : Int)) rfl (AEq.of_eq (congrArg _ (by omega))) ?_
   skip
   refine zM rfl rfl rfl h1 ?_
   repeat (refine zD (zAa rfl rfl rfl rfl rfl rfl) ?_)
   refine zl (c' := .box [.bool true, zAL n.natAbs]) rfl rfl rfl rfl rfl Nat.zero_lt_one rfl rfl (fun i' j' hi' hj' => ?_) ?_
   · rw [if_pos (Nat.lt_one_iff.1 hi')]; rfl
   repeat (first | refine zB ?_ | refine zA ?_ | refine zH ?_ | refine zQ ?_)
   refine zR hR rfl ?_
   unfold zBr
   rw [show decide (n < 0) = true from decide_eq_true hn]
   rfl
 · have h1 := zH0 n.natAbs (by omega)
   repeat (first | refine zD (zF rfl) ?_ | refine zB ?_ | refine zA ?_ | refine zG ?_ | refine zC rfl ?_ | refine zD (zAQ rfl rfl) ?_ | refine z8 rfl rfl rfl ?_)
   refine zK rfl (fun h0 => absurd h0 (by omega)) (fun h0 => ?_)
   repeat (first | refine zD (zF rfl) ?_ | refine zA ?_ | refine zG ?_ | refine zC rfl ?_ | refine zP ?_)
   refine zU 12 (.int .i64 ((n.natAbs : Nat) : Int)) rfl (AEq.of_eq (congrArg _ (by omega))) ?_
   refine zD (zAX (m := n.natAbs) rfl rfl rfl zA2 (by omega)) ?_
   skip
   refine zM rfl rfl rfl h1 ?_
   repeat (refine zD (zAa rfl rfl rfl rfl rfl rfl) ?_)
   refine zl (c' := .box [.bool false, zAL n.natAbs]) rfl rfl rfl rfl rfl Nat.zero_lt_one rfl rfl (fun i' j' hi' hj' => ?_) ?_
   · rw [if_pos (Nat.lt_one_iff.1 hi')]; rfl
   repeat (first | refine zB ?_ | refine zA ?_ | refine zH ?_)
   refine zR hR rfl ?_
   unfold zBr
   rw [show decide (n < 0) = false from decide_eq_false (by omega)]
   rfl
end Go.Proofs.YtgmleamhjnlknaaGreatDoor
namespace Go.Proofs.YtgmleamhjnlknaaGreatDoor
open Go.Ax Go.Ax.Bg Go.Ax.Rt Go.RowKit
attribute [local irreducible] Ax zAV QOp zV zAJ
set_option maxRecDepth 100000
set_option maxHeartbeats 4000000
def qA (q : Rat) : AV := .agg [.bool (decide (q.num < 0)), zAL q.num.natAbs, zAL q.den]
theorem zHF (n : Nat) : zBr (n : Int) = .agg [.bool false, zAL n] := by
 unfold zBr
 rw [show decide ((n : Int) < 0) = false from decide_eq_false (by omega), Int.natAbs_natCast]
theorem bne_iff {x y z : Int} (h : z < 0 ↔ x ≠ 0 ∧ ((x < 0 ∧ ¬ y < 0) ∨ (¬ x < 0 ∧ y < 0))) (hz : x = 0 → z = 0) : zDR (!(decide (x < 0) == decide (y < 0))) z.natAbs = z := by
 unfold zDR
 by_cases h1 : x < 0 <;> by_cases h2 : y < 0
 · simp [h1, h2]; have : ¬ z < 0 := fun q => by have := h.1 q; omega
   omega
 · simp [h1, h2]; have : z < 0 := h.2 (by omega)
   omega
 · simp [h1, h2]
   rcases Int.lt_or_le z 0 with q | q
   · omega
   · have : x = 0 := by
       rcases Int.lt_trichotomy x 0 with w | w | w
       · exact absurd w h1
       · exact w
       · exact absurd (h.2 ⟨by omega, .inr ⟨h1, h2⟩⟩) (by omega)
     have := hz this
     omega
 · simp [h1, h2]; have : ¬ z < 0 := fun q => by have := h.1 q; omega
   omega
theorem gcd_len {a b k : Nat} (ha : (zh a).length ≤ k) (hb : (zh b).length ≤ k) : (zh (Nat.gcd a b)).length ≤ k := by
 rcases Nat.eq_zero_or_pos a with h | h
 · subst h; rw [Nat.gcd_zero_left]; exact hb
 · exact zDt (Nat.gcd_le_left b h) ha
theorem zLu (n d : Int) (hd : d ≠ 0) (hn : (zh n.natAbs).length ≤ 1000000) (hdl : (zh d.natAbs).length ≤ 1000000) : zk Tryz.prog 72 [zBr n, zBr d] (qA (Rat.divInt n d)) := by
 obtain ⟨e1, e2, e3⟩ := zFx n d hd
 have hg := gcd_ok n.natAbs d.natAbs hn hdl
 have hgl := gcd_len hn hdl
 have hgp : 0 < Nat.gcd n.natAbs d.natAbs := Nat.gcd_pos_of_pos_right _ (by omega)
 have h1 := zKf n.natAbs _ hgp hn hgl
 have h2 := zKf d.natAbs _ hgp hdl hgl
 have h3 := zEg (!(decide (n < 0) == decide (d < 0))) (Rat.divInt n d).num.natAbs
 rw [bne_iff e3 (fun h0 => by rw [h0, Rat.zero_divInt]; rfl)] at h3
 rw [← e1] at h1
 rw [← e2] at h2
 refine zV.value0 (zN (P := Tryz.prog) (fn := Tryz.f72) rfl rfl (by kernel_rfl) rfl (fun c hR hfix => ?_)) (fix := fun _ => False) (fun _ h => h) rfl rfl
 repeat (first | refine zB ?_ | refine zA ?_ | refine zG ?_ | refine zC rfl ?_ | refine zD (zI rfl rfl rfl rfl rfl) ?_ | refine zD (zL rfl rfl rfl rfl rfl rfl) ?_ | refine zA8 rfl rfl ?_ | refine z8 rfl rfl rfl ?_)
 refine zM rfl rfl rfl hg ?_
 repeat (first | refine zD (zF rfl) ?_ | refine zD (zE rfl) ?_ | refine zB ?_ | refine zA ?_ | refine zG ?_ | refine zC rfl ?_ | refine zD (zI rfl rfl rfl rfl rfl) ?_ | refine zD (zL rfl rfl rfl rfl rfl rfl) ?_)
 refine zM rfl rfl rfl h1 ?_
 repeat (first | refine zD (zF rfl) ?_ | refine zD (zE rfl) ?_ | refine zB ?_ | refine zA ?_ | refine zG ?_ | refine zC rfl ?_ | refine zD (zI rfl rfl rfl rfl rfl) ?_ | refine zD (zz rfl rfl) ?_ | refine zD (zL rfl rfl rfl rfl rfl rfl) ?_)
 refine zM rfl rfl rfl h2 ?_
 repeat (first | refine zD (zF rfl) ?_ | refine zD (zE rfl) ?_ | refine zB ?_ | refine zA ?_ | refine zG ?_ | refine zC rfl ?_ | refine zD (zI rfl rfl rfl rfl rfl) ?_ | refine zD (zz rfl rfl) ?_ | refine zD (zL rfl rfl rfl rfl rfl rfl) ?_ | refine zD (zIn rfl rfl rfl) ?_)
 refine zM rfl rfl rfl h3 ?_
 repeat (first | refine zD (zF rfl) ?_ | refine zD (zAa rfl rfl rfl rfl rfl rfl) ?_)
 refine zl (c' := .box [.bool (decide ((Rat.divInt n d).num < 0)), zAL (Rat.divInt n d).num.natAbs, zAL (Rat.divInt n d).den]) rfl rfl rfl rfl rfl Nat.zero_lt_one rfl rfl (fun i' j' hi' hj' => ?_) ?_
 · rw [if_pos (Nat.lt_one_iff.1 hi')]; rfl
 repeat (first | refine zB ?_ | refine zA ?_ | refine zH ?_)
 exact zR hR rfl rfl
def Sz (k : Nat) (q : Rat) : Prop := (zh q.num.natAbs).length ≤ k ∧ (zh q.den).length ≤ k
theorem zDq {x y : Int} {k : Nat} (hx : (zh x.natAbs).length ≤ k) (hy : (zh y.natAbs).length ≤ k) : (zh (x * y).natAbs).length ≤ k + k := by
 rw [Int.natAbs_mul]; exact zHE hx hy
theorem zJ3 {x y : Int} {k : Nat} (hx : (zh x.natAbs).length ≤ k) (hy : (zh y.natAbs).length ≤ k) : (zh (x + y).natAbs).length ≤ k + 1 :=
 zDt (Int.natAbs_add_le x y) (len_add hx hy)
theorem zLR (p q : Rat) (hp : Sz 100000 p) (hq : Sz 100000 q) : zk Tryz.prog 67 [qA p, qA q] (qA (p + q)) := by
 have l1 : (zh (q.den : Int).natAbs).length ≤ 100000 := hq.2
 have l2 : (zh (p.den : Int).natAbs).length ≤ 100000 := hp.2
 have h1 := zGF p.num q.den (by have := hp.1; omega) (by omega)
 have h2 := zGF q.num p.den (by have := hq.1; omega) (by omega)
 have m1 := zDq hp.1 l1
 have m2 := zDq hq.1 l2
 have h3 := zLf (p.num * q.den) (q.num * p.den) (by omega) (by omega)
 have h4 := zKp p.den q.den (by have := hp.2; omega) (by have := hq.2; omega)
 have m3 := zJ3 m1 m2
 have m4 := zHE hp.2 hq.2
 have h5 := zLu (p.num * q.den + q.num * p.den) ((p.den * q.den : Nat) : Int) (by have := Nat.mul_ne_zero p.den_nz q.den_nz; omega) (by omega) (by rw [Int.natAbs_natCast]; omega)
 rw [zHF, zHf] at h5
 rw [zHF] at h1 h2
 refine zV.value0 (zN (P := Tryz.prog) (fn := Tryz.f67) rfl rfl (by kernel_rfl) rfl (fun c hR hfix => ?_)) (fix := fun _ => False) (fun _ h => h) rfl rfl
 repeat (first | refine zB ?_ | refine zA ?_ | refine zG ?_ | refine zC rfl ?_ | refine zA8 rfl rfl ?_ | refine z8 rfl rfl rfl ?_)
 refine zAI (by kernel_rfl) ?_
 refine zAR (fuel := 1) [0, 1, 2, 3, 4, 5, 6, 7, 8, 9, 10, 11, 12, 13, 14, 15, 16, 17, 18, 19] [(2, .ptr 0 0 0), (3, .ptr 1 0 0), (4, .ptr 2 0 0)] ⟨rfl, rfl, rfl, trivial⟩ (by kernel_rfl) (by decide) rfl rfl ?_
 refine zn rfl rfl (zL rfl rfl rfl rfl rfl rfl) ?_
 refine zn rfl rfl (zq rfl rfl rfl rfl rfl rfl rfl (by first | exact Nat.zero_lt_one | assumption | omega)) ?_
 refine zn rfl rfl (zL rfl rfl rfl rfl rfl rfl) ?_
 refine zn rfl rfl (zI rfl rfl rfl rfl rfl) ?_
 refine zn rfl rfl (zAa rfl rfl rfl rfl rfl rfl) ?_
 refine zCb rfl rfl rfl rfl rfl h1 ?_
 refine zn rfl rfl (zL rfl rfl rfl rfl rfl rfl) ?_
 refine zn rfl rfl (zq rfl rfl rfl rfl rfl rfl rfl (by first | exact Nat.zero_lt_one | assumption | omega)) ?_
 refine zn rfl rfl (zL rfl rfl rfl rfl rfl rfl) ?_
 refine zn rfl rfl (zI rfl rfl rfl rfl rfl) ?_
 refine zn rfl rfl (zAa rfl rfl rfl rfl rfl rfl) ?_
 refine zCb rfl rfl rfl rfl rfl h2 ?_
 refine zCb rfl rfl rfl rfl rfl h3 ?_
 refine zn rfl rfl (zL rfl rfl rfl rfl rfl rfl) ?_
 refine zn rfl rfl (zI rfl rfl rfl rfl rfl) ?_
 refine zn rfl rfl (zL rfl rfl rfl rfl rfl rfl) ?_
 refine zn rfl rfl (zI rfl rfl rfl rfl rfl) ?_
 refine zCb rfl rfl rfl rfl rfl h4 ?_
 refine zn rfl rfl (zAa rfl rfl rfl rfl rfl rfl) ?_
 refine zCb rfl rfl rfl rfl rfl h5 ?_
 refine zAs ?_
 refine zO (is := [20]) (by kernel_rfl) (by simp) rfl ⟨fun o ho => ?_, trivial⟩
 all_goals (cases ho)
 skip
 unfold qA
 refine zl (c' := .box [.bool (decide ((p + q).num < 0)), zAL (p + q).num.natAbs, zAL (p + q).den]) rfl rfl rfl rfl rfl Nat.zero_lt_one rfl rfl (fun i' j' hi' hj' => ?_) ?_
 · rw [if_pos (Nat.lt_one_iff.1 hi')]; rfl
 repeat (first | refine zB ?_ | refine zJ ?_)
 refine zAB (by kernel_rfl) ?_
 repeat (first | refine zA ?_ | refine zH ?_)
 exact zR hR rfl rfl
theorem qmul_ok (p q : Rat) (hp : Sz 100000 p) (hq : Sz 100000 q) : zk Tryz.prog 118 [qA p, qA q] (qA (p * q)) := by
 have h1 := zGF p.num q.num (by have := hp.1; omega) (by have := hq.1; omega)
 have m1 := zDq hp.1 hq.1
 have h4 := zKp p.den q.den (by have := hp.2; omega) (by have := hq.2; omega)
 have m4 := zHE hp.2 hq.2
 have h5 := zLu (p.num * q.num) ((p.den * q.den : Nat) : Int) (by have := Nat.mul_ne_zero p.den_nz q.den_nz; omega) (by omega) (by rw [Int.natAbs_natCast]; omega)
 rw [zHF, zJ0] at h5
 refine zV.value0 (zN (P := Tryz.prog) (fn := Tryz.f118) rfl rfl (by kernel_rfl) rfl (fun c hR hfix => ?_)) (fix := fun _ => False) (fun _ h => h) rfl rfl
 repeat (first | refine zB ?_ | refine zA ?_ | refine zG ?_ | refine zC rfl ?_ | refine zA8 rfl rfl ?_ | refine z8 rfl rfl rfl ?_)
 refine zAI (by kernel_rfl) ?_
 refine zAR (fuel := 1) [0, 1, 2, 3, 4, 5, 6, 7, 8, 9, 10, 11] [(2, .ptr 0 0 0), (3, .ptr 1 0 0), (4, .ptr 2 0 0)] ⟨rfl, rfl, rfl, trivial⟩ (by kernel_rfl) (by decide) rfl rfl ?_
 refine zn rfl rfl (zL rfl rfl rfl rfl rfl rfl) ?_
 refine zn rfl rfl (zq rfl rfl rfl rfl rfl rfl rfl (by first | exact Nat.zero_lt_one | assumption | omega)) ?_
 refine zn rfl rfl (zL rfl rfl rfl rfl rfl rfl) ?_
 refine zn rfl rfl (zq rfl rfl rfl rfl rfl rfl rfl (by first | exact Nat.zero_lt_one | assumption | omega)) ?_
 refine zCb rfl rfl rfl rfl rfl h1 ?_
 refine zn rfl rfl (zL rfl rfl rfl rfl rfl rfl) ?_
 refine zn rfl rfl (zI rfl rfl rfl rfl rfl) ?_
 refine zn rfl rfl (zL rfl rfl rfl rfl rfl rfl) ?_
 refine zn rfl rfl (zI rfl rfl rfl rfl rfl) ?_
 refine zCb rfl rfl rfl rfl rfl h4 ?_
 refine zn rfl rfl (zAa rfl rfl rfl rfl rfl rfl) ?_
 refine zCb rfl rfl rfl rfl rfl h5 ?_
 refine zAs ?_
 refine zO (is := [12]) (by kernel_rfl) (by simp) rfl ⟨fun o ho => ?_, trivial⟩
 all_goals (cases ho)
 skip
 unfold qA
 refine zl (c' := .box [.bool (decide ((p * q).num < 0)), zAL (p * q).num.natAbs, zAL (p * q).den]) rfl rfl rfl rfl rfl Nat.zero_lt_one rfl rfl (fun i' j' hi' hj' => ?_) ?_
 · rw [if_pos (Nat.lt_one_iff.1 hi')]; rfl
 repeat (first | refine zB ?_ | refine zJ ?_)
 refine zAB (by kernel_rfl) ?_
 repeat (first | refine zA ?_ | refine zH ?_)
 exact zR hR rfl rfl
theorem qcmp_ok (p q : Rat) (hp : Sz 100000 p) (hq : Sz 100000 q) : zk Tryz.prog 78 [qA p, qA q] (.int .i64 (cmpQ p q)) := by
 have l1 : (zh (q.den : Int).natAbs).length ≤ 100000 := hq.2
 have l2 : (zh (p.den : Int).natAbs).length ≤ 100000 := hp.2
 have h1 := zGF p.num q.den (by have := hp.1; omega) (by omega)
 have h2 := zGF q.num p.den (by have := hq.1; omega) (by omega)
 have m1 := zDq hp.1 l1
 have m2 := zDq hq.1 l2
 have h5 := icmp_ok (p.num * q.den) (q.num * p.den) (by omega) (by omega)
 rw [sgn_cmp p q] at h5
 rw [zHF] at h1 h2
 refine zV.value0 (zN (P := Tryz.prog) (fn := Tryz.f78) rfl rfl (by kernel_rfl) rfl (fun c hR hfix => ?_)) (fix := fun _ => False) (fun _ h => h) rfl rfl
 repeat (first | refine zD (zE rfl) ?_ | refine zB ?_ | refine zA ?_ | refine zG ?_ | refine zC rfl ?_ | refine zA8 rfl rfl ?_)
 refine zAI (by kernel_rfl) ?_
 refine zAR (fuel := 0) [0, 1, 2, 3, 4, 5, 6, 7, 8, 9, 10, 11, 12, 13] [(2, .ptr 0 0 0), (3, .ptr 1 0 0)] ⟨rfl, rfl, trivial⟩ (by kernel_rfl) (by decide) rfl rfl ?_
 refine zn rfl rfl (zL rfl rfl rfl rfl rfl rfl) ?_
 refine zn rfl rfl (zq rfl rfl rfl rfl rfl rfl rfl (by first | exact Nat.zero_lt_one | assumption | omega)) ?_
 refine zn rfl rfl (zL rfl rfl rfl rfl rfl rfl) ?_
 refine zn rfl rfl (zI rfl rfl rfl rfl rfl) ?_
 refine zn rfl rfl (zAa rfl rfl rfl rfl rfl rfl) ?_
 refine zCb rfl rfl rfl rfl rfl h1 ?_
 refine zn rfl rfl (zL rfl rfl rfl rfl rfl rfl) ?_
 refine zn rfl rfl (zq rfl rfl rfl rfl rfl rfl rfl (by first | exact Nat.zero_lt_one | assumption | omega)) ?_
 refine zn rfl rfl (zL rfl rfl rfl rfl rfl rfl) ?_
 refine zn rfl rfl (zI rfl rfl rfl rfl rfl) ?_
 refine zn rfl rfl (zAa rfl rfl rfl rfl rfl rfl) ?_
 refine zCb rfl rfl rfl rfl rfl h2 ?_
 refine zCb rfl rfl rfl rfl rfl h5 ?_
 refine zn rfl rfl (zE rfl) ?_
 refine zAs ?_
 refine zAB (by kernel_rfl) ?_
 repeat (first | refine zA ?_ | refine zH ?_)
 exact zR hR rfl rfl
end Go.Proofs.YtgmleamhjnlknaaGreatDoor
namespace Go.Proofs.YtgmleamhjnlknaaGreatDoor
open Go.Ax Go.Ax.Bg Go.Ax.Rt Go.RowKit
attribute [local irreducible] Ax zAV QOp zV zAJ
set_option maxRecDepth 100000
set_option maxHeartbeats 4000000
open Go.Ax.Tb (zBz zHH)
theorem zJr : zAL 1 = .ro (.ints .u32 [1]) 0 1 := by unfold zAL; rw [zE6]; rfl
theorem qA_int (z : Int) : qA (z : Rat) = .agg [.bool (decide (z < 0)), zAL z.natAbs, zAL 1] := rfl
theorem qof_ok (n : Int) (h : -9223372036854775808 ≤ n ∧ n < 9223372036854775808) : zk Tryz.prog 65 [.int .i64 n] (qA (n : Rat)) := by
 have h1 := whole_ok n h
 refine zV.value0 (zN (P := Tryz.prog) (fn := Tryz.f65) rfl rfl (by kernel_rfl) rfl (fun c hR hfix => ?_)) (fix := fun _ => False) (fun _ h => h) rfl rfl
 repeat (first | refine zD (zF rfl) ?_ | refine zB ?_ | refine zA ?_ | refine zG ?_ | refine zC rfl ?_ | refine z8 rfl rfl rfl ?_)
 refine zM rfl rfl rfl h1 ?_
 unfold zBr
 repeat (first | refine zD (zAa rfl rfl rfl rfl rfl rfl) ?_ | refine zS rfl rfl rfl rfl rfl rfl rfl rfl rfl rfl rfl ?_)
 refine zl (c' := .box [.bool (decide (n < 0)), zAL n.natAbs, .ro (.ints .u32 [1]) 0 1]) rfl rfl rfl rfl rfl Nat.zero_lt_one rfl rfl (fun i' j' hi' hj' => ?_) ?_
 · rw [if_pos (Nat.lt_one_iff.1 hi')]; rfl
 repeat (first | refine zB ?_ | refine zA ?_ | refine zH ?_)
 refine zR hR rfl ?_
 rw [qA_int, zJr]
 rfl
theorem zKa (s : List UInt8) (b : Int) : zk Tryz.prog 212 [.str s, .int .u8 b] (.int .i64 (Lib.indexByte s b.toNat.toUInt8)) := by
 refine zV.value0 (zN (P := Tryz.prog) (fn := Tryz.f212) rfl rfl (by kernel_rfl) rfl (fun c hR hfix => ?_)) (fix := fun _ => False) (fun _ h => h) rfl rfl
 repeat (first | refine zD (zF rfl) ?_ | refine zD (zE rfl) ?_ | refine zB ?_ | refine zA ?_ | refine zG ?_ | refine zC rfl ?_)
 refine zD (zJb rfl rfl rfl rfl (by kernel_rfl) (by kernel_rfl) (by kernel_rfl) (by kernel_rfl)) ?_
 repeat (first | refine zD (zE rfl) ?_ | refine zB ?_ | refine zA ?_ | refine zH ?_)
 exact zR hR rfl rfl
theorem indexI1 (s : List UInt8) (b : UInt8) : zk Tryz.prog 194 [.str s, .str [b]] (.int .i64 (Lib.indexByte s b)) := by
 refine zV.value0 (zN (P := Tryz.prog) (fn := Tryz.f194) rfl rfl (by kernel_rfl) rfl (fun c hR hfix => ?_)) (fix := fun _ => False) (fun _ h => h) rfl rfl
 repeat (first | refine zD (zF rfl) ?_ | refine zD (zE rfl) ?_ | refine zB ?_ | refine zA ?_ | refine zG ?_ | refine zC rfl ?_ | refine zj rfl rfl ?_ | refine zT ?_ | refine zD (zA0 rfl rfl) ?_ | refine zD (zr rfl rfl) ?_ | refine zD (zAl rfl rfl) ?_ | refine zD (zBv rfl rfl) ?_)
 refine zK rfl (fun h => ?_) (fun h => ?_)
 · repeat (first | refine zD (zE rfl) ?_ | refine zB ?_ | refine zA ?_ | refine zG ?_ | refine zC rfl ?_ | refine zH ?_ | refine zQ ?_ | refine zo ?_)
   refine zR hR rfl ?_
   subst h
   simp [zA1, Lib.indexByte]
 repeat (first | refine zD (zF rfl) ?_ | refine zD (zE rfl) ?_ | refine zB ?_ | refine zA ?_ | refine zG ?_ | refine zC rfl ?_ | refine zf rfl ?_ | refine zD (zA0 rfl rfl) ?_ | refine zD (zEO rfl rfl rfl (by first | assumption | omega | simp)) ?_)
 refine zM rfl rfl rfl (zKa s b.toNat) ?_
 repeat (first | refine zD (zE rfl) ?_ | refine zB ?_ | refine zA ?_ | refine zH ?_ | refine zQ ?_ | refine zo ?_)
 refine zR hR rfl ?_
 simp [zA1]
theorem zJK (l : List UInt8) (b : UInt8) : Lib.indexByte l b < l.length := by
 induction l with
 | nil => simp [Lib.indexByte]
 | cons c r ih =>
   rw [Lib.indexByte]
   simp only [List.length_cons]
   split
   · omega
   · split
     · omega
     · omega
theorem cutI (s : List UInt8) (b : UInt8) (h : s.length ≤ 9223372036854775807) : zk Tryz.prog 181 [.str s, .str [b]] (.tup [.str (zBz b s).1, .str (zBz b s).2.1, .bool (zBz b s).2.2]) := by
 have hc := zHH b s
 have hlt := zJK s b
 have hge := Lib.indexByte_ge s b
 have ci := indexI1 s b
 refine zV.value0 (zN (P := Tryz.prog) (fn := Tryz.f181) rfl rfl (by kernel_rfl) rfl (fun c hR hfix => ?_)) (fix := fun _ => False) (fun _ h => h) rfl rfl
 generalize Lib.indexByte s b = i at *
 repeat (first | refine zD (zF rfl) ?_ | refine zD (zE rfl) ?_ | refine zB ?_ | refine zA ?_ | refine zG ?_ | refine zC rfl ?_)
 refine zM rfl rfl rfl ci ?_
 repeat (first | refine zD (zF rfl) ?_ | refine zD (zE rfl) ?_ | refine zB ?_ | refine zA ?_ | refine zG ?_ | refine zC rfl ?_ | refine zD (zC2 rfl rfl) ?_)
 refine zK rfl (fun h0 => ?_) (fun h0 => ?_)
 · rw [if_pos h0] at hc
   rw [hc] at hR
   have hb1 : ([b] : List UInt8).length = 1 := rfl
   have hi1 : (i + 1).toNat = i.toNat + 1 := by omega
   repeat (refine zG ?_)
   refine zCp (by kernel_rfl) (by kernel_rfl) rfl ?_
   repeat (first | refine zD (zF rfl) ?_ | refine zD (zE rfl) ?_ | refine zB ?_ | refine zA ?_ | refine zH ?_ | refine zQ ?_ | refine zD (zAl rfl rfl) ?_ | refine zD (zAK rfl rfl (by omega)) ?_ | refine zD (zBy rfl rfl rfl rfl rfl rfl (by omega)) ?_)
   refine zR hR rfl ?_
   simp [zA1, hi1]
   exact List.take_of_length_le (by simp)
 · rw [if_neg h0] at hc
   rw [hc] at hR
   repeat (first | refine zD (zF rfl) ?_ | refine zD (zE rfl) ?_ | refine zB ?_ | refine zA ?_ | refine zG ?_ | refine zC rfl ?_ | refine zP ?_ | refine zH ?_)
   exact zR hR rfl rfl
theorem cutS (s : List UInt8) (b : UInt8) (h : s.length ≤ 9223372036854775807) : zk Tryz.prog 149 [.str s, .str [b]] (.tup [.str (zBz b s).1, .str (zBz b s).2.1, .bool (zBz b s).2.2]) := by
 have ci := cutI s b h
 refine zV.value0 (zN (P := Tryz.prog) (fn := Tryz.f149) rfl rfl (by kernel_rfl) rfl (fun c hR hfix => ?_)) (fix := fun _ => False) (fun _ h => h) rfl rfl
 generalize zBz b s = q at *
 repeat (first | refine zD (zF rfl) ?_ | refine zD (zE rfl) ?_ | refine zB ?_ | refine zA ?_ | refine zG ?_ | refine zC rfl ?_)
 refine zM rfl rfl rfl ci ?_
 repeat (first | refine zD (zE rfl) ?_ | refine zB ?_ | refine zA ?_ | refine zH ?_ | refine zD (zz rfl rfl) ?_)
 exact zR hR rfl rfl
theorem cutP1 (s p : List UInt8) (hs : s.length ≤ 9223372036854775807) (hp : p.length ≤ 9223372036854775807) : zk Tryz.prog 180 [.str s, .str p] (.tup [.str (if zF6 s p then s.drop p.length else s), .bool (zF6 s p)]) := by
 have h1 := zLm s p hs hp
 refine zV.value0 (zN (P := Tryz.prog) (fn := Tryz.f180) rfl rfl (by kernel_rfl) rfl (fun c hR hfix => ?_)) (fix := fun _ => False) (fun _ h => h) rfl rfl
 by_cases h : zF6 s p = true
 · have hle : p.length ≤ s.length := by unfold zF6 at h; exact (of_decide_eq_true h).1
   rw [h] at h1 hR
   repeat (first | refine zD (zF rfl) ?_ | refine zD (zE rfl) ?_ | refine zB ?_ | refine zA ?_ | refine zG ?_ | refine zC rfl ?_)
   refine zM rfl rfl rfl h1 ?_
   repeat (first | refine zD (zF rfl) ?_ | refine zD (zE rfl) ?_ | refine zB ?_ | refine zA ?_ | refine zG ?_ | refine zC rfl ?_ | refine ze rfl ?_ | refine zP ?_ | refine zH ?_ | refine zD (zAw rfl) ?_ | refine zD (zAl rfl rfl) ?_ | refine zD (zBy rfl rfl rfl rfl rfl rfl (by omega)) ?_)
   refine zR hR rfl ?_
   simp only [zA1, Int.toNat_natCast]
   rw [List.take_of_length_le (by simp)]
   rfl
 · rw [Bool.not_eq_true] at h
   rw [h] at h1 hR
   repeat (first | refine zD (zF rfl) ?_ | refine zD (zE rfl) ?_ | refine zB ?_ | refine zA ?_ | refine zG ?_ | refine zC rfl ?_)
   refine zM rfl rfl rfl h1 ?_
   repeat (first | refine zD (zF rfl) ?_ | refine zD (zE rfl) ?_ | refine zB ?_ | refine zA ?_ | refine zG ?_ | refine zC rfl ?_ | refine zf rfl ?_ | refine zH ?_ | refine zQ ?_ | refine zD (zAw rfl) ?_)
   exact zR hR rfl rfl
theorem cutP (s p : List UInt8) (hs : s.length ≤ 9223372036854775807) (hp : p.length ≤ 9223372036854775807) : zk Tryz.prog 148 [.str s, .str p] (.tup [.str (if zF6 s p then s.drop p.length else s), .bool (zF6 s p)]) := by
 have h1 := cutP1 s p hs hp
 refine zV.value0 (zN (P := Tryz.prog) (fn := Tryz.f148) rfl rfl (by kernel_rfl) rfl (fun c hR hfix => ?_)) (fix := fun _ => False) (fun _ h => h) rfl rfl
 generalize zF6 s p = b at *
 repeat (first | refine zD (zF rfl) ?_ | refine zD (zE rfl) ?_ | refine zB ?_ | refine zA ?_ | refine zG ?_ | refine zC rfl ?_)
 refine zM rfl rfl rfl h1 ?_
 repeat (first | refine zD (zE rfl) ?_ | refine zB ?_ | refine zA ?_ | refine zH ?_ | refine zD (zz rfl rfl) ?_)
 exact zR hR rfl rfl
end Go.Proofs.YtgmleamhjnlknaaGreatDoor
namespace Go.Ax.Rt
open Go.Ax.Bg
open Go.Ax.Tb (zBF zBH zBZ zBz zLN zLI zDJ)
def zCL : List UInt8 → Bool
 | c :: _ => decide (c = 45)
 | [] => false
def zDA (s : List UInt8) : List UInt8 := if zCL s then s.drop 1 else s
def zC9 (s : List UInt8) : List UInt8 := (zBz 47 (zDA s)).1
def zC6 (s : List UInt8) : List UInt8 := (zBz 47 (zDA s)).2.1
def zEq (s : List UInt8) : Bool := (zBz 47 (zDA s)).2.2
/-- rat.Check -/
def zCW (s : List UInt8) : Int :=
 if zDl (zC9 s) = false ∨ (zEq s = true ∧ zDl (zC6 s) = false) ∨ (zCL s = true ∧ zC9 s = [48]) then 5
 else if 2000 < (zC9 s).length ∨ 2000 < (zC6 s).length then 2
 else if zEq s = true ∧ (zC6 s = [48] ∨ zC6 s = [49] ∨ Nat.gcd (zAc 0 (zC9 s)) (zAc 0 (zC6 s)) ≠ 1) then 3 else 0
def zHg (s : List UInt8) : Nat := if zEq s then zAc 0 (zC6 s) else 1
def zAi (s : List UInt8) : Rat := Rat.divInt (zDR (zCL s) (zAc 0 (zC9 s))) (zHg s : Nat)
def zAM (q : Rat) : List UInt8 := (if q.num < 0 then [45] else []) ++ (Lib.decDigits q.num.natAbs ++ (if q.den = 1 then [] else 47 :: Lib.decDigits q.den))
def zBd (q : Rat) : Bool := decide ((Lib.decDigits q.num.natAbs).length ≤ 2000) && decide ((Lib.decDigits q.den).length ≤ 2000)
def zFr (q : Rat) : List UInt8 × Int := if zBd q then (zAM q, 0) else ([], 2)
theorem zII (b : UInt8) : ∀ l : List UInt8, l = (zBz b l).1 ++ (if (zBz b l).2.2 then b :: (zBz b l).2.1 else [])
 | [] => rfl
 | c :: r => by
   rw [zBz]
   split
   · rename_i h; subst h; simp
   · have := zII b r
     simp only [List.cons_append, List.cons.injEq, true_and]
     exact this
structure Parts (s : List UInt8) (q : Rat) : Prop where
 num : q.num = zDR (zCL s) (zAc 0 (zC9 s))
 den : q.den = zHg s
 cn : zFK (zC9 s)
 cd : zEq s = true → zFK (zC6 s) ∧ zAc 0 (zC6 s) ≠ 0 ∧ zAc 0 (zC6 s) ≠ 1
 ln : (zC9 s).length ≤ 2000
 ld : (zC6 s).length ≤ 2000
 ng : zCL s = true → zAc 0 (zC9 s) ≠ 0
theorem zI7 {s : List UInt8} {n : Nat} (hc : zFK s) (hn : n < 10) (h : zAc 0 s = n) : s = [UInt8.ofNat (48 + n)] := by
 rw [← zDQ hc, h, Lib.decDigits_one hn]
theorem zFU {s : List UInt8} (h : zEq s = false) : zHg s = 1 := by unfold zHg; rw [h]; rfl
theorem zEJ {s : List UInt8} (h : zEq s = true) : zHg s = zAc 0 (zC6 s) := by unfold zHg; rw [h]; rfl
theorem zDO {s : List UInt8} (h : zCW s = 0) : Parts s (zAi s) := by
 unfold zCW at h
 split at h
 · omega
 split at h
 · omega
 split at h
 · omega
 rename_i h1 h2 h3
 simp only [not_or, not_and, Bool.not_eq_false] at h1 h2 h3
 obtain ⟨a1, a2, a3⟩ := h1
 have cn := zCF.1 a1
 have cd : zEq s = true → zFK (zC6 s) ∧ zAc 0 (zC6 s) ≠ 0 ∧ zAc 0 (zC6 s) ≠ 1 := fun hd => by
   have c := zCF.1 (a2 hd)
   exact ⟨c, fun e => (h3 hd).1 (zI7 c (by decide) e), fun e => (h3 hd).2.1 (zI7 c (by decide) e)⟩
 have hd0 : zHg s ≠ 0 := by
   cases e : zEq s
   · rw [zFU e]; decide
   · rw [zEJ e]; exact (cd e).2.1
 have hg : Nat.gcd (zAc 0 (zC9 s)) (zHg s) = 1 := by
   cases e : zEq s
   · rw [zFU e]; exact Nat.gcd_one_right _
   · rw [zEJ e]; exact Classical.not_not.1 (h3 e).2.2
 obtain ⟨e1, e2, e3⟩ := zGI (zDR (zCL s) (zAc 0 (zC9 s))) (zHg s) hd0
 rw [zDb, hg, Nat.div_one] at e1
 rw [zDb, hg, Nat.div_one] at e2
 refine ⟨?_, e2, cn, cd, by omega, by omega, fun hn e => a3 hn (zI7 cn (by decide) e)⟩
 show (Rat.divInt _ _).num = _
 have := zDb (zCL s) (zAc 0 (zC9 s))
 omega
theorem neg_body {s : List UInt8} : s = (if zCL s then [45] else []) ++ zDA s := by
 unfold zDA
 cases s with
 | nil => rfl
 | cons c r =>
   unfold zCL
   by_cases h : c = 45
   · subst h; rfl
   · simp [h]
theorem Parts.text {s : List UInt8} {q : Rat} (h : Parts s q) : zAM q = s := by
 conv => rhs; rw [neg_body (s := s), zII 47 (zDA s)]
 change zAM q = _ ++ (zC9 s ++ if zEq s then 47 :: zC6 s else [])
 unfold zAM
 rw [h.num, h.den, zDb, zDQ h.cn]
 congr 1
 · have := zHZ (zCL s) (zAc 0 (zC9 s))
   cases e : zCL s
   · rw [e] at this; simp at this
     rw [if_neg (by simpa [e] using this)]; rfl
   · rw [e] at this
     have hn := h.ng e
     simp [hn] at this
     rw [if_pos this]; rfl
 · congr 1
   cases e : zEq s
   · rw [zFU e]; rfl
   · obtain ⟨c, c0, c1⟩ := h.cd e
     rw [zEJ e, if_neg c1, zDQ c]; rfl
theorem zJ1 (q : Rat) : zCL (zAM q) = decide (q.num < 0) ∧ zDA (zAM q) = Lib.decDigits q.num.natAbs ++ (if q.den = 1 then [] else 47 :: Lib.decDigits q.den) := by
 have hne := zBZ q.num.natAbs
 have h45 := zDJ q.num.natAbs 45 (by decide)
 unfold zDA zAM
 by_cases h : q.num < 0
 · simp [h, zCL]
 · have : zCL (Lib.decDigits q.num.natAbs ++ (if q.den = 1 then [] else 47 :: Lib.decDigits q.den)) = false := by
     cases e : Lib.decDigits q.num.natAbs with
     | nil => exact absurd e hne
     | cons c r =>
       rw [e] at h45
       have : c ≠ 45 := fun e => h45 (by simp [e])
       simp [zCL, this]
   simp [h, this]
theorem zH5 (q : Rat) : zBz 47 (zDA (zAM q)) = (Lib.decDigits q.num.natAbs, (if q.den = 1 then [] else Lib.decDigits q.den), decide (q.den ≠ 1)) := by
 rw [(zJ1 q).2]
 by_cases h : q.den = 1
 · rw [if_pos h, if_pos h, List.append_nil, zLN (zDJ _ 47 (by decide))]
   simp [h]
 · rw [if_neg h, if_neg h, zLI (zDJ _ 47 (by decide))]
   simp [h]
theorem rat_of {q : Rat} (h : zBd q = true) : zCW (zAM q) = 0 ∧ zAi (zAM q) = q := by
 have e1 : zC9 (zAM q) = Lib.decDigits q.num.natAbs := by unfold zC9; rw [zH5]
 have e2 : zC6 (zAM q) = if q.den = 1 then [] else Lib.decDigits q.den := by unfold zC6; rw [zH5]
 have e3 : zEq (zAM q) = decide (q.den ≠ 1) := by unfold zEq; rw [zH5]
 have e4 := (zJ1 q).1
 unfold zBd at h
 rw [Bool.and_eq_true, decide_eq_true_eq, decide_eq_true_eq] at h
 constructor
 · unfold zCW
   rw [e1, e2, e3, e4, zA7, zCF.2 (zDD _)]
   have g1 : ¬ (true = false ∨ (decide (q.den ≠ 1) = true ∧ zDl (if q.den = 1 then [] else Lib.decDigits q.den) = false) ∨ (decide (q.num < 0) = true ∧ Lib.decDigits q.num.natAbs = [48])) := by
     rintro (g | ⟨g1, g2⟩ | ⟨g1, g2⟩)
     · cases g
     · rw [decide_eq_true_eq] at g1
       rw [if_neg g1, zCF.2 (zDD _)] at g2
       cases g2
     · rw [decide_eq_true_eq] at g1
       have : q.num.natAbs = 0 := zD8 (by rw [g2, Lib.decDigits_one (by decide)]; rfl)
       omega
   have g2 : ¬ (2000 < (Lib.decDigits q.num.natAbs).length ∨ 2000 < (if q.den = 1 then [] else Lib.decDigits q.den : List UInt8).length) := by
     rintro (g | g)
     · omega
     · split at g
       · simp at g
       · omega
   have g3 : ¬ (decide (q.den ≠ 1) = true ∧ ((if q.den = 1 then [] else Lib.decDigits q.den) = [48] ∨ (if q.den = 1 then [] else Lib.decDigits q.den) = [49] ∨ Nat.gcd q.num.natAbs (zAc 0 (if q.den = 1 then [] else Lib.decDigits q.den)) ≠ 1)) := by
     rintro ⟨g, g3⟩
     rw [decide_eq_true_eq] at g
     rw [if_neg g] at g3
     rw [zA7] at g3
     rcases g3 with g3 | g3 | g3
     · have : q.den = 0 := zD8 (by rw [g3, Lib.decDigits_one (by decide)]; rfl)
       exact q.den_nz this
     · exact g (zD8 (by rw [g3, Lib.decDigits_one (by decide)]; rfl))
     · exact g3 q.reduced
   rw [if_neg g1, if_neg g2, if_neg g3]
 · unfold zAi
   have e5 : zHg (zAM q) = q.den := by
     unfold zHg
     rw [e3, e2]
     by_cases g : q.den = 1
     · simp [g]
     · simp [g, zA7]
   rw [e1, e4, e5, zA7, zMW]
   exact Rat.num_divInt_den q
/-- rat.CheckAll -/
def zC4 : List (List UInt8) → Int
 | [] => 0
 | s :: r => if zCW s = 0 then zC4 r else zCW s
theorem zCX : ∀ {l : List (List UInt8)}, zC4 l = 0 → ∀ s ∈ l, zCW s = 0
 | [], _, s, h => by simp at h
 | a :: r, h, s, hs => by
   rw [zC4] at h
   split at h
   · rename_i h1
     rcases List.mem_cons.1 hs with e | e
     · rw [e]; exact h1
     · exact zCX h s e
   · contradiction
theorem zLh : ∀ {l : List (List UInt8)}, (∀ s ∈ l, zCW s = 0) → zC4 l = 0
 | [], _ => rfl
 | a :: r, h => by
   rw [zC4, if_pos (h a (by simp))]
   exact zLh (fun s hs => h s (by simp [hs]))
theorem Parts.zero {s : List UInt8} (h : zCW s = 0) : zAi s = 0 ↔ s = [48] := by
 constructor
 · intro e
   have := (zDO h).text
   rw [e] at this
   rw [← this]
   unfold zAM
   rw [if_neg (by decide), if_pos (show (0 : Rat).den = 1 from rfl)]
   show [] ++ (Lib.decDigits 0 ++ []) = _
   rw [Lib.decDigits_one (by decide)]; rfl
 · intro e
   subst e
   decide
/-- Sums, products and so on of two texts. -/
def twoR (F : Rat → Rat → Rat) (a b : List UInt8) : List UInt8 × Int := if zC4 [a, b] = 0 then zFr (F (zAi a) (zAi b)) else ([], zC4 [a, b])
def oneR (F : Rat → Rat) (a : List UInt8) : List UInt8 × Int := if zCW a = 0 then zFr (F (zAi a)) else ([], zCW a)
def divR (a b : List UInt8) : List UInt8 × Int := if zC4 [a, b] = 0 then (if b = [48] then ([], 18) else zFr (zAi a / zAi b)) else ([], zC4 [a, b])
def cmpR (a b : List UInt8) : Int × Int := if zC4 [a, b] = 0 then (cmpQ (zAi a) (zAi b), 0) else (0, zC4 [a, b])
def signR (a : List UInt8) : Int × Int := if zCW a = 0 then (sgn (zAi a).num, 0) else (0, zCW a)
def zAq (l : List Rat) : List (List UInt8) × Int := if l.all zBd then (l.map zAM, 0) else ([], 2)
def zHR : Rat → List Rat → Rat × Int
 | acc, [] => (acc, 0)
 | acc, q :: r => if zBd (acc + q) then zHR (acc + q) r else (acc + q, 2)
def zD2 (l : List (List UInt8)) : Rat × Int := if 256 < l.length then (0, 2) else if zC4 l = 0 then zHR 0 (l.map zAi) else (0, zC4 l)
def sumT (l : List (List UInt8)) : List UInt8 × Int := if (zD2 l).2 = 0 then zFr (zD2 l).1 else ([], (zD2 l).2)
def posE (l : List (List UInt8)) : Int := if (zD2 l).2 = 0 ∧ l.any zCL = true then 4 else (zD2 l).2
def sharesR (l : List (List UInt8)) : List (List UInt8) × Int :=
 if posE l = 0 then (if (zD2 l).1 = 0 then ([], 18) else zAq ((l.map zAi).map (fun q => q / (zD2 l).1))) else ([], posE l)
def zDv (l : List (List UInt8)) : Int := if posE l = 0 then (if cmpQ (zD2 l).1 1 = 0 then 0 else 3) else posE l
def bestK (x : List Rat) : Nat → Nat
 | 0 => 0
 | k + 1 => if 0 < cmpQ (x.getD k 0) (x.getD (bestK x k) 0) then k else bestK x k
def zJ6 (l : List (List UInt8)) : Int × Int := if 256 < l.length then (0, 2) else if l = [] then (0, 8) else if zC4 l = 0 then ((bestK (l.map zAi) l.length : Nat), 0) else (0, zC4 l)
theorem zLO {q : Rat} (h : zBd q = true) : (zh q.num.natAbs).length ≤ 2000 ∧ (zh q.den).length ≤ 2000 := by
 unfold zBd at h
 rw [Bool.and_eq_true, decide_eq_true_eq, decide_eq_true_eq] at h
 have key : ∀ (n m : Nat), (Lib.decDigits n).length ≤ m → (zh n).length ≤ m := fun n m hl => by
   refine zAj (Nat.lt_of_lt_of_le (zDK n) ?_)
   exact Nat.le_trans (Nat.pow_le_pow_right (by decide) hl) (Nat.pow_le_pow_left (by decide) m)
 exact ⟨key _ _ h.1, key _ _ h.2⟩
def ofR (n d : Int) : List UInt8 × Int := if d = 0 then ([], 18) else zFr (Rat.divInt n d)
end Go.Ax.Rt
namespace Go.Proofs.YtgmleamhjnlknaaGreatDoor
open Go.Ax Go.Ax.Bg Go.Ax.Rt Go.RowKit
attribute [local irreducible] Ax zAV QOp zV zAJ
set_option maxRecDepth 100000
set_option maxHeartbeats 4000000
open Go.Ax.Tb (zBz zHH zJs)
theorem zLW (s : List UInt8) : zF6 s [45] = zCL s := by
 unfold zF6 zCL
 cases s with
 | nil => rfl
 | cons c r => simp
theorem zJy (s : List UInt8) : (zDA s).length ≤ s.length := by
 unfold zDA; split
 · simp
 · exact Nat.le_refl _
theorem zMV (s : List UInt8) : (zC9 s).length ≤ s.length ∧ (zC6 s).length ≤ s.length := by
 have h := zJs 47 (zDA s)
 have h2 := zJy s
 unfold zC9 zC6
 omega
theorem cutNeg (s : List UInt8) (hs : s.length ≤ 9223372036854775807) : zk Tryz.prog 148 [.str s, .str [45]] (.tup [.str (zDA s), .bool (zCL s)]) := by
 have h := cutP s [45] hs (by decide)
 rw [zLW] at h
 exact h
theorem cutBar (s : List UInt8) (hs : s.length ≤ 9223372036854775807) : zk Tryz.prog 149 [.str (zDA s), .str [47]] (.tup [.str (zC9 s), .str (zC6 s), .bool (zEq s)]) :=
 cutS (zDA s) 47 (Nat.le_trans (zJy s) hs)
theorem zFM (s : List UInt8) (hs : s.length ≤ 9223372036854775807) (h : zCW s = 0) : zk Tryz.prog 80 [.str s] (qA (zAi s)) := by
 have hp := zDO h
 have h1 := cutNeg s (by omega)
 have h2 := cutBar s hs
 have h3 := zG8 (zC9 s) hp.cn.2.1 (by have := hp.ln; omega)
 have h4 := zEg (zCL s) (zAc 0 (zC9 s))
 rw [← hp.num] at h4
 unfold qA
 rw [hp.den]
 cases e : zEq s
 · rw [e] at h2
   rw [zFU e, zJr]
   refine zV.value0 (zN (P := Tryz.prog) (fn := Tryz.f80) rfl rfl (by kernel_rfl) rfl (fun c hR hfix => ?_)) (fix := fun _ => False) (fun _ h => h) rfl rfl
   repeat (first | refine zD (zF rfl) ?_ | refine zB ?_ | refine zA ?_ | refine zG ?_ | refine zC rfl ?_ | refine z8 rfl rfl rfl ?_)
   refine zM rfl rfl rfl h1 ?_
   repeat (first | refine zD (zF rfl) ?_ | refine zD (zE rfl) ?_ | refine zB ?_ | refine zA ?_ | refine zG ?_ | refine zC rfl ?_ | refine zD (zz rfl rfl) ?_)
   refine zM rfl rfl rfl h2 ?_
   repeat (first | refine zD (zF rfl) ?_ | refine zD (zE rfl) ?_ | refine zB ?_ | refine zA ?_ | refine zG ?_ | refine zC rfl ?_ | refine zD (zz rfl rfl) ?_)
   refine zM rfl rfl rfl h3 ?_
   skip
   refine zM rfl rfl rfl h4 ?_
   unfold zBr
   repeat (first | refine zD (zAa rfl rfl rfl rfl rfl rfl) ?_ | refine zS rfl rfl rfl rfl rfl rfl rfl rfl rfl rfl rfl ?_ | refine z8 rfl rfl rfl ?_)
   refine zl (c' := .box [.bool (decide ((zAi s).num < 0)), zAL (zAi s).num.natAbs, .ro (.ints .u32 [1]) 0 1]) rfl rfl rfl rfl rfl Nat.zero_lt_one rfl rfl (fun i' j' hi' hj' => ?_) ?_
   · rw [if_pos (Nat.lt_one_iff.1 hi')]; rfl
   repeat (first | refine zD (zF rfl) ?_ | refine zB ?_ | refine zA ?_ | refine zG ?_ | refine zC rfl ?_ | refine ze rfl ?_ | refine zP ?_ | refine zD (zq rfl rfl rfl rfl rfl rfl rfl (by first | exact Nat.zero_lt_one | assumption | omega)) ?_)
   refine zl (c' := .box [.bool (decide ((zAi s).num < 0)), zAL (zAi s).num.natAbs, .ro (.ints .u32 [1]) 0 1]) rfl rfl rfl rfl rfl Nat.zero_lt_one rfl rfl (fun i' j' hi' hj' => ?_) ?_
   · rw [if_pos (Nat.lt_one_iff.1 hi')]; rfl
   repeat (first | refine zB ?_ | refine zA ?_ | refine zH ?_)
   exact zR hR rfl rfl
 · rw [e] at h2
   rw [zEJ e]
   have h5 := zG8 (zC6 s) (hp.cd e).1.2.1 (by have := hp.ld; omega)
   refine zV.value0 (zN (P := Tryz.prog) (fn := Tryz.f80) rfl rfl (by kernel_rfl) rfl (fun c hR hfix => ?_)) (fix := fun _ => False) (fun _ h => h) rfl rfl
   repeat (first | refine zD (zF rfl) ?_ | refine zB ?_ | refine zA ?_ | refine zG ?_ | refine zC rfl ?_ | refine z8 rfl rfl rfl ?_)
   refine zM rfl rfl rfl h1 ?_
   repeat (first | refine zD (zF rfl) ?_ | refine zD (zE rfl) ?_ | refine zB ?_ | refine zA ?_ | refine zG ?_ | refine zC rfl ?_ | refine zD (zz rfl rfl) ?_)
   refine zM rfl rfl rfl h2 ?_
   repeat (first | refine zD (zF rfl) ?_ | refine zD (zE rfl) ?_ | refine zB ?_ | refine zA ?_ | refine zG ?_ | refine zC rfl ?_ | refine zD (zz rfl rfl) ?_)
   refine zM rfl rfl rfl h3 ?_
   skip
   refine zM rfl rfl rfl h4 ?_
   unfold zBr
   repeat (first | refine zD (zAa rfl rfl rfl rfl rfl rfl) ?_ | refine zS rfl rfl rfl rfl rfl rfl rfl rfl rfl rfl rfl ?_ | refine z8 rfl rfl rfl ?_)
   refine zl (c' := .box [.bool (decide ((zAi s).num < 0)), zAL (zAi s).num.natAbs, .ro (.ints .u32 [1]) 0 1]) rfl rfl rfl rfl rfl Nat.zero_lt_one rfl rfl (fun i' j' hi' hj' => ?_) ?_
   · rw [if_pos (Nat.lt_one_iff.1 hi')]; rfl
   repeat (first | refine zD (zF rfl) ?_ | refine zB ?_ | refine zA ?_ | refine zG ?_ | refine zC rfl ?_ | refine zf rfl ?_)
   refine zM rfl rfl rfl h5 ?_
   repeat (first | refine zB ?_ | refine zA ?_ | refine zG ?_ | refine zC rfl ?_ | refine zD (zL rfl rfl rfl rfl rfl rfl) ?_ | refine zD (zq rfl rfl rfl rfl rfl rfl rfl (by first | exact Nat.zero_lt_one | assumption | omega)) ?_ | refine zAr rfl rfl rfl rfl rfl rfl rfl Nat.zero_lt_one ?_)
   refine zl (c' := .box [.bool (decide ((zAi s).num < 0)), zAL (zAi s).num.natAbs, zAL (zAc 0 (zC6 s))]) rfl rfl rfl rfl rfl Nat.zero_lt_one rfl rfl (fun i' j' hi' hj' => ?_) ?_
   · rw [if_pos (Nat.lt_one_iff.1 hi')]; rfl
   repeat (first | refine zB ?_ | refine zA ?_ | refine zH ?_)
   exact zR hR rfl rfl
theorem qtext_ok (q : Rat) (hq : Sz 100000 q) : zk Tryz.prog 155 [qA q] (.str (zAM q)) := by
 have h1 := zG9 q.num.natAbs (by have := hq.1; omega)
 have h2 := one_ok q.den
 have h3 := zG9 q.den (by have := hq.2; omega)
 unfold zAM
 have l1 := zCR hq.1 (by decide)
 have l2 := zCR hq.2 (by decide)
 refine zV.value0 (zN (P := Tryz.prog) (fn := Tryz.f155) rfl rfl (by kernel_rfl) rfl (fun c hR hfix => ?_)) (fix := fun _ => False) (fun _ h => h) rfl rfl
 by_cases hn : q.num < 0 <;> by_cases hd : q.den = 1
 · rw [if_pos hn, if_pos hd] at hR
   rw [decide_eq_true hd] at h2
   unfold qA
   rw [decide_eq_true hn]
   repeat (first | refine zD (zE rfl) ?_ | refine zB ?_ | refine zA ?_ | refine zG ?_ | refine zC rfl ?_ | refine zD (zI rfl rfl rfl rfl rfl) ?_ | refine zD (zL rfl rfl rfl rfl rfl rfl) ?_ | refine zA8 rfl rfl ?_)
   refine zM rfl rfl rfl h1 ?_
   repeat (first | refine zD (zF rfl) ?_ | refine zD (zE rfl) ?_ | refine zB ?_ | refine zA ?_ | refine zG ?_ | refine zC rfl ?_ | refine zf rfl ?_ | refine zD (zI rfl rfl rfl rfl rfl) ?_ | refine zD (zL rfl rfl rfl rfl rfl rfl) ?_)
   refine zD (zDc rfl rfl (by show ([45] : List UInt8).length + _ ≤ _; simp only [List.length_cons, List.length_nil, List.length_append]; omega)) ?_
   repeat (first | refine zD (zE rfl) ?_ | refine zB ?_ | refine zA ?_ | refine zG ?_ | refine zC rfl ?_ | refine zD (zI rfl rfl rfl rfl rfl) ?_ | refine zD (zL rfl rfl rfl rfl rfl rfl) ?_)
   refine zM rfl rfl rfl h2 ?_
   repeat (first | refine zD (zF rfl) ?_ | refine zD (zE rfl) ?_ | refine zB ?_ | refine zA ?_ | refine zG ?_ | refine zC rfl ?_ | refine ze rfl ?_ | refine zP ?_ | refine zH ?_ | refine zD (zAw rfl) ?_)
   refine zR hR rfl ?_
   simp [zA1]
 · rw [if_pos hn, if_neg hd] at hR
   rw [decide_eq_false hd] at h2
   unfold qA
   rw [decide_eq_true hn]
   repeat (first | refine zD (zE rfl) ?_ | refine zB ?_ | refine zA ?_ | refine zG ?_ | refine zC rfl ?_ | refine zD (zI rfl rfl rfl rfl rfl) ?_ | refine zD (zL rfl rfl rfl rfl rfl rfl) ?_ | refine zA8 rfl rfl ?_)
   refine zM rfl rfl rfl h1 ?_
   repeat (first | refine zD (zF rfl) ?_ | refine zD (zE rfl) ?_ | refine zB ?_ | refine zA ?_ | refine zG ?_ | refine zC rfl ?_ | refine zf rfl ?_ | refine zD (zI rfl rfl rfl rfl rfl) ?_ | refine zD (zL rfl rfl rfl rfl rfl rfl) ?_)
   refine zD (zDc rfl rfl (by show ([45] : List UInt8).length + _ ≤ _; simp only [List.length_cons, List.length_nil, List.length_append]; omega)) ?_
   repeat (first | refine zD (zE rfl) ?_ | refine zB ?_ | refine zA ?_ | refine zG ?_ | refine zC rfl ?_ | refine zD (zI rfl rfl rfl rfl rfl) ?_ | refine zD (zL rfl rfl rfl rfl rfl rfl) ?_)
   refine zM rfl rfl rfl h2 ?_
   repeat (first | refine zD (zF rfl) ?_ | refine zB ?_ | refine zA ?_ | refine zC rfl ?_ | refine zf rfl ?_ | refine zD (zI rfl rfl rfl rfl rfl) ?_ | refine zD (zAw rfl) ?_ | refine zD (zL rfl rfl rfl rfl rfl rfl) ?_)
   refine zM rfl rfl rfl h3 ?_
   skip
   refine zD (zDc rfl rfl (by show ([47] : List UInt8).length + _ ≤ _; simp only [List.length_cons, List.length_nil, List.length_append]; omega)) ?_
   refine zD (zDc (b := 47 :: Lib.decDigits q.den) rfl rfl (by simp only [List.length_cons, List.length_nil, List.length_append]; omega)) ?_
   repeat (first | refine zD (zF rfl) ?_ | refine zD (zE rfl) ?_ | refine zB ?_ | refine zA ?_ | refine zG ?_ | refine zC rfl ?_ | refine zH ?_)
   refine zR hR rfl ?_
   simp [zA1]
 · rw [if_neg hn, if_pos hd] at hR
   rw [decide_eq_true hd] at h2
   unfold qA
   rw [decide_eq_false hn]
   repeat (first | refine zD (zE rfl) ?_ | refine zB ?_ | refine zA ?_ | refine zG ?_ | refine zC rfl ?_ | refine zD (zI rfl rfl rfl rfl rfl) ?_ | refine zD (zL rfl rfl rfl rfl rfl rfl) ?_ | refine zA8 rfl rfl ?_)
   refine zM rfl rfl rfl h1 ?_
   repeat (first | refine zD (zE rfl) ?_ | refine zB ?_ | refine zA ?_ | refine zG ?_ | refine zC rfl ?_ | refine ze rfl ?_ | refine zP ?_ | refine zD (zI rfl rfl rfl rfl rfl) ?_ | refine zD (zL rfl rfl rfl rfl rfl rfl) ?_)
   refine zM rfl rfl rfl h2 ?_
   repeat (first | refine zD (zF rfl) ?_ | refine zD (zE rfl) ?_ | refine zB ?_ | refine zA ?_ | refine zG ?_ | refine zC rfl ?_ | refine ze rfl ?_ | refine zP ?_ | refine zH ?_ | refine zD (zAw rfl) ?_)
   refine zR hR rfl ?_
   simp [zA1]
 · rw [if_neg hn, if_neg hd] at hR
   rw [decide_eq_false hd] at h2
   unfold qA
   rw [decide_eq_false hn]
   repeat (first | refine zD (zE rfl) ?_ | refine zB ?_ | refine zA ?_ | refine zG ?_ | refine zC rfl ?_ | refine zD (zI rfl rfl rfl rfl rfl) ?_ | refine zD (zL rfl rfl rfl rfl rfl rfl) ?_ | refine zA8 rfl rfl ?_)
   refine zM rfl rfl rfl h1 ?_
   repeat (first | refine zD (zE rfl) ?_ | refine zB ?_ | refine zA ?_ | refine zG ?_ | refine zC rfl ?_ | refine ze rfl ?_ | refine zP ?_ | refine zD (zI rfl rfl rfl rfl rfl) ?_ | refine zD (zL rfl rfl rfl rfl rfl rfl) ?_)
   refine zM rfl rfl rfl h2 ?_
   repeat (first | refine zD (zF rfl) ?_ | refine zB ?_ | refine zA ?_ | refine zC rfl ?_ | refine zf rfl ?_ | refine zD (zI rfl rfl rfl rfl rfl) ?_ | refine zD (zAw rfl) ?_ | refine zD (zL rfl rfl rfl rfl rfl rfl) ?_)
   refine zM rfl rfl rfl h3 ?_
   skip
   refine zD (zDc rfl rfl (by show ([47] : List UInt8).length + _ ≤ _; simp only [List.length_cons, List.length_nil, List.length_append]; omega)) ?_
   refine zD (zDc (b := 47 :: Lib.decDigits q.den) rfl rfl (by simp only [List.length_cons, List.length_nil, List.length_append]; omega)) ?_
   repeat (first | refine zD (zF rfl) ?_ | refine zD (zE rfl) ?_ | refine zB ?_ | refine zA ?_ | refine zG ?_ | refine zC rfl ?_ | refine zH ?_)
   refine zR hR rfl ?_
   simp [zA1]
end Go.Proofs.YtgmleamhjnlknaaGreatDoor
namespace Go.Proofs.YtgmleamhjnlknaaGreatDoor
open Go.Ax Go.Ax.Bg Go.Ax.Rt Go.RowKit
attribute [local irreducible] Ax zAV QOp zV zAJ
set_option maxRecDepth 100000
set_option maxHeartbeats 4000000
theorem zLK {n k m : Nat} (h : k < (zh n).length) (hm : m ≤ 9 * k) : m < (Lib.decDigits n).length := by
 rcases Nat.lt_or_ge m (Lib.decDigits n).length with q | q
 · exact q
 exfalso
 have h1 := zDK n
 have h2 : 10 ^ (Lib.decDigits n).length ≤ 10 ^ (9 * k) := Nat.pow_le_pow_right (by decide) (by omega)
 have h3 : 10 ^ (9 * k) ≤ B ^ k := by rw [Nat.pow_mul]; exact Nat.pow_le_pow_left (by decide) k
 have h4 : ¬ n < B ^ k := fun h5 => by have := zAj h5; omega
 omega
theorem zI2 (q : Rat) (hq : Sz 100000 q) : zk Tryz.prog 154 [qA q, .int .i64 2000] (.bool (zBd q)) := by
 have h1 := zG9 q.num.natAbs (by have := hq.1; omega)
 have h3 := zG9 q.den (by have := hq.2; omega)
 have l1 := zCR hq.1 (by decide)
 have l2 := zCR hq.2 (by decide)
 have g1 := hq.1
 have g2 := hq.2
 have b1 := @zLK q.num.natAbs 224 2000
 have b2 := @zLK q.den 224 2000
 unfold zBd
 refine zV.value0 (zN (P := Tryz.prog) (fn := Tryz.f154) rfl rfl (by kernel_rfl) rfl (fun c hR hfix => ?_)) (fix := fun _ => False) (fun _ h => h) rfl rfl
 unfold qA
 unfold zAL at h1 h3 ⊢
 repeat (first | refine zD (zF rfl) ?_ | refine zD (zE rfl) ?_ | refine zB ?_ | refine zA ?_ | refine zG ?_ | refine zC rfl ?_ | refine zD (zI rfl rfl rfl rfl rfl) ?_ | refine zD (zBU rfl rfl) ?_ | refine zD (zw rfl rfl rfl) ?_ | refine zD (zAK rfl rfl (by omega)) ?_ | refine zD (q_quo rfl rfl (by omega)) ?_ | refine zD (q_max rfl rfl) ?_ | refine zD (zL rfl rfl rfl rfl rfl rfl) ?_ | refine zA8 rfl rfl ?_)
 refine zK rfl (fun h0 => ?_) (fun h0 => ?_)
 · repeat (first | refine zD (zE rfl) ?_ | refine zB ?_ | refine zA ?_ | refine zG ?_ | refine zC rfl ?_ | refine zH ?_ | refine zQ ?_)
   refine zR hR rfl ?_
   have h5 : 224 < (zh q.num.natAbs).length ∨ 224 < (zh q.den).length := by
     split at h0 <;> omega
   have h6 : ¬ ((Lib.decDigits q.num.natAbs).length ≤ 2000 ∧ (Lib.decDigits q.den).length ≤ 2000) := by
     rcases h5 with h5 | h5
     · have := b1 h5 (by decide); omega
     · have := b2 h5 (by decide); omega
   rw [← Bool.decide_and, decide_eq_false h6]
   rfl
 · repeat (first | refine zA ?_ | refine zG ?_ | refine zC rfl ?_ | refine zP ?_ | refine zD (zI rfl rfl rfl rfl rfl) ?_ | refine zD (zL rfl rfl rfl rfl rfl rfl) ?_)
   refine zM rfl rfl rfl h1 ?_
   repeat (first | refine zD (zF rfl) ?_ | refine zD (zIT rfl rfl) ?_ | refine zD (zAl rfl rfl) ?_)
   refine zAH rfl rfl (fun h5 => ?_) (fun h5 => ?_)
   · repeat (first | refine zj rfl rfl ?_ | refine zD (zI rfl rfl rfl rfl rfl) ?_ | refine zD (zL rfl rfl rfl rfl rfl rfl) ?_)
     refine zM rfl rfl rfl h3 ?_
     repeat (first | refine zD (zF rfl) ?_ | refine zD (zE rfl) ?_ | refine zB ?_ | refine zA ?_ | refine zj rfl rfl ?_ | refine zH ?_ | refine zD (zIT rfl rfl) ?_ | refine zD (zr rfl rfl) ?_ | refine zD (zAl rfl rfl) ?_)
     refine zR hR rfl ?_
     rw [show decide ((Lib.decDigits q.num.natAbs).length ≤ 2000) = true from decide_eq_true (by omega), Bool.true_and]
     show AV.bool _ = AV.bool _
     rw [show decide (((Lib.decDigits q.den).length : Int) ≤ 2000) = decide ((Lib.decDigits q.den).length ≤ 2000) from by rw [decide_eq_decide]; omega]
   · repeat (first | refine zD (zE rfl) ?_ | refine zB ?_ | refine zA ?_ | refine zp rfl rfl rfl ?_ | refine zH ?_ | refine zD (zr rfl rfl) ?_)
     refine zR hR rfl ?_
     rw [show decide ((Lib.decDigits q.num.natAbs).length ≤ 2000) = false from decide_eq_false (by omega), Bool.false_and]
     rfl
theorem zIz (q : Rat) (hq : Sz 100000 q) (h : zBd q = true) : zk Tryz.prog 89 [qA q] (.tup [.str (zAM q), .int .i64 0]) := by
 have h1 := zI2 q hq
 have h2 := qtext_ok q hq
 rw [h] at h1
 refine zV.value0 (zN (P := Tryz.prog) (fn := Tryz.f89) rfl rfl (by kernel_rfl) rfl (fun c hR hfix => ?_)) (fix := fun _ => False) (fun _ h => h) rfl rfl
 repeat (first | refine zD (zE rfl) ?_ | refine zB ?_ | refine zA ?_ | refine zG ?_ | refine zC rfl ?_ | refine zD (zq rfl rfl rfl rfl rfl rfl rfl (by first | exact Nat.zero_lt_one | assumption | omega)) ?_ | refine zA8 rfl rfl ?_)
 refine zM rfl rfl rfl h1 ?_
 repeat (first | refine zB ?_ | refine zA ?_ | refine zG ?_ | refine zC rfl ?_ | refine ze rfl ?_ | refine zP ?_ | refine zD (zAw rfl) ?_ | refine zD (zq rfl rfl rfl rfl rfl rfl rfl (by first | exact Nat.zero_lt_one | assumption | omega)) ?_)
 refine zM rfl rfl rfl h2 ?_
 repeat (first | refine zD (zE rfl) ?_ | refine zB ?_ | refine zA ?_ | refine zH ?_)
 exact zR hR rfl rfl
theorem out_no (q : Rat) (hq : Sz 100000 q) (h : zBd q = false) : zk Tryz.prog 89 [qA q] (.tup [.str [], .int .i64 2]) := by
 have h1 := zI2 q hq
 rw [h] at h1
 refine zV.value0 (zN (P := Tryz.prog) (fn := Tryz.f89) rfl rfl (by kernel_rfl) rfl (fun c hR hfix => ?_)) (fix := fun _ => False) (fun _ h => h) rfl rfl
 repeat (first | refine zD (zE rfl) ?_ | refine zB ?_ | refine zA ?_ | refine zG ?_ | refine zC rfl ?_ | refine zD (zq rfl rfl rfl rfl rfl rfl rfl (by first | exact Nat.zero_lt_one | assumption | omega)) ?_ | refine zA8 rfl rfl ?_)
 refine zM rfl rfl rfl h1 ?_
 repeat (first | refine zD (zE rfl) ?_ | refine zB ?_ | refine zA ?_ | refine zG ?_ | refine zC rfl ?_ | refine zf rfl ?_ | refine zH ?_ | refine zQ ?_ | refine zD (zAw rfl) ?_)
 exact zR hR rfl rfl
theorem out_ok (q : Rat) (hq : Sz 100000 q) : zk Tryz.prog 89 [qA q] (zIZ (zFr q)) := by
 unfold zFr
 cases h : zBd q
 · exact out_no q hq h
 · exact zIz q hq h
theorem zIh (s : List UInt8) (hs : s.length ≤ 9223372036854775807) : zk Tryz.prog 79 [.str s] (.int .i64 (zCW s)) := by
 have h1 := cutNeg s (by omega)
 have h2 := cutBar s hs
 obtain ⟨ln, ld⟩ := zMV s
 have h3 := zIO (zC9 s) (by omega)
 have h4 := zIO (zC6 s) (by omega)
 have cn := @zCF (zC9 s)
 have cd := @zCF (zC6 s)
 unfold zCW
 generalize zC9 s = n at *
 generalize zC6 s = d at *
 generalize zEq s = ok at *
 generalize zCL s = ng at *
 generalize zDA s = b at *
 generalize zDl n = p at *
 generalize zDl d = q at *
 refine zV.value0 (zN (P := Tryz.prog) (fn := Tryz.f79) rfl rfl (by kernel_rfl) rfl (fun c hR hfix => ?_)) (fix := fun _ => False) (fun _ h => h) rfl rfl
 repeat (first | refine zD (zF rfl) ?_ | refine zD (zE rfl) ?_ | refine zB ?_ | refine zA ?_ | refine zG ?_ | refine zC rfl ?_)
 refine zM rfl rfl rfl h1 ?_
 repeat (first | refine zD (zF rfl) ?_ | refine zD (zE rfl) ?_ | refine zB ?_ | refine zA ?_ | refine zG ?_ | refine zC rfl ?_ | refine zD (zz rfl rfl) ?_)
 refine zM rfl rfl rfl h2 ?_
 repeat (first | refine zD (zF rfl) ?_ | refine zD (zE rfl) ?_ | refine zB ?_ | refine zA ?_ | refine zD (zz rfl rfl) ?_)
 by_cases hsyn : p = false ∨ (ok = true ∧ q = false) ∨ (ng = true ∧ n = [48])
 · rw [if_pos hsyn] at hR
   cases p
   · repeat (first | refine zD (zF rfl) ?_ | refine zG ?_ | refine zC rfl ?_)
     refine zM rfl rfl rfl h3 ?_
     repeat (first | refine zD (zF rfl) ?_ | refine zD (zE rfl) ?_ | refine zB ?_ | refine zA ?_ | refine zG ?_ | refine zC rfl ?_ | refine zB7 rfl rfl ?_ | refine zp rfl rfl rfl ?_ | refine zf rfl ?_ | refine zH ?_ | refine zQ ?_ | refine zD (zAw rfl) ?_ | refine zD (zr rfl rfl) ?_)
     exact zR hR rfl rfl
   · cases ok
     · obtain ⟨hng, hn⟩ : ng = true ∧ n = [48] := by simpa using hsyn
       subst hng
       subst hn
       repeat (first | refine zD (zF rfl) ?_ | refine zG ?_ | refine zC rfl ?_)
       refine zM rfl rfl rfl h3 ?_
       repeat (first | refine zD (zF rfl) ?_ | refine zD (zE rfl) ?_ | refine zB ?_ | refine zA ?_ | refine zG ?_ | refine zC rfl ?_ | refine zj rfl rfl ?_ | refine zp rfl rfl rfl ?_ | refine zf rfl ?_ | refine zH ?_ | refine zQ ?_ | refine zD (zAw rfl) ?_ | refine zD (zr rfl rfl) ?_ | refine zD (zBv rfl rfl) ?_)
       exact zR hR rfl rfl
     · cases q
       · repeat (first | refine zD (zF rfl) ?_ | refine zG ?_ | refine zC rfl ?_)
         refine zM rfl rfl rfl h3 ?_
         repeat (first | refine zD (zF rfl) ?_ | refine zj rfl rfl ?_ | refine zD (zAw rfl) ?_)
         refine zM rfl rfl rfl h4 ?_
         repeat (first | refine zD (zF rfl) ?_ | refine zD (zE rfl) ?_ | refine zB ?_ | refine zA ?_ | refine zG ?_ | refine zC rfl ?_ | refine zj rfl rfl ?_ | refine zB7 rfl rfl ?_ | refine zp rfl rfl rfl ?_ | refine zf rfl ?_ | refine zH ?_ | refine zQ ?_ | refine zD (zAw rfl) ?_ | refine zD (zr rfl rfl) ?_)
         exact zR hR rfl rfl
       · obtain ⟨hng, hn⟩ : ng = true ∧ n = [48] := by simpa using hsyn
         subst hng
         subst hn
         repeat (first | refine zD (zF rfl) ?_ | refine zG ?_ | refine zC rfl ?_)
         refine zM rfl rfl rfl h3 ?_
         repeat (first | refine zD (zF rfl) ?_ | refine zj rfl rfl ?_ | refine zD (zAw rfl) ?_)
         refine zM rfl rfl rfl h4 ?_
         repeat (first | refine zD (zF rfl) ?_ | refine zD (zE rfl) ?_ | refine zB ?_ | refine zA ?_ | refine zG ?_ | refine zC rfl ?_ | refine zj rfl rfl ?_ | refine zf rfl ?_ | refine zH ?_ | refine zQ ?_ | refine zD (zAw rfl) ?_ | refine zD (zr rfl rfl) ?_ | refine zD (zBv rfl rfl) ?_)
         exact zR hR rfl rfl
 rw [if_neg hsyn] at hR
 apply zAu (H := []) [(5, .str n), (6, .str d), (7, .bool ok)]
 · intro fin
   cases p
   · exact absurd (.inl rfl) hsyn
   cases ok
   · cases ng
     · repeat (first | refine zD (zF rfl) ?_ | refine zG ?_ | refine zC rfl ?_)
       refine zM rfl rfl rfl h3 ?_
       repeat (first | refine zD (zF rfl) ?_ | refine zB ?_ | refine zA ?_ | refine zj rfl rfl ?_ | refine zp rfl rfl rfl ?_ | refine ze rfl ?_ | refine zP ?_ | refine zD (zAw rfl) ?_ | refine zD (zr rfl rfl) ?_)
       exact fin _ ⟨rfl, rfl, rfl, trivial⟩
     · repeat (first | refine zD (zF rfl) ?_ | refine zG ?_ | refine zC rfl ?_)
       refine zM rfl rfl rfl h3 ?_
       repeat (first | refine zD (zF rfl) ?_ | refine zB ?_ | refine zA ?_ | refine zj rfl rfl ?_ | refine zp rfl rfl rfl ?_ | refine zD (zAw rfl) ?_ | refine zD (zr rfl rfl) ?_ | refine zD (zBv rfl rfl) ?_)
       refine zK rfl (fun h0 => absurd (.inr (.inr ⟨rfl, h0⟩)) hsyn) (fun h0 => ?_)
       repeat (first | refine zA ?_ | refine zP ?_)
       exact fin _ ⟨rfl, rfl, rfl, trivial⟩
   · cases q
     · exact absurd (.inr (.inl ⟨rfl, rfl⟩)) hsyn
     cases ng
     · repeat (first | refine zD (zF rfl) ?_ | refine zG ?_ | refine zC rfl ?_)
       refine zM rfl rfl rfl h3 ?_
       repeat (first | refine zD (zF rfl) ?_ | refine zj rfl rfl ?_ | refine zD (zAw rfl) ?_)
       refine zM rfl rfl rfl h4 ?_
       repeat (first | refine zD (zF rfl) ?_ | refine zB ?_ | refine zA ?_ | refine zj rfl rfl ?_ | refine zp rfl rfl rfl ?_ | refine ze rfl ?_ | refine zP ?_ | refine zD (zAw rfl) ?_ | refine zD (zr rfl rfl) ?_)
       exact fin _ ⟨rfl, rfl, rfl, trivial⟩
     · repeat (first | refine zD (zF rfl) ?_ | refine zG ?_ | refine zC rfl ?_)
       refine zM rfl rfl rfl h3 ?_
       repeat (first | refine zD (zF rfl) ?_ | refine zj rfl rfl ?_ | refine zD (zAw rfl) ?_)
       refine zM rfl rfl rfl h4 ?_
       repeat (first | refine zD (zF rfl) ?_ | refine zB ?_ | refine zA ?_ | refine zj rfl rfl ?_ | refine zD (zAw rfl) ?_ | refine zD (zr rfl rfl) ?_ | refine zD (zBv rfl rfl) ?_)
       refine zK rfl (fun h0 => absurd (.inr (.inr ⟨rfl, h0⟩)) hsyn) (fun h0 => ?_)
       repeat (first | refine zA ?_ | refine zP ?_)
       exact fin _ ⟨rfl, rfl, rfl, trivial⟩
 by_cases hl : 2000 < n.length ∨ 2000 < d.length
 · rw [if_pos hl] at hR
   repeat (first | refine zD (zF rfl) ?_ | refine zG ?_ | refine zC rfl ?_ | refine zD (zBU rfl rfl) ?_ | refine zD (zAl rfl rfl) ?_)
   refine zAH rfl rfl (fun h5 => ?_) (fun h5 => ?_)
   · repeat (first | refine zD (zE rfl) ?_ | refine zB ?_ | refine zA ?_ | refine zG ?_ | refine zC rfl ?_ | refine zp rfl rfl rfl ?_ | refine zf rfl ?_ | refine zH ?_ | refine zQ ?_ | refine zD (zr rfl rfl) ?_)
     exact zR hR rfl rfl
   · repeat (first | refine zD (zF rfl) ?_ | refine zB ?_ | refine zA ?_ | refine zj rfl rfl ?_ | refine zD (zBU rfl rfl) ?_ | refine zD (zr rfl rfl) ?_ | refine zD (zAl rfl rfl) ?_)
     refine zK rfl (fun h0 => ?_) (fun h0 => absurd hl (by omega))
     repeat (first | refine zD (zE rfl) ?_ | refine zB ?_ | refine zA ?_ | refine zG ?_ | refine zC rfl ?_ | refine zH ?_ | refine zQ ?_)
     exact zR hR rfl rfl
 rw [if_neg hl] at hR
 repeat (first | refine zD (zF rfl) ?_ | refine zG ?_ | refine zC rfl ?_ | refine zD (zBU rfl rfl) ?_ | refine zD (zAl rfl rfl) ?_)
 refine zAH rfl rfl (fun h5 => absurd hl (by omega)) (fun h5 => ?_)
 repeat (first | refine zD (zF rfl) ?_ | refine zB ?_ | refine zA ?_ | refine zj rfl rfl ?_ | refine zD (zBU rfl rfl) ?_ | refine zD (zr rfl rfl) ?_ | refine zD (zAl rfl rfl) ?_)
 refine zK rfl (fun h0 => absurd hl (by omega)) (fun h0 => ?_)
 cases ok
 · rw [if_neg (fun h => Bool.false_ne_true h.1)] at hR
   repeat (first | refine zD (zF rfl) ?_ | refine zD (zE rfl) ?_ | refine zB ?_ | refine zA ?_ | refine zG ?_ | refine zC rfl ?_ | refine zB7 rfl rfl ?_ | refine zp rfl rfl rfl ?_ | refine ze rfl ?_ | refine zP ?_ | refine zH ?_ | refine zD (zr rfl rfl) ?_)
   exact zR hR rfl rfl
 have hp : p = true := by cases p; exact absurd (.inl rfl) hsyn; rfl
 have hq : q = true := by cases q; exact absurd (.inr (.inl ⟨rfl, rfl⟩)) hsyn; rfl
 have c1 := cn.1 hp
 have c2 := cd.1 hq
 have h6 := zG8 n c1.2.1 (by omega)
 have h7 := zG8 d c2.2.1 (by omega)
 have v1 : (zh (zAc 0 n)).length ≤ 2000 := zHC c1 (by omega)
 have v2 : (zh (zAc 0 d)).length ≤ 2000 := zHC c2 (by omega)
 have h8 := gcd_ok (zAc 0 n) (zAc 0 d) (by omega) (by omega)
 have h9 := one_ok (Nat.gcd (zAc 0 n) (zAc 0 d))
 repeat (first | refine zD (zF rfl) ?_ | refine zA ?_ | refine zG ?_ | refine zC rfl ?_ | refine zj rfl rfl ?_ | refine zP ?_ | refine zD (zBv rfl rfl) ?_)
 refine zAH rfl rfl (fun h10 => ?_) (fun h10 => ?_)
 · rw [if_pos ⟨rfl, .inl h10⟩] at hR
   repeat (first | refine zD (zF rfl) ?_ | refine zD (zE rfl) ?_ | refine zB ?_ | refine zA ?_ | refine zG ?_ | refine zC rfl ?_ | refine zj rfl rfl ?_ | refine zp rfl rfl rfl ?_ | refine zf rfl ?_ | refine zH ?_ | refine zQ ?_ | refine zD (zr rfl rfl) ?_)
   exact zR hR rfl rfl
 · repeat (first | refine zD (zF rfl) ?_ | refine zj rfl rfl ?_ | refine zD (zr rfl rfl) ?_ | refine zD (zBv rfl rfl) ?_)
   refine zAH rfl rfl (fun h11 => ?_) (fun h11 => ?_)
   · rw [if_pos ⟨rfl, .inr (.inl h11)⟩] at hR
     repeat (first | refine zD (zE rfl) ?_ | refine zB ?_ | refine zA ?_ | refine zG ?_ | refine zC rfl ?_ | refine zj rfl rfl ?_ | refine zp rfl rfl rfl ?_ | refine zf rfl ?_ | refine zH ?_ | refine zQ ?_ | refine zD (zr rfl rfl) ?_)
     exact zR hR rfl rfl
   · by_cases hg : Nat.gcd (zAc 0 n) (zAc 0 d) = 1
     · rw [decide_eq_true hg] at h9
       rw [if_neg (fun h => by rcases h.2 with e | e | e; exact h10 e; exact h11 e; exact e hg)] at hR
       repeat (first | refine zD (zF rfl) ?_ | refine zj rfl rfl ?_)
       refine zM rfl rfl rfl h6 ?_
       repeat (first | refine zD (zF rfl) ?_ | refine zj rfl rfl ?_)
       refine zM rfl rfl rfl h7 ?_
       repeat (refine zj rfl rfl ?_)
       refine zM rfl rfl rfl h8 ?_
       repeat (refine zj rfl rfl ?_)
       refine zM rfl rfl rfl h9 ?_
       repeat (first | refine zD (zE rfl) ?_ | refine zB ?_ | refine zA ?_ | refine zG ?_ | refine zC rfl ?_ | refine zj rfl rfl ?_ | refine ze rfl ?_ | refine zP ?_ | refine zH ?_ | refine zD (zAw rfl) ?_ | refine zD (zr rfl rfl) ?_)
       exact zR hR rfl rfl
     · rw [decide_eq_false hg] at h9
       rw [if_pos ⟨rfl, .inr (.inr hg)⟩] at hR
       repeat (first | refine zD (zF rfl) ?_ | refine zj rfl rfl ?_)
       refine zM rfl rfl rfl h6 ?_
       repeat (first | refine zD (zF rfl) ?_ | refine zj rfl rfl ?_)
       refine zM rfl rfl rfl h7 ?_
       repeat (refine zj rfl rfl ?_)
       refine zM rfl rfl rfl h8 ?_
       repeat (refine zj rfl rfl ?_)
       refine zM rfl rfl rfl h9 ?_
       repeat (first | refine zD (zE rfl) ?_ | refine zB ?_ | refine zA ?_ | refine zG ?_ | refine zC rfl ?_ | refine zj rfl rfl ?_ | refine zf rfl ?_ | refine zH ?_ | refine zQ ?_ | refine zD (zAw rfl) ?_ | refine zD (zr rfl rfl) ?_)
       exact zR hR rfl rfl
end Go.Proofs.YtgmleamhjnlknaaGreatDoor
namespace Go.Proofs.YtgmleamhjnlknaaGreatDoor
open Go.Ax Go.Ax.Bg Go.Ax.Rt Go.RowKit
attribute [local irreducible] Ax zAV QOp zV zAJ
set_option maxRecDepth 100000
set_option maxHeartbeats 4000000
theorem zFV {α : Type} {l : List α} {d : α} {k : Nat} (h : k < l.length) : l.drop k = l.getD k d :: l.drop (k + 1) := by
 rw [List.drop_eq_getElem_cons h]; simp [List.getD, h]
theorem zGw (l : List (List UInt8)) (hlen : l.length ≤ 9223372036854775807) (hs : ∀ s ∈ l, s.length ≤ 9223372036854775807) : zk Tryz.prog 85 [.ro (.strs l) 0 l.length] (.int .i64 (zC4 l)) := by
 refine zV.value0 (zN (P := Tryz.prog) (fn := Tryz.f85) rfl rfl (by kernel_rfl) rfl (fun c hR hfix => ?_)) (fix := fun _ => False) (fun _ h => h) rfl rfl
 repeat (first | refine zD (zF rfl) ?_ | refine zD (zE rfl) ?_ | refine zB ?_ | refine zA ?_ | refine zG ?_ | refine zC rfl ?_ | refine zT ?_ | refine zD (zw rfl rfl rfl) ?_)
 refine zAC (ι := Nat) (fun k => [(0, .ro (.strs l) 0 l.length), (6, .ro (.strs l) 0 l.length), (7, .int .i64 (l.length : Nat)), (8, .int .i64 (k : Nat))]) (fun _ => [])
   (fun k => k ≤ l.length ∧ zC4 l = zC4 (l.drop k)) (fun k => l.length - k) 0 ⟨⟨rfl, rfl, rfl, rfl, trivial⟩, rfl, Nat.zero_le _, by rw [List.drop_zero]⟩ ?_
 intro k ⟨hk, hE⟩
 repeat (first | refine zB ?_ | refine zA ?_ | refine zG ?_ | refine zC rfl ?_ | refine zD (zAQ rfl rfl) ?_)
 refine zK rfl (fun h => ?_) (fun h => ?_)
 · have hk' : k < l.length := by omega
   have hd := zFV (d := []) hk'
   have hc := zIh (l.getD k []) (hs _ (zA6 [] hk'))
   rw [hd, zC4] at hE
   repeat (first | refine zD (zF rfl) ?_ | refine zD (zE rfl) ?_ | refine zB ?_ | refine zA ?_ | refine zG ?_ | refine zC rfl ?_ | refine zT ?_ | refine zP ?_ | refine zD (zBx rfl rfl rfl) ?_ | refine zD (zY rfl rfl rfl rfl (by first | (simp only [Nat.zero_add, Int.toNat_natCast, Int.toNat_zero]; exact rfl) | exact rfl) (by omega)) ?_)
   refine zM rfl rfl rfl hc ?_
   repeat (first | refine zD (zF rfl) ?_ | refine zD (zE rfl) ?_ | refine zB ?_ | refine zA ?_ | refine zG ?_ | refine zC rfl ?_ | refine zD (zAb rfl rfl) ?_)
   refine zK rfl (fun h2 => ?_) (fun h2 => ?_)
   · rw [if_neg h2] at hE
     repeat (first | refine zD (zF rfl) ?_ | refine zD (zE rfl) ?_ | refine zB ?_ | refine zA ?_ | refine zG ?_ | refine zC rfl ?_ | refine zH ?_ | refine zQ ?_ | refine zo ?_ | refine zAf ?_)
     refine zR hR rfl ?_
     rw [hE]; rfl
   · rw [if_pos (Classical.not_not.1 h2)] at hE
     repeat (first | refine zD (zF rfl) ?_ | refine zB ?_ | refine zA ?_ | refine zC rfl ?_ | refine zZ ?_ | refine zP ?_ | refine zD (zAK rfl rfl (by omega)) ?_)
     refine zd ⟨k + 1, ⟨by omega, hE⟩, by omega, ⟨rfl, rfl, rfl, rfl, trivial⟩, rfl⟩
 · have hk' : k = l.length := by omega
   subst hk'
   rw [List.drop_length] at hE
   repeat (first | refine zD (zE rfl) ?_ | refine zB ?_ | refine zA ?_ | refine zG ?_ | refine zC rfl ?_ | refine zx ?_ | refine zW ?_ | refine zX ?_ | refine zi ?_ | refine zH ?_)
   refine zR hR rfl ?_
   rw [hE]; rfl
theorem sz_v {s : List UInt8} (h : zCW s = 0) : Sz 2000 (zAi s) := by
 have hp := zDO h
 refine ⟨?_, ?_⟩
 · rw [hp.num, zDb]; exact zHC hp.cn hp.ln
 · rw [hp.den]
   cases e : zEq s
   · rw [zFU e, zE6]; decide
   · rw [zEJ e]; exact zHC (hp.cd e).1 hp.ld
theorem Sz.mono {j k : Nat} {q : Rat} (h : Sz j q) (hk : j ≤ k) : Sz k q := ⟨Nat.le_trans h.1 hk, Nat.le_trans h.2 hk⟩
theorem sz_frac {n d : Int} {k : Nat} (hd : d ≠ 0) (h1 : (zh n.natAbs).length ≤ k) (h2 : (zh d.natAbs).length ≤ k) : Sz k (Rat.divInt n d) := by
 obtain ⟨e1, e2, _⟩ := zFx n d hd
 refine ⟨?_, ?_⟩
 · rw [e1]; exact zDt (Nat.div_le_self _ _) h1
 · rw [e2]; exact zDt (Nat.div_le_self _ _) h2
theorem zKv {p q : Rat} {k : Nat} (hp : Sz k p) (hq : Sz k q) : Sz (k + k + 1) (p + q) := by
 have l1 : (zh (q.den : Int).natAbs).length ≤ k := hq.2
 have l2 : (zh (p.den : Int).natAbs).length ≤ k := hp.2
 rw [← zHf]
 refine sz_frac (by have := Nat.mul_ne_zero p.den_nz q.den_nz; omega) (zJ3 (zDq hp.1 l1) (zDq hq.1 l2)) ?_
 rw [Int.natAbs_natCast]
 have := zHE hp.2 hq.2
 omega
theorem rtwo_ok (a b : List UInt8) (ha : a.length ≤ 9223372036854775807) (hb : b.length ≤ 9223372036854775807) (g : FuncId) (F : Rat → Rat → Rat) (hF : zC4 [a, b] = 0 → zk Tryz.prog g [qA (zAi a), qA (zAi b)] (qA (F (zAi a) (zAi b))) ∧ Sz 100000 (F (zAi a) (zAi b))) : zk Tryz.prog 88 [.str a, .str b, .fn g []] (zIZ (twoR F a b)) := by
 have h1 := zGw [a, b] (by show 2 ≤ _; decide) (by intro s hs; simp at hs; rcases hs with rfl | rfl <;> assumption)
 unfold twoR
 by_cases hE : zC4 [a, b] = 0
 · obtain ⟨h2, hz⟩ := hF hE
   rw [if_pos hE]
   rw [hE] at h1
   have ea := zCX hE a (by simp)
   have eb := zCX hE b (by simp)
   have h3 := zFM a ha ea
   have h4 := zFM b hb eb
   have h5 := out_ok _ hz
   refine zV.value0 (zN (P := Tryz.prog) (fn := Tryz.f88) rfl rfl (by kernel_rfl) rfl (fun c hR hfix => ?_)) (fix := fun _ => False) (fun _ h => h) rfl rfl
   generalize zFr (F (zAi a) (zAi b)) = r at *
   unfold zIZ at *
   repeat (first | refine zD (zF rfl) ?_ | refine zD (zE rfl) ?_ | refine zB ?_ | refine zA ?_ | refine zG ?_ | refine zC rfl ?_ | refine zS rfl rfl rfl rfl rfl rfl rfl rfl rfl rfl rfl ?_)
   refine zM rfl rfl rfl h1 ?_
   repeat (first | refine zD (zF rfl) ?_ | refine zD (zE rfl) ?_ | refine zB ?_ | refine zA ?_ | refine zG ?_ | refine zC rfl ?_ | refine ze rfl ?_ | refine zP ?_ | refine zD (zAb rfl rfl) ?_)
   refine zM rfl rfl rfl h3 ?_
   repeat (refine zD (zF rfl) ?_)
   refine zM rfl rfl rfl h4 ?_
   skip
   refine zM rfl rfl rfl h2 ?_
   skip
   refine zM rfl rfl rfl h5 ?_
   repeat (first | refine zD (zE rfl) ?_ | refine zB ?_ | refine zA ?_ | refine zH ?_ | refine zD (zz rfl rfl) ?_)
   exact zR hR rfl rfl
 · rw [if_neg hE]
   generalize zC4 [a, b] = e at *
   refine zV.value0 (zN (P := Tryz.prog) (fn := Tryz.f88) rfl rfl (by kernel_rfl) rfl (fun c hR hfix => ?_)) (fix := fun _ => False) (fun _ h => h) rfl rfl
   repeat (first | refine zD (zF rfl) ?_ | refine zD (zE rfl) ?_ | refine zB ?_ | refine zA ?_ | refine zG ?_ | refine zC rfl ?_ | refine zS rfl rfl rfl rfl rfl rfl rfl rfl rfl rfl rfl ?_)
   refine zM rfl rfl rfl h1 ?_
   repeat (first | refine zD (zF rfl) ?_ | refine zD (zE rfl) ?_ | refine zB ?_ | refine zA ?_ | refine zG ?_ | refine zC rfl ?_ | refine zD (zAb rfl rfl) ?_)
   refine zK rfl (fun h2 => ?_) (fun h2 => absurd hE h2)
   repeat (first | refine zD (zF rfl) ?_ | refine zD (zE rfl) ?_ | refine zB ?_ | refine zA ?_ | refine zG ?_ | refine zC rfl ?_ | refine zH ?_ | refine zQ ?_)
   exact zR hR rfl rfl
theorem radd_ok (a b : List UInt8) (ha : a.length ≤ 9223372036854775807) (hb : b.length ≤ 9223372036854775807) : zk Tryz.prog 30 [.str a, .str b] (zIZ (twoR (fun x y => x + y) a b)) := by
 have h1 := rtwo_ok a b ha hb 67 (fun x y => x + y) (fun hE => by
   have za := sz_v (zCX hE a (by simp))
   have zb := sz_v (zCX hE b (by simp))
   exact ⟨zLR _ _ (za.mono (by decide)) (zb.mono (by decide)), (zKv za zb).mono (by decide)⟩)
 refine zV.value0 (zN (P := Tryz.prog) (fn := Tryz.f30) rfl rfl (by kernel_rfl) rfl (fun c hR hfix => ?_)) (fix := fun _ => False) (fun _ h => h) rfl rfl
 generalize twoR (fun x y => x + y) a b = r at *
 unfold zIZ at *
 repeat (first | refine zD (zF rfl) ?_ | refine zD (zE rfl) ?_ | refine zB ?_ | refine zA ?_ | refine zG ?_ | refine zC rfl ?_)
 refine zM rfl rfl rfl h1 ?_
 repeat (first | refine zD (zE rfl) ?_ | refine zB ?_ | refine zA ?_ | refine zH ?_ | refine zD (zz rfl rfl) ?_)
 exact zR hR rfl rfl
end Go.Proofs.YtgmleamhjnlknaaGreatDoor
namespace Go.Proofs.YtgmleamhjnlknaaGreatDoor
open Go.Ax Go.Ax.Bg Go.Ax.Rt Go.RowKit
attribute [local irreducible] Ax zAV QOp zV zAJ
set_option maxRecDepth 100000
set_option maxHeartbeats 4000000
section
variable {α : Type}
theorem zJT (d : α) (n : Nat) (e : α → List AV) (ls : List α) (s : α) (cx : Cells) (h0 : ∀ j, j < n → cx.at 0 j = (e s).getD j .any) (i j : Nat) (hi : i < ls.length + 1) (hj : j < n) :
   (bif Nat.blt i ls.length then (zCN d n e ls).at i j else cx.at (0 + (i - ls.length)) j) = (zCN d n e (ls ++ [s])).at i j := by
 rcases Nat.lt_or_ge i ls.length with h | h
 · have e1 : Nat.blt i ls.length = true := by rw [Nat.blt_eq]; exact h
   rw [e1]
   simp only [zCN, Cells.at, cond_true, List.getD, List.getElem?_append_left h]
 · have hie : i = ls.length := by omega
   have e1 : Nat.blt i ls.length = false := by rw [← Bool.not_eq_true, Nat.blt_eq]; omega
   subst hie
   rw [e1]
   simp only [cond_false, Nat.sub_self, Nat.zero_add]
   rw [h0 j hj]
   simp [zCN, Cells.at, List.getD]
theorem zDL (d : α) (n : Nat) (e : α → List AV) (ls : List α) (s : α) (cx : Cells) (h0 : ∀ j, j < n → cx.at 0 j = (e s).getD j .any) :
   CEq (.fn (ls.length + 1) n (fun i j => bif Nat.blt i ls.length then (zCN d n e ls).at i j else cx.at (0 + (i - ls.length)) j)) (zCN d n e (ls ++ [s])) := by
 refine ⟨by simp [zCN, Cells.len], rfl, fun i j hi hj => ?_⟩
 exact (zJT d n e ls s cx h0 i j hi hj).symm
theorem zEZ (d : α) (n : Nat) (e : α → List AV) (hn : ∀ a j h, j < n → ((e a).getD j .any).forget h = (e a).getD j .any) (ls : List α) (s : α) (cx : Cells) (h0 : ∀ j, j < n → cx.at 0 j = (e s).getD j .any) (h i j : Nat) (hi : i < ls.length + 1) (hj : j < n) :
   (bif Nat.blt i ls.length then (zCN d n e ls).at i j else cx.at (0 + (i - ls.length)) j).forget h = (bif Nat.blt i ls.length then (zCN d n e ls).at i j else cx.at (0 + (i - ls.length)) j) := by
 rw [zJT d n e ls s cx h0 i j hi hj]; exact hn _ _ _ hj
theorem zDz {β : Type} (f : α → β) (l : List α) (d : α) (k : Nat) (hk : k < l.length) : (l.take (k + 1)).map f = (l.take k).map f ++ [f (l.getD k d)] := by
 rw [List.take_succ_eq_append_getElem hk, List.map_append]; simp [List.getD, hk]
end
def zAg (q : Rat) : List AV := [.bool (decide (q.num < 0)), zAL q.num.natAbs, zAL q.den]
abbrev qsC (l : List Rat) : Cells := zCN 0 3 zAg l
theorem zEU (q : Rat) (j h : Nat) (hj : j < 3) : ((zAg q).getD j .any).forget h = (zAg q).getD j .any := by
 match j, hj with
 | 0, _ => rfl
 | 1, _ => rfl
 | 2, _ => rfl
theorem zHo (l : List Rat) : zAO (qsC l) := by
 intro i j _ hj
 show noRef ((zAg (l.getD i 0)).getD j .any) = true
 have hj : j < 3 := hj
 match j, hj with
 | 0, _ => rfl
 | 1, _ => rfl
 | 2, _ => rfl
theorem zIj (q : Rat) (j : Nat) (hj : j < 3) : (zD9 1 3 [.bool (decide (q.num < 0)), zAL q.num.natAbs, zAL q.den]).at 0 j = (zAg q).getD j .any := by
 match j, hj with
 | 0, _ => rfl
 | 1, _ => rfl
 | 2, _ => rfl
theorem in_ok (l : List (List UInt8)) (hlen : l.length ≤ 1000000) (hs : ∀ s ∈ l, s.length ≤ 9223372036854775807 ∧ zCW s = 0) : zk Tryz.prog 70 [.ro (.strs l) 0 l.length] (.ro (qsC (l.map zAi)) 0 l.length) := by
 refine zV.value0 (zN (P := Tryz.prog) (fn := Tryz.f70) rfl rfl (by kernel_rfl) rfl (fun c hR hfix => ?_)) (fix := fun _ => False) (fun _ h => h) rfl rfl
 repeat (first | refine zD (zF rfl) ?_ | refine zD (zE rfl) ?_ | refine zB ?_ | refine zA ?_ | refine zG ?_ | refine zC rfl ?_ | refine zD (zw rfl rfl rfl) ?_)
 refine zBn 3 ⟨108, qsC []⟩ rfl rfl ?_
 repeat (refine zT ?_)
 refine zAC (ι := Nat) (fun k => [(0, .ro (.strs l) 0 l.length), (3, .sl 0 0 k), (6, .ro (.strs l) 0 l.length), (7, .int .i64 (l.length : Nat)), (8, .int .i64 (k : Nat))]) (fun k => [some ⟨108, qsC ((l.take k).map zAi)⟩])
   (fun k => k ≤ l.length) (fun k => l.length - k) 0 ⟨⟨rfl, rfl, rfl, rfl, rfl, trivial⟩, rfl, Nat.zero_le _⟩ ?_
 intro k hk
 repeat (first | refine zB ?_ | refine zA ?_ | refine zG ?_ | refine zC rfl ?_ | refine zD (zAQ rfl rfl) ?_)
 refine zK rfl (fun h => ?_) (fun h => ?_)
 · have hk' : k < l.length := by omega
   obtain ⟨b1, b2⟩ := hs _ (zA6 [] hk')
   have hc := zFM (l.getD k []) b1 b2
   have htk := zDz zAi l [] k hk'
   have hml : ((l.take k).map zAi).length = k := by rw [List.length_map, List.length_take]; omega
   generalize (l.take k).map zAi = qs at *
   repeat (first | refine zD (zF rfl) ?_ | refine zD (zE rfl) ?_ | refine zB ?_ | refine zA ?_ | refine zG ?_ | refine zC rfl ?_ | refine zT ?_ | refine zP ?_ | refine zD (zBx rfl rfl rfl) ?_ | refine zD (zY rfl rfl rfl rfl (by first | (simp only [Nat.zero_add, Int.toNat_natCast, Int.toNat_zero]; exact rfl) | exact rfl) (by omega)) ?_)
   refine zM rfl rfl rfl hc ?_
   unfold qA
   repeat (refine zS rfl rfl rfl rfl rfl rfl rfl rfl rfl rfl rfl ?_)
   refine zAE rfl rfl rfl rfl rfl rfl rfl rfl rfl hml rfl rfl (by show 0 + 1 ≤ 1; omega) rfl (by show (k + 1) * 56 ≤ _ ∧ _; omega) ?_ (by rw [hfix]; exact fun h => h) ?_
   · intro i' j hi hj
     exact zEZ 0 3 zAg zEU qs (zAi (l.getD k [])) _ (zIj _) 0 i' j hi hj
   repeat (first | refine zD (zE rfl) ?_ | refine zB ?_ | refine zZ ?_)
   refine zA ?_
   refine zHD [some ⟨108, qsC ((l.take (k + 1)).map zAi)⟩] ?_ ?_
   · rw [htk]
     exact zAk.eqv (zDL 0 3 zAg qs (zAi (l.getD k [])) _ (zIj _)) zAk.nil
   repeat (first | refine zD (zF rfl) ?_ | refine zB ?_ | refine zC rfl ?_ | refine zD (zAK rfl rfl (by omega)) ?_)
   exact zd ⟨k + 1, by omega, by omega, ⟨rfl, rfl, rfl, rfl, rfl, trivial⟩, rfl⟩
 · have hk' : k = l.length := by omega
   subst hk'
   rw [List.take_length]
   repeat (first | refine zA ?_ | refine zG ?_ | refine zx ?_ | refine zW ?_ | refine zX ?_ | refine zi ?_)
   refine zA4 0 3 l.length [] rfl (zHo _) rfl (by show _ ≤ (l.map zAi).length; rw [List.length_map]; exact Nat.le_refl _) trivial ?_
   repeat (first | refine zD (zF rfl) ?_ | refine zD (zE rfl) ?_ | refine zB ?_ | refine zA ?_ | refine zC rfl ?_ | refine zH ?_)
   exact zR hR rfl rfl
end Go.Proofs.YtgmleamhjnlknaaGreatDoor
namespace Go.Proofs.YtgmleamhjnlknaaGreatDoor
open Go.Ax Go.Ax.Bg Go.Ax.Rt Go.RowKit
attribute [local irreducible] Ax zAV QOp zV zAJ
set_option maxRecDepth 100000
set_option maxHeartbeats 4000000
open Go.Ax.Idx Go.Ax.Cd
theorem zKm (l : List (List UInt8)) (g : FuncId) (caps : List AV) (p : List UInt8 → Bool) (hc : noRef.noRefs caps = true) (hlen : l.length ≤ 9223372036854775807) (hp : ∀ x ∈ l, zk Tryz.prog g ([.str x] ++ caps) (.bool (p x))) :
   zk Tryz.prog 165 [.ro (.strs l) 0 l.length, .fn g caps] (.int .i64 (zCa p l)) := by
 refine zV.value0 (zN (P := Tryz.prog) (fn := Tryz.f165) rfl rfl (by kernel_rfl) rfl (fun c hR hfix => ?_)) (fix := fun _ => False) (fun _ h => h) (by simp [noRef.noRefs, noRef, hc]) rfl
 repeat (first | refine zD (zF rfl) ?_ | refine zD (zE rfl) ?_ | refine zB ?_ | refine zA ?_ | refine zG ?_ | refine zC rfl ?_ | refine zT ?_ | refine zD (zw rfl rfl rfl) ?_)
 refine zAC (ι := Nat) (fun k => [(0, .ro (.strs l) 0 l.length), (1, .fn g caps), (7, .int .i64 (l.length : Nat)), (8, .int .i64 (k : Nat))]) (fun _ => [])
   (fun k => k ≤ l.length ∧ (l.take k).any p = false) (fun k => l.length - k) 0 ⟨⟨rfl, rfl, rfl, rfl, trivial⟩, rfl, Nat.zero_le _, rfl⟩ ?_
 intro k ⟨hk, hany⟩
 repeat (first | refine zB ?_ | refine zA ?_ | refine zG ?_ | refine zC rfl ?_ | refine zD (zAQ rfl rfl) ?_)
 refine zK rfl (fun h => ?_) (fun h => ?_)
 · have hk' : k < l.length := by omega
   have hanys := zCA p l [] k hk'
   repeat (first | refine zD (zF rfl) ?_ | refine zD (zE rfl) ?_ | refine zB ?_ | refine zA ?_ | refine zG ?_ | refine zC rfl ?_ | refine zT ?_ | refine zP ?_ | refine zD (zBx rfl rfl rfl) ?_ | refine zD (zY rfl rfl rfl rfl (by first | (simp only [Nat.zero_add, Int.toNat_natCast, Int.toNat_zero]; exact rfl) | exact rfl) (by omega)) ?_)
   refine zM rfl rfl rfl (hp _ (zA6 [] hk')) ?_
   repeat (first | refine zB ?_ | refine zA ?_)
   refine zCv rfl (fun h2 => ?_) (fun h2 => ?_)
   · repeat (first | refine zD (zF rfl) ?_ | refine zD (zE rfl) ?_ | refine zB ?_ | refine zA ?_ | refine zG ?_ | refine zC rfl ?_ | refine zH ?_ | refine zQ ?_ | refine zo ?_ | refine zAf ?_)
     refine zR hR rfl ?_
     have := zBo p l k hany hk
     rw [zBm l [] k hk'] at this
     simp only [zCa, h2, if_true] at this
     rw [this]; simp [zA1]
   · repeat (first | refine zD (zF rfl) ?_ | refine zB ?_ | refine zA ?_ | refine zC rfl ?_ | refine zZ ?_ | refine zP ?_ | refine zD (zAK rfl rfl (by omega)) ?_)
     refine zd ⟨k + 1, ⟨by omega, by rw [hanys, hany, h2]; rfl⟩, by omega, ⟨rfl, rfl, rfl, rfl, trivial⟩, rfl⟩
 · have hk' : k = l.length := by omega
   subst hk'
   repeat (first | refine zD (zE rfl) ?_ | refine zB ?_ | refine zA ?_ | refine zG ?_ | refine zC rfl ?_ | refine zx ?_ | refine zW ?_ | refine zX ?_ | refine zi ?_ | refine zH ?_)
   refine zR hR rfl ?_
   have := zBo p l l.length hany hk
   rw [List.drop_length] at this
   rw [this]; rfl
theorem zIK (l : List (List UInt8)) (g : FuncId) (caps : List AV) (p : List UInt8 → Bool) (hc : noRef.noRefs caps = true) (hlen : l.length ≤ 9223372036854775807) (hp : ∀ x ∈ l, zk Tryz.prog g ([.str x] ++ caps) (.bool (p x))) :
   zk Tryz.prog 122 [.ro (.strs l) 0 l.length, .fn g caps] (.bool (l.any p)) := by
 refine zV.value0 (zN (P := Tryz.prog) (fn := Tryz.f122) rfl rfl (by kernel_rfl) rfl (fun c hR hfix => ?_)) (fix := fun _ => False) (fun _ h => h) (by simp [noRef.noRefs, noRef, hc]) rfl
 repeat (first | refine zD (zF rfl) ?_ | refine zD (zE rfl) ?_ | refine zB ?_ | refine zA ?_ | refine zG ?_ | refine zC rfl ?_)
 refine zM rfl rfl rfl (zKm l g caps p hc hlen hp) ?_
 repeat (first | refine zD (zE rfl) ?_ | refine zB ?_ | refine zA ?_ | refine zH ?_ | refine zD (zC2 rfl rfl) ?_)
 refine zR hR rfl ?_
 simp only [zA1, zEz]
theorem ratNeg1 (s : List UInt8) (hs : s.length ≤ 9223372036854775807) : zk Tryz.prog 145 [.str s] (.bool (zCL s)) := by
 have h1 := zHA s [45] hs (by decide)
 rw [zLW] at h1
 refine zV.value0 (zN (P := Tryz.prog) (fn := Tryz.f145) rfl rfl (by kernel_rfl) rfl (fun c hR hfix => ?_)) (fix := fun _ => False) (fun _ h => h) rfl rfl
 repeat (first | refine zD (zF rfl) ?_ | refine zD (zE rfl) ?_ | refine zB ?_ | refine zA ?_ | refine zG ?_ | refine zC rfl ?_)
 refine zM rfl rfl rfl h1 ?_
 repeat (first | refine zD (zE rfl) ?_ | refine zB ?_ | refine zA ?_ | refine zH ?_)
 exact zR hR rfl rfl
theorem zKx (l : List Rat) (hlen : l.length ≤ 1000000) (hs : ∀ q ∈ l, Sz 100000 q) (hall : l.all zBd = true) : zk Tryz.prog 75 [.ro (qsC l) 0 l.length] (.tup [.ro (.strs (l.map zAM)) 0 l.length, .int .i64 0]) := by
 refine zV.value0 (zN (P := Tryz.prog) (fn := Tryz.f75) rfl rfl (by kernel_rfl) rfl (fun c hR hfix => ?_)) (fix := fun _ => False) (fun _ h => h) rfl rfl
 repeat (first | refine zD (zF rfl) ?_ | refine zD (zE rfl) ?_ | refine zB ?_ | refine zA ?_ | refine zG ?_ | refine zC rfl ?_ | refine zD (zw rfl rfl rfl) ?_)
 refine zBn 4 ⟨40, .strs []⟩ rfl rfl ?_
 repeat (refine zT ?_)
 refine zAC (ι := Nat) (fun k => [(0, .ro (qsC l) 0 l.length), (4, .sl 0 0 k), (9, .ro (qsC l) 0 l.length), (10, .int .i64 (l.length : Nat)), (11, .int .i64 (k : Nat))]) (fun k => [some ⟨40, .strs ((l.take k).map zAM)⟩])
   (fun k => k ≤ l.length ∧ (l.drop k).all zBd = true) (fun k => l.length - k) 0 ⟨⟨rfl, rfl, rfl, rfl, rfl, trivial⟩, rfl, Nat.zero_le _, hall⟩ ?_
 rintro k ⟨hk, hA⟩
 repeat (first | refine zB ?_ | refine zA ?_ | refine zG ?_ | refine zC rfl ?_ | refine zD (zAQ rfl rfl) ?_)
 refine zK rfl (fun h => ?_) (fun h => ?_)
 · have hk' : k < l.length := by omega
   have hz := hs _ (zA6 0 hk')
   have hd := zFV (d := (0 : Rat)) hk'
   rw [hd, List.all_cons] at hA
   have htk := zDz zAM l 0 k hk'
   have hml : ((l.take k).map zAM).length = k := by rw [List.length_map, List.length_take]; omega
   generalize hX : (l.take k).map zAM = ts at *
   repeat (first | refine zA ?_ | refine zG ?_ | refine zC rfl ?_ | refine zT ?_ | refine zP ?_ | refine zD (zY rfl rfl rfl rfl (by first | (simp only [Nat.zero_add, Int.toNat_natCast, Int.toNat_zero]; exact rfl) | exact rfl) (by omega)) ?_ | refine zD (zAS rfl rfl rfl rfl rfl rfl) ?_ | refine z8 rfl rfl rfl ?_)
   refine zU 14 (.agg (zAg (l.getD k 0))) rfl (AEq.of_eq rfl) ?_
   generalize l.getD k 0 = q at *
   refine zl (c' := .box (zAg q)) rfl rfl rfl rfl rfl Nat.zero_lt_one rfl rfl (fun i' j' hi' hj' => ?_) ?_
   · rw [if_pos (Nat.lt_one_iff.1 hi')]; rfl
   rw [Bool.and_eq_true] at hA
   have hc := zIz q hz hA.1
   repeat (first | refine zB ?_ | refine zA ?_ | refine zG ?_ | refine zC rfl ?_ | refine zD (zq rfl rfl rfl rfl rfl rfl rfl (by first | exact Nat.zero_lt_one | assumption | omega)) ?_)
   refine zM rfl rfl rfl hc ?_
   repeat (first | refine zD (zF rfl) ?_ | refine zD (zE rfl) ?_ | refine zB ?_ | refine zA ?_ | refine zG ?_ | refine zC rfl ?_ | refine ze rfl ?_ | refine zP ?_ | refine zD (zAb rfl rfl) ?_ | refine zD (zz rfl rfl) ?_ | refine zS rfl rfl rfl rfl rfl rfl rfl rfl rfl rfl rfl ?_)
   refine zAE rfl rfl rfl rfl rfl rfl rfl rfl rfl hml rfl rfl (by show 0 + 1 ≤ 1; omega) rfl (by show (k + 1) * 16 ≤ _ ∧ _; omega) (fun i j _ _ => rfl) (by rw [hfix]; exact fun h => h) ?_
   repeat (first | refine zD (zE rfl) ?_ | refine zB ?_ | refine zZ ?_)
   refine zA ?_
   refine zHD ([some ⟨40, .strs ((l.take (k + 1)).map zAM)⟩] ++ [none]) ?_ ?_
   · rw [htk]
     exact zAk.eqv (CEq.refl _) (zAk.drop zAk.nil)
   refine zJD (H1 := [some ⟨40, .strs ((l.take (k + 1)).map zAM)⟩]) rfl (by rw [hfix]; exact fun h => h) ?_
   repeat (first | refine zD (zF rfl) ?_ | refine zB ?_ | refine zC rfl ?_ | refine zD (zAK rfl rfl (by omega)) ?_)
   exact zd ⟨k + 1, ⟨by omega, hA.2⟩, by omega, ⟨rfl, rfl, rfl, rfl, rfl, trivial⟩, rfl⟩
 · have hk' : k = l.length := by omega
   subst hk'
   rw [List.take_length]
   repeat (first | refine zA ?_ | refine zG ?_ | refine zx ?_ | refine zW ?_ | refine zX ?_ | refine zi ?_)
   refine zA4 0 4 l.length [] rfl (fun _ _ _ _ => rfl) rfl (by show _ ≤ (l.map zAM).length; rw [List.length_map]; exact Nat.le_refl _) trivial ?_
   repeat (first | refine zD (zF rfl) ?_ | refine zD (zE rfl) ?_ | refine zB ?_ | refine zA ?_ | refine zC rfl ?_ | refine zH ?_)
   exact zR hR rfl rfl
theorem zMJ (l : List Rat) (hlen : l.length ≤ 1000000) (hs : ∀ q ∈ l, Sz 100000 q) (hall : l.all zBd = false) : zk Tryz.prog 75 [.ro (qsC l) 0 l.length] (.tup [.nil, .int .i64 2]) := by
 refine zV.value0 (zN (P := Tryz.prog) (fn := Tryz.f75) rfl rfl (by kernel_rfl) rfl (fun c hR hfix => ?_)) (fix := fun _ => False) (fun _ h => h) rfl rfl
 repeat (first | refine zD (zF rfl) ?_ | refine zD (zE rfl) ?_ | refine zB ?_ | refine zA ?_ | refine zG ?_ | refine zC rfl ?_ | refine zD (zw rfl rfl rfl) ?_)
 refine zBn 4 ⟨40, .strs []⟩ rfl rfl ?_
 repeat (refine zT ?_)
 refine zAC (ι := Nat) (fun k => [(0, .ro (qsC l) 0 l.length), (4, .sl 0 0 k), (9, .ro (qsC l) 0 l.length), (10, .int .i64 (l.length : Nat)), (11, .int .i64 (k : Nat))]) (fun k => [some ⟨40, .strs ((l.take k).map zAM)⟩])
   (fun k => k ≤ l.length ∧ (l.drop k).all zBd = false) (fun k => l.length - k) 0 ⟨⟨rfl, rfl, rfl, rfl, rfl, trivial⟩, rfl, Nat.zero_le _, hall⟩ ?_
 rintro k ⟨hk, hA⟩
 repeat (first | refine zB ?_ | refine zA ?_ | refine zG ?_ | refine zC rfl ?_ | refine zD (zAQ rfl rfl) ?_)
 refine zK rfl (fun h => ?_) (fun h => ?_)
 · have hk' : k < l.length := by omega
   have hz := hs _ (zA6 0 hk')
   have hd := zFV (d := (0 : Rat)) hk'
   rw [hd, List.all_cons] at hA
   have htk := zDz zAM l 0 k hk'
   have hml : ((l.take k).map zAM).length = k := by rw [List.length_map, List.length_take]; omega
   generalize hX : (l.take k).map zAM = ts at *
   repeat (first | refine zA ?_ | refine zG ?_ | refine zC rfl ?_ | refine zT ?_ | refine zP ?_ | refine zD (zY rfl rfl rfl rfl (by first | (simp only [Nat.zero_add, Int.toNat_natCast, Int.toNat_zero]; exact rfl) | exact rfl) (by omega)) ?_ | refine zD (zAS rfl rfl rfl rfl rfl rfl) ?_ | refine z8 rfl rfl rfl ?_)
   refine zU 14 (.agg (zAg (l.getD k 0))) rfl (AEq.of_eq rfl) ?_
   generalize l.getD k 0 = q at *
   refine zl (c' := .box (zAg q)) rfl rfl rfl rfl rfl Nat.zero_lt_one rfl rfl (fun i' j' hi' hj' => ?_) ?_
   · rw [if_pos (Nat.lt_one_iff.1 hi')]; rfl
   cases hf : zBd q
   · have hc := out_no q hz hf
     repeat (first | refine zB ?_ | refine zA ?_ | refine zG ?_ | refine zC rfl ?_ | refine zD (zq rfl rfl rfl rfl rfl rfl rfl (by first | exact Nat.zero_lt_one | assumption | omega)) ?_)
     refine zM rfl rfl rfl hc ?_
     repeat (first | refine zD (zF rfl) ?_ | refine zD (zE rfl) ?_ | refine zB ?_ | refine zA ?_ | refine zG ?_ | refine zC rfl ?_ | refine zf rfl ?_ | refine zH ?_ | refine zQ ?_ | refine zo ?_ | refine zAf ?_ | refine zD (zAb rfl rfl) ?_ | refine zD (zz rfl rfl) ?_)
     exact zR hR rfl rfl
   · have hc := zIz q hz hf
     rw [hf, Bool.true_and] at hA
     repeat (first | refine zB ?_ | refine zA ?_ | refine zG ?_ | refine zC rfl ?_ | refine zD (zq rfl rfl rfl rfl rfl rfl rfl (by first | exact Nat.zero_lt_one | assumption | omega)) ?_)
     refine zM rfl rfl rfl hc ?_
     repeat (first | refine zD (zF rfl) ?_ | refine zD (zE rfl) ?_ | refine zB ?_ | refine zA ?_ | refine zG ?_ | refine zC rfl ?_ | refine ze rfl ?_ | refine zP ?_ | refine zD (zAb rfl rfl) ?_ | refine zD (zz rfl rfl) ?_ | refine zS rfl rfl rfl rfl rfl rfl rfl rfl rfl rfl rfl ?_)
     refine zAE rfl rfl rfl rfl rfl rfl rfl rfl rfl hml rfl rfl (by show 0 + 1 ≤ 1; omega) rfl (by show (k + 1) * 16 ≤ _ ∧ _; omega) (fun i j _ _ => rfl) (by rw [hfix]; exact fun h => h) ?_
     repeat (first | refine zD (zE rfl) ?_ | refine zB ?_ | refine zZ ?_)
     refine zA ?_
     refine zHD ([some ⟨40, .strs ((l.take (k + 1)).map zAM)⟩] ++ [none]) ?_ ?_
     · rw [htk]
       exact zAk.eqv (CEq.refl _) (zAk.drop zAk.nil)
     refine zJD (H1 := [some ⟨40, .strs ((l.take (k + 1)).map zAM)⟩]) rfl (by rw [hfix]; exact fun h => h) ?_
     repeat (first | refine zD (zF rfl) ?_ | refine zB ?_ | refine zC rfl ?_ | refine zD (zAK rfl rfl (by omega)) ?_)
     exact zd ⟨k + 1, ⟨by omega, hA⟩, by omega, ⟨rfl, rfl, rfl, rfl, rfl, trivial⟩, rfl⟩
 · have hk' : k = l.length := by omega
   subst hk'
   rw [List.drop_length] at hA
   exact absurd hA (by decide)
end Go.Proofs.YtgmleamhjnlknaaGreatDoor
