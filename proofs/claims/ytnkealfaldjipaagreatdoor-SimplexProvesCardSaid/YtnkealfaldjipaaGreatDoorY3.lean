import Derived.Shelf.Strconv.Itoa3
import Derived.Shelf.Pu.ParseUintPublic10
import Derived.Shelf.Bits.Mul64
import Derived.Shelf.Strings.OnBuilder
import Derived.Test.YtnkealfaldjipaaGreatDoorProg
import Derived.Lib.ParseIntB
import Derived.Lib.Join
import Derived.Test.YtnkealfaldjipaaGreatDoorY2
set_option linter.unusedVariables false
set_option linter.unusedSimpArgs false
namespace Go.Proofs.YtnkealfaldjipaaGreatDoor
open Go.Ax Go.Ax.Bg Go.RowKit
attribute [local irreducible] Ax zBR QOp zY
set_option maxRecDepth 100000
set_option maxHeartbeats 4000000
theorem digit_ok (A U C V : List Int) (j s : Nat) (Hr : zN) (hj : A.length = j) (hs : 2 ≤ s) (hl : U.length = s + 1) (hlv : V.length = s) (hU : Lim U) (hV : Lim V) (htop : 2147483648 ≤ V.getD (s - 1) 0) (hlt : ze U < 4294967296 * ze V)
   (hsz : (A ++ (U ++ C)).length ≤ 1000000000) :
   zY Tryz.prog 207 [.sl 0 j (s + 1), zFs V] (some ⟨224, .ints .u32 (A ++ (U ++ C))⟩ :: Hr) (fun h => h < Hr.length + 1)
     (fun r H => r = .int .u32 (ze U / ze V : Nat) ∧ H = some ⟨224, .ints .u32 (A ++ (zB6 (s + 1) (ze U % ze V) ++ C))⟩ :: Hr) := by
 refine zK (P := Tryz.prog) (fn := Tryz.f207) Z Z (by kernel_rfl) Z (fun c hR hfix => ?_)
 have hsd := hlv
 obtain ⟨u0, h0, b0⟩ := hU.nat s
 obtain ⟨u1, h1, b1⟩ := hU.nat (s - 1)
 obtain ⟨u2, h2, b2⟩ := hU.nat (s - 2)
 obtain ⟨v1, k1, c1⟩ := hV.nat (s - 1)
 obtain ⟨v2, k2, c2⟩ := hV.nat (s - 2)
 have htop' : 2147483648 ≤ v1 := by omega
 have hest := fun g => est (g := g) hs hl hsd hU hV h0 h1 h2 k1 k2 htop' hlt
 have g0 := zGO (C := C) hj (show s < U.length by omega)
 have g1 := zGO (C := C) hj (show s - 1 < U.length by omega)
 have g2 := zGO (C := C) hj (show s - 2 < U.length by omega)
 rw [h0] at g0; rw [h1] at g1; rw [h2] at g2
 have hlen : (A ++ (U ++ C)).length = j + (s + 1) + C.length := by simp [hj, hl]; omega
 have hv0 : 0 < ze V := by
   have := zAH V (s - 1)
   rw [show s - 1 + 1 = V.length by omega, List.take_length, k1, Int.toNat_natCast] at this
   have h3 : B ^ (s - 1) * 1 ≤ B ^ (s - 1) * v1 := Nat.mul_le_mul_left _ (by omega)
   have := bpos (s - 1)
   omega
 unfold zFs
 rw [hsd]
 refine rn3 ?_
 refine zFv (by kernel_rfl) (by kernel_rfl) Z ?_
 repeat (first | refine zB (zE rfl) ?_ | refine zB (zAU rfl rfl rfl rfl rfl (by first | (simp only [Nat.zero_add, Int.toNat_natCast, Int.toNat_zero]; exact rfl) | exact rfl) (by omega)) ?_ | refine zB (zBz rfl rfl rfl rfl (by first | assumption | omega)) ?_)
 refine zH 20 (.int .u32 (u0 : Nat)) Z (AEq.of_eq (by rw [g0])) ?_
 refine zB (zAb (m := u0) Z Z Z zBT (by omega)) ?_
 refine zB (zJP (m := u0) (s := 32) Z Z (by decide) zBT (zH3 b0)) ?_
 repeat (first | refine zB (zE rfl) ?_ | refine zB (zBc rfl rfl (by omega)) ?_)
 refine zH 25 (.int .i64 (s - 1 : Nat)) Z (AEq.of_eq (by congr 1; omega)) ?_
 repeat (first | refine zB (zAU rfl rfl rfl rfl rfl (by first | (simp only [Nat.zero_add, Int.toNat_natCast, Int.toNat_zero]; exact rfl) | exact rfl) (by omega)) ?_ | refine zB (zBz rfl rfl rfl rfl (by first | assumption | omega)) ?_)
 refine zH 27 (.int .u32 (u1 : Nat)) Z (AEq.of_eq (by rw [g1])) ?_
 refine zB (zAb (m := u1) Z Z Z zBT (by omega)) ?_
 refine zB (QOp.res (zMu Z Z zBT Z (zH3 b0) (by omega)) (by rw [zNn b1])) ?_
 have htb : u0 * 4294967296 + u1 < 18446744073709551616 := by omega
 obtain ⟨top, htp⟩ : ∃ top, u0 * 4294967296 + u1 = top := ⟨_, rfl⟩
 rw [htp] at hest htb ⊢
 repeat (first | refine zB (zE rfl) ?_ | refine zB (zL rfl) ?_ | refine zD ?_ | refine zA ?_ | refine zR ?_ | refine zG rfl ?_ | refine zB (zBc rfl rfl (by omega)) ?_)
 refine zH 33 (.int .i64 (s - 1 : Nat)) Z (AEq.of_eq (by congr 1; omega)) ?_
 refine rn6 ?_
 refine zH 35 (.int .u32 (v1 : Nat)) Z (AEq.of_eq (by rw [k1])) ?_
 refine zB (zAb (m := v1) Z Z Z zBT (by omega)) ?_
 refine zB (q_uquo Z Z zBT htb (by omega)) ?_
 obtain ⟨gs, hgs, hg1, hg2⟩ : ∃ gs : Nat, (if ((4294967295 : Int) < ((top / v1 : Nat) : Int)) then (4294967295 : Int) else ((top / v1 : Nat) : Int)) = (gs : Int) ∧ gs ≤ 4294967295 ∧ (gs = 4294967295 ∨ gs = top / v1) ∧ gs ≤ top / v1 := by
   generalize top / v1 = z
   by_cases hz : (4294967295 : Int) < (z : Int)
   · exact ⟨4294967295, by rw [if_pos hz]; rfl, by omega, by omega, by omega⟩
   · exact ⟨z, by rw [if_neg hz], by omega, by omega, by omega⟩
 obtain ⟨hg2, hg3⟩ := hg2
 have hgm : gs * v1 ≤ top := Nat.le_trans (Nat.mul_le_mul_right _ hg3) (Nat.div_mul_le_self top v1)
 have hb0 := zK3 (a := gs) (b := v1) (c := 0) (by omega) c1 (by decide)
 refine zB (q_min Z Z) ?_
 refine zH 38 (.int .u64 (gs : Nat)) Z (AEq.of_eq (by rw [← hgs])) ?_
 repeat (first | refine zB (zE rfl) ?_ | refine zB (zL rfl) ?_ | refine zD ?_ | refine zA ?_ | refine zR ?_ | refine zG rfl ?_ | refine zB (zBc rfl rfl (by omega)) ?_)
 refine zH 43 (.int .i64 (s - 1 : Nat)) Z (AEq.of_eq (by congr 1; omega)) ?_
 refine rn6 ?_
 refine zH 45 (.int .u32 (v1 : Nat)) Z (AEq.of_eq (by rw [k1])) ?_
 refine zB (zAb (m := v1) Z Z Z zBT (by omega)) ?_
 refine zB (zIN Z Z zBT hb0.1) ?_
 refine zB (zNM Z Z zBT htb hgm) ?_
 refine rn1 ?_
 refine zt (ι := Nat × Nat) (fun p => [(0, .sl 0 j (s + 1)), (1, .ro (.ints .u32 V) 0 s), (5, .int .i64 (s : Nat)), (7, .int .u64 (p.1 : Nat)), (8, .int .u64 (p.2 : Nat))]) (fun _ => some ⟨224, .ints .u32 (A ++ (U ++ C))⟩ :: Hr)
   (fun p => p.1 ≤ 4294967295 ∧ p.2 + p.1 * v1 = top ∧ ∀ g', g' ≤ 4294967295 → g' * (v1 * 4294967296 + v2) ≤ top * 4294967296 + u2 → g' ≤ p.1) (fun p => p.1) (gs, top - gs * v1) ⟨⟨rfl, rfl, rfl, rfl, rfl, trivial⟩, rfl, hg1, by simp only; omega, fun g' q1 q2 => ?_⟩ ?_
 · have := guess_ge (by omega) b2 q2
   rcases hg2 with h | h
   · show g' ≤ gs; omega
   · show g' ≤ gs; rw [h]; exact this
 rintro ⟨g, r⟩ ⟨i1, i2, i3⟩
 simp only at *
 have htest := zNQ (B := 4294967296) (u2 := u2) (v2 := v2) i2 (by omega) c2
 have hbg := zK3 (a := g) (b := v2) (c := 0) (by omega) c2 (by decide)
 apply zAP (H := some ⟨224, .ints .u32 (A ++ (U ++ C))⟩ :: Hr) [(0, .sl 0 j (s + 1)), (1, .ro (.ints .u32 V) 0 s), (5, .int .i64 (s : Nat)), (7, .int .u64 (g : Nat)), (8, .int .u64 (r : Nat)), (70, .bool (decide (r < 4294967296 ∧ r * 4294967296 + u2 < g * v2)))]
 · intro fin
   repeat (refine zR ?_)
   refine zFv (by kernel_rfl) (by kernel_rfl) Z ?_
   repeat (first | refine zB (zE rfl) ?_ | refine zB (zCg rfl rfl) ?_)
   refine zAz Z Z (fun q0 => ?_) (fun q0 => ?_)
   · have q0' : r < 4294967296 := by omega
     repeat (first | refine zB (zE rfl) ?_ | refine zAL rfl rfl ?_ | refine zB (zBc rfl rfl (by omega)) ?_)
     refine zH 55 (.int .i64 (s - 2 : Nat)) Z (AEq.of_eq (by congr 1; omega)) ?_
     refine rn6 ?_
     refine zH 57 (.int .u32 (v2 : Nat)) Z (AEq.of_eq (by rw [k2])) ?_
     refine zB (zAb (m := v2) Z Z Z zBT (by omega)) ?_
     refine zAL Z Z ?_
     refine zB (zIN Z Z zBT hbg.1) ?_
     refine rn2 ?_
     refine zB (zJP (m := r) (s := 32) Z Z (by decide) zBT (zH3 q0')) ?_
     repeat (first | refine zB (zE rfl) ?_ | refine zAL rfl rfl ?_ | refine zB (zBc rfl rfl (by omega)) ?_)
     refine zH 64 (.int .i64 (s - 2 : Nat)) Z (AEq.of_eq (by congr 1; omega)) ?_
     repeat (first | refine zAL rfl rfl ?_ | refine zB (zAU rfl rfl rfl rfl rfl (by first | (simp only [Nat.zero_add, Int.toNat_natCast, Int.toNat_zero]; exact rfl) | exact rfl) (by omega)) ?_ | refine zB (zBz rfl rfl rfl rfl (by first | assumption | omega)) ?_)
     refine zH 66 (.int .u32 (u2 : Nat)) Z (AEq.of_eq (by rw [g2])) ?_
     refine zB (zAb (m := u2) Z Z Z zBT (by omega)) ?_
     refine zAL Z Z ?_
     refine zB (QOp.res (zMu Z Z zBT Z (zH3 q0') (by omega)) (by rw [zNn b2])) ?_
     repeat (first | refine zD ?_ | refine zA ?_ | refine zAL rfl rfl ?_ | refine zB (zIj rfl rfl) ?_ | refine zB (zAM rfl rfl) ?_)
     refine fin _ ⟨Z, Z, Z, Z, Z, ?_, trivial⟩
     show some (AV.bool (decide (((r * 4294967296 + u2 : Nat) : Int) < ((g * v2 : Nat) : Int)))) = _
     congr 2
     rw [decide_eq_decide]
     constructor
     · intro h; exact ⟨q0', by omega⟩
     · intro h; exact Int.ofNat_lt.2 h.2
   · repeat (first | refine zD ?_ | refine zA ?_ | refine zAv rfl rfl rfl ?_ | refine zB (zAM rfl rfl) ?_)
     refine fin _ ⟨Z, Z, Z, Z, Z, ?_, trivial⟩
     show some (AV.bool false) = _
     rw [decide_eq_false]
     intro h
     exact q0 (by omega)
 refine zF Z (fun q0 => ?_) (fun q0 => ?_)
 · have q1 := htest.1 q0
   have hg0 : 0 < g := by
     rcases Nat.eq_zero_or_pos g with z | z
     · subst z; rw [Nat.zero_mul] at q1; omega
     · exact z
   obtain ⟨g, rfl⟩ : ∃ m, g = m + 1 := ⟨g - 1, by omega⟩
   rw [Nat.add_mul, Nat.one_mul] at i2
   refine rn1 ?_
   refine zB (zNM (m := g + 1) (n := 1) Z Z zBT (by omega) (by omega)) ?_
   repeat (first | refine zB (zE rfl) ?_ | refine zB (zL rfl) ?_ | refine zD ?_ | refine zA ?_ | refine zG rfl ?_ | refine zc ?_ | refine zB (zBc rfl rfl (by omega)) ?_)
   refine zH 74 (.int .i64 (s - 1 : Nat)) Z (AEq.of_eq (by congr 1; omega)) ?_
   refine rn6 ?_
   refine zH 76 (.int .u32 (v1 : Nat)) Z (AEq.of_eq (by rw [k1])) ?_
   refine zB (zAb (m := v1) Z Z Z zBT (by omega)) ?_
   refine zB (zFA Z Z zBT (by omega)) ?_
   refine rn0 ?_
   refine zQ ⟨(g, r + v1), ⟨by simp only; omega, by simp only; omega, fun g' z1 z2 => ?_⟩, by simp only; omega, ⟨Z, Z, Z, Z, Z, trivial⟩, Z⟩
   have z3 := i3 g' z1 z2
   show g' ≤ g
   rcases Nat.lt_or_ge g g' with z | z
   · exfalso
     have : g' = g + 1 := by omega
     subst this
     omega
   · exact z
 · have q1 : g * (v1 * 4294967296 + v2) ≤ top * 4294967296 + u2 := by
     rcases Nat.lt_or_ge (top * 4294967296 + u2) (g * (v1 * 4294967296 + v2)) with z | z
     · exact absurd (htest.2 z) q0
     · exact z
   obtain ⟨e1, e2⟩ := hest g i1 q1 i3
   clear hest htest i3 q0
   have hmB : ze U % ze V < B ^ (s + 1) := Nat.lt_of_le_of_lt (Nat.mod_le _ _) (by have := zA2 hU; rwa [hl] at this)
   have hdone := fun (w b : Nat) (hw : w < B ^ (s + 1)) => zNk (u := ze U) (v := ze V) (g := g) (w := w) (n := s + 1) (b := b) hw (by have := zA2 hV; rw [hsd] at this; exact Nat.lt_of_lt_of_le this (Nat.pow_le_pow_right (by decide) (by omega))) (by have := zA2 hU; rwa [hl] at this)
   generalize ze U / ze V = q at *
   generalize hme : ze U % ze V = m at *
   refine rn5 ?_
   have hAl : ∀ W : List Int, W.length = s + 1 → ∀ i, i < s + 1 → i + j < (A ++ (W ++ C)).length := fun W hW i hi => by simp [hj, hW]; omega
   refine zt (ι := Nat × List Int × Nat × Nat) (fun p => [(0, .sl 0 j (s + 1)), (1, .ro (.ints .u32 V) 0 s), (5, .int .i64 (s : Nat)), (7, .int .u64 (g : Nat)), (9, .int .u64 (p.2.2.1 : Nat)), (10, .int .i64 (p.2.2.2 : Nat)), (82, .int .i64 (s + 1 : Nat)), (83, .int .i64 (p.1 : Nat))]) (fun p => some ⟨224, .ints .u32 (A ++ (p.2.1 ++ C))⟩ :: Hr)
     (fun p => p.1 ≤ s + 1 ∧ p.2.1.length = s + 1 ∧ Lim p.2.1 ∧ (∀ x, p.1 ≤ x → p.2.1.getD x 0 = U.getD x 0) ∧ p.2.2.1 < 4294967296 ∧ p.2.2.2 ≤ 1 ∧ (p.1 = s + 1 → p.2.2.1 = 0) ∧ ze (p.2.1.take p.1) + g * ze (V.take p.1) = ze (U.take p.1) + B ^ p.1 * (p.2.2.1 + p.2.2.2)) (fun p => s + 1 - p.1) (0, U, 0, 0)
     ⟨⟨rfl, rfl, rfl, rfl, rfl, rfl, rfl, rfl, trivial⟩, rfl, Nat.zero_le _, hl, hU, fun _ _ => rfl, Nat.zero_lt_succ _, Nat.zero_le _, fun _ => rfl, by simp [ze]⟩ ?_
   rintro ⟨i, Uc, cr, br⟩ ⟨w1, w2, w3, w4, w5, w6, w7, w8⟩
   simp only at *
   refine rn4 ?_
   refine zF Z (fun w9 => ?_) (fun w9 => ?_)
   · have his : i < s + 1 := by omega
     obtain ⟨ui, hui, hub⟩ := hU.nat i
     obtain ⟨vi, hvi, hvb⟩ := hV.nat i
     have hmb := zK3 (a := g) (b := vi) (c := cr) (by omega) hvb w5
     have hsl := hAl Uc w2 i his
     have hcur := zGO (C := C) hj (show i < Uc.length by omega)
     rw [w4 i (Nat.le_refl _), hui] at hcur
     have hlm : (cr + g * vi) % 4294967296 < 4294967296 := Nat.mod_lt _ (by decide)
     have hdb : (cr + g * vi) / 4294967296 < 4294967296 := by omega
     obtain ⟨yv, b', y1, y2, y3, y4, y5⟩ := zPQ hub hlm w6
     have hstep := zNO (g := g) (cr := cr) (yv := yv) (b' := b') (show i < Uc.length by omega) w8 hui hvi y1
     have hlast : i + 1 = s + 1 → (cr + g * vi) / 4294967296 = 0 := fun h => by
       have : V.getD i 0 = 0 := by simp [List.getD, List.getElem?_eq_none (show V.length ≤ i by omega)]
       have : vi = 0 := by omega
       subst this
       rw [Nat.mul_zero, Nat.add_zero]
       exact Nat.div_eq_of_lt w5
     refine rn4 ?_
     apply zAP (H := some ⟨224, .ints .u32 (A ++ (Uc ++ C))⟩ :: Hr) [(0, .sl 0 j (s + 1)), (1, .ro (.ints .u32 V) 0 s), (5, .int .i64 (s : Nat)), (7, .int .u64 (g : Nat)), (9, .int .u64 (cr + g * vi : Nat)), (10, .int .i64 (br : Nat)), (11, .int .i64 (i : Nat)), (82, .int .i64 (s + 1 : Nat)), (83, .int .i64 (i : Nat))]
     · intro fin
       refine zF Z (fun q0 => ?_) (fun q0 => ?_)
       · refine rn6 ?_
         refine zH 94 (.int .u32 (vi : Nat)) Z (AEq.of_eq (by rw [hvi])) ?_
         refine zB (zAb (m := vi) Z Z Z zBT (by omega)) ?_
         refine zB (zIN Z Z zBT hmb.1) ?_
         refine zB (zFA Z Z zBT hmb.2) ?_
         repeat (first | refine zB (zL rfl) ?_ | refine zD ?_ | refine zA ?_)
         exact fin _ ⟨Z, Z, Z, Z, Z, Z, Z, Z, Z, trivial⟩
       · have hv0 : vi = 0 := by
           have : V.getD i 0 = 0 := by simp [List.getD, List.getElem?_eq_none (show V.length ≤ i by omega)]
           omega
         subst hv0
         repeat (first | refine zA ?_ | refine zi ?_)
         exact fin _ ⟨Z, Z, Z, Z, Z, Z, Z, Z, Z, trivial⟩
     repeat (first | refine zB (zE rfl) ?_ | refine zR ?_ | refine zG rfl ?_ | refine zB (zAU rfl rfl rfl rfl rfl (by first | (simp only [Nat.zero_add, Int.toNat_natCast, Int.toNat_zero]; exact rfl) | exact rfl) (by omega)) ?_ | refine zB (zBz rfl rfl rfl rfl (by first | assumption | omega)) ?_)
     refine zH 101 (.int .u32 (ui : Nat)) Z (AEq.of_eq (by rw [hcur])) ?_
     refine zB (zEm (m := ui) Z Z Z (by omega)) ?_
     repeat (refine zB (zE rfl) ?_)
     refine zB (QOp.res (q_uand (n := 4294967295) Z Z zBT Z hmb.2 (by decide)) (by rw [and_low])) ?_
     obtain ⟨lo, hlo⟩ : ∃ lo, (cr + g * vi) % 4294967296 = lo := ⟨_, rfl⟩
     rw [hlo] at hlm y1 y4 y5 ⊢
     refine zB (zEm (m := lo) Z Z Z (by omega)) ?_
     repeat (first | refine zB (zE rfl) ?_ | refine zB (zL rfl) ?_ | refine zD ?_ | refine zA ?_ | refine zR ?_ | refine zG rfl ?_ | refine zB (zBc rfl rfl (by omega)) ?_)
     refine zB (zFl (s := 32) Z Z Z) ?_
     refine rn4 ?_
     apply zAP (H := some ⟨224, .ints .u32 (A ++ (Uc ++ C))⟩ :: Hr) [(0, .sl 0 j (s + 1)), (1, .ro (.ints .u32 V) 0 s), (5, .int .i64 (s : Nat)), (7, .int .u64 (g : Nat)), (9, .int .u64 ((cr + g * vi) / 4294967296 : Nat)), (10, .int .i64 (b' : Nat)), (11, .int .i64 (i : Nat)), (12, .int .i64 (yv : Nat)), (82, .int .i64 (s + 1 : Nat)), (83, .int .i64 (i : Nat))]
     · intro fin
       refine zF Z (fun q0 => ?_) (fun q0 => ?_)
       · obtain ⟨z1, z2⟩ := y4 q0
         subst z1
         skip
         refine zG Z ?_
         repeat (first | refine zB (zE rfl) ?_ | refine zB (zL rfl) ?_ | refine zD ?_ | refine zA ?_ | refine zB (zCA rfl rfl (by omega)) ?_)
         exact fin _ ⟨Z, Z, Z, Z, Z, Z, Z, by rw [z2]; rfl, Z, Z, trivial⟩
       · obtain ⟨z1, z2⟩ := y5 q0
         subst z1
         repeat (first | refine zA ?_ | refine zi ?_)
         exact fin _ ⟨Z, Z, Z, Z, Z, Z, Z, by rw [z2]; rfl, Z, Z, trivial⟩
     refine rn0 ?_
     refine zB (zAb (m := yv) Z Z Z zEk y3) ?_
     have hset := zNt (x := (yv : Int)) (C := C) hj (show i < Uc.length by omega)
     repeat (first | refine zB (zE rfl) ?_ | refine zD ?_ | refine zA ?_ | refine zG rfl ?_ | refine zc ?_ | refine zB (zCA rfl rfl (by omega)) ?_ | refine zB (zAU rfl rfl rfl rfl rfl (by first | (simp only [Nat.zero_add, Int.toNat_natCast, Int.toNat_zero]; exact rfl) | exact rfl) (by omega)) ?_ | refine zAi rfl rfl rfl rfl rfl rfl rfl (by first | assumption | (show _ < List.length _; first | assumption | omega)) ?_)
     refine zQ ⟨(i + 1, Uc.set i (yv : Int), (cr + g * vi) / 4294967296, b'), ⟨by simp only; omega, by simp [w2], w3.set (by omega), fun x hx => ?_, hdb, y2, hlast, hstep⟩, by simp only; omega, ⟨Z, Z, Z, Z, Z, Z, Z, Z, trivial⟩, ?_⟩
     · simp only at hx ⊢
       rw [zDi (by omega)]; exact w4 x (by omega)
     · show some (⟨_, .ints .u32 ((A ++ (Uc ++ C)).set (j + i) (yv : Int))⟩ : AObj) :: Hr = _
       rw [hset]
   · have hie : i = s + 1 := by omega
     subst hie
     have hcr := w7 rfl
     subst hcr
     rw [List.take_of_length_le (by omega), List.take_of_length_le (by omega), List.take_of_length_le (by omega), Nat.zero_add] at w8
     have hUcb := zA2 w3
     rw [w2] at hUcb
     obtain ⟨d0, d1⟩ := hdone (ze Uc) br hUcb w6 w8 e1 e2 hv0
     refine rn5 ?_
     refine zF Z (fun q0 => ?_) (fun q0 => ?_)
     · obtain ⟨z1, z2⟩ := d0 (by omega)
       subst z1
       have hfx := zGk w3 w2 z2
       refine rn0 ?_
       refine zB (zAb (m := g) Z Z Z zEk (by omega)) ?_
       refine rn2 ?_
       refine zO hR Z ⟨Z, ?_⟩
       rw [hfx]
     · obtain ⟨z1, z2⟩ := d1 (by omega)
       refine rn3 ?_
       refine zt (ι := Nat × List Int × Nat) (fun p => [(0, .sl 0 j (s + 1)), (1, .ro (.ints .u32 V) 0 s), (5, .int .i64 (s : Nat)), (7, .int .u64 (g : Nat)), (13, .int .u64 (p.2.2 : Nat)), (126, .int .i64 (s + 1 : Nat)), (127, .int .i64 (p.1 : Nat))]) (fun p => some ⟨224, .ints .u32 (A ++ (p.2.1 ++ C))⟩ :: Hr)
         (fun p => p.1 ≤ s + 1 ∧ p.2.1.length = s + 1 ∧ Lim p.2.1 ∧ (∀ x, p.1 ≤ x → p.2.1.getD x 0 = Uc.getD x 0) ∧ p.2.2 < 4294967296 ∧ ze (p.2.1.take p.1) + B ^ p.1 * p.2.2 = ze (Uc.take p.1) + ze (V.take p.1)) (fun p => s + 1 - p.1) (0, Uc, 0)
         ⟨⟨rfl, rfl, rfl, rfl, rfl, rfl, rfl, trivial⟩, rfl, Nat.zero_le _, w2, w3, fun _ _ => rfl, Nat.zero_lt_succ _, by simp [ze]⟩ ?_
       rintro ⟨i, Ud, sm⟩ ⟨x1, x2, x3, x4, x5, x6⟩
       simp only at *
       refine rn4 ?_
       refine zF Z (fun x9 => ?_) (fun x9 => ?_)
       · have his : i < s + 1 := by omega
         obtain ⟨ui, hui, hub⟩ := w3.nat i
         obtain ⟨vi, hvi, hvb⟩ := hV.nat i
         have hcur := zGO (C := C) hj (show i < Ud.length by omega)
         rw [x4 i (Nat.le_refl _), hui] at hcur
         have hsl := hAl Ud x2 i his
         have hstep := zPg (sm := sm) (show i < Ud.length by omega) x6 hui hvi
         repeat (first | refine zB (zE rfl) ?_ | refine zB (zL rfl) ?_ | refine zD ?_ | refine zA ?_ | refine zR ?_ | refine zG rfl ?_ | refine zb ?_ | refine zi ?_ | refine zB (zAU rfl rfl rfl rfl rfl (by first | (simp only [Nat.zero_add, Int.toNat_natCast, Int.toNat_zero]; exact rfl) | exact rfl) (by omega)) ?_ | refine zB (zBz rfl rfl rfl rfl (by first | assumption | omega)) ?_)
         refine zH 134 (.int .u32 (ui : Nat)) Z (AEq.of_eq (by rw [hcur])) ?_
         refine zB (zAb (m := ui) Z Z Z zBT (by omega)) ?_
         refine zB (zFA Z Z zBT (by omega)) ?_
         refine rn4 ?_
         apply zAP (H := some ⟨224, .ints .u32 (A ++ (Ud ++ C))⟩ :: Hr) [(0, .sl 0 j (s + 1)), (1, .ro (.ints .u32 V) 0 s), (5, .int .i64 (s : Nat)), (7, .int .u64 (g : Nat)), (13, .int .u64 (sm + ui + vi : Nat)), (14, .int .i64 (i : Nat)), (126, .int .i64 (s + 1 : Nat)), (127, .int .i64 (i : Nat))]
         · intro fin
           refine zF Z (fun q1 => ?_) (fun q1 => ?_)
           · refine rn6 ?_
             refine zH 144 (.int .u32 (vi : Nat)) Z (AEq.of_eq (by rw [hvi])) ?_
             refine zB (zAb (m := vi) Z Z Z zBT (by omega)) ?_
             refine zB (zFA Z Z zBT (by omega)) ?_
             repeat (first | refine zB (zL rfl) ?_ | refine zD ?_ | refine zA ?_)
             exact fin _ ⟨Z, Z, Z, Z, Z, Z, Z, Z, trivial⟩
           · have hv0 : vi = 0 := by
               have : V.getD i 0 = 0 := by simp [List.getD, List.getElem?_eq_none (show V.length ≤ i by omega)]
               omega
             subst hv0
             repeat (first | refine zA ?_ | refine zi ?_)
             exact fin _ ⟨Z, Z, Z, Z, Z, Z, Z, Z, trivial⟩
         refine rn0 ?_
         refine zB (zFm Z Z Z zEk) ?_
         have hset := zNt (x := (((sm + ui + vi) % 4294967296 : Nat) : Int)) (C := C) hj (show i < Ud.length by omega)
         repeat (first | refine zB (zE rfl) ?_ | refine zD ?_ | refine zA ?_ | refine zG rfl ?_ | refine zB (zAU rfl rfl rfl rfl rfl (by first | (simp only [Nat.zero_add, Int.toNat_natCast, Int.toNat_zero]; exact rfl) | exact rfl) (by omega)) ?_ | refine zAi rfl rfl rfl rfl rfl rfl rfl (by first | assumption | (show _ < List.length _; first | assumption | omega)) ?_)
         refine zB (zFl (s := 32) Z Z Z) ?_
         refine rn5 ?_
         refine zQ ⟨(i + 1, Ud.set i (((sm + ui + vi) % 4294967296 : Nat) : Int), (sm + ui + vi) / 4294967296), ⟨by simp only; omega, by simp [x2], x3.set (zDs _), fun x hx => ?_, by simp only; omega, hstep⟩, by simp only; omega, ⟨Z, Z, Z, Z, Z, Z, Z, trivial⟩, ?_⟩
         · simp only at hx ⊢
           rw [zDi (by omega)]; exact x4 x (by omega)
         · show some (⟨_, .ints .u32 ((A ++ (Ud ++ C)).set (j + i) (((sm + ui + vi) % 4294967296 : Nat) : Int))⟩ : AObj) :: Hr = _
           rw [hset]
       · have hie : i = s + 1 := by omega
         subst hie
         rw [List.take_of_length_le (by omega), List.take_of_length_le (by omega), List.take_of_length_le (by omega), z2] at x6
         have hUdb := zA2 x3
         rw [x2] at hUdb
         have hv : ze Ud = m := by
           rcases Nat.lt_trichotomy sm 1 with z | z | z
           · have : sm = 0 := by omega
             subst this
             omega
           · subst z; omega
           · have : B ^ (s + 1) * 2 ≤ B ^ (s + 1) * sm := Nat.mul_le_mul_left _ z
             omega
         have hfx := zGk x3 x2 hv
         refine rn5 ?_
         refine zB (zNM (m := g) (n := 1) Z Z zBT (by omega) (by omega)) ?_
         refine zB (zAb (m := g - 1) Z Z Z zEk (by omega)) ?_
         refine rn0 ?_
         refine zO hR Z ⟨?_, ?_⟩
         · rw [show g - 1 = q by omega]; rfl
         · rw [hfx]
end Go.Proofs.YtnkealfaldjipaaGreatDoor
namespace Go.Ax.Bg
theorem zFS : ∀ (a b v : Nat), zB6 (a + b) v = zB6 a v ++ zB6 b (v / B ^ a)
 | 0, b, v => by simp [zB6]
 | a + 1, b, v => by
   rw [show a + 1 + b = a + b + 1 by omega, zB6, zB6, zFS a b, List.cons_append, Nat.pow_succ, Nat.mul_comm (B ^ a), ← Nat.div_div_eq_div_mul]
theorem zFh : ∀ (k v : Nat), ze (zB6 k v) = v % B ^ k
 | 0, v => by simp [zB6, ze, Nat.mod_one]
 | k + 1, v => by
   rw [zB6, ze, Int.toNat_natCast, zFh k, Nat.pow_succ, Nat.mul_comm (B ^ k), Nat.mod_mul]
theorem zNE {k v w : Nat} (h : v % B ^ k = w % B ^ k) : zB6 k v = zB6 k w := by
 have h1 := zGk (zFN k v) (zB1 k v) (zFh k v)
 have h2 := zGk (zFN k w) (zB1 k w) (zFh k w)
 rw [h1, h2, h]
/-- The top limb. -/
theorem zGU {v s : Nat} (hs : 1 ≤ s) (h : (zX v).length = s) : ∃ t low : Nat, (zX v).getD (s - 1) 0 = (t : Int) ∧ t < 4294967296 ∧ 0 < t ∧ v = low + B ^ (s - 1) * t ∧ low < B ^ (s - 1) := by
 obtain ⟨t, ht, hb⟩ := (zAa v).nat (s - 1)
 refine ⟨t, ze ((zX v).take (s - 1)), ht, hb, ?_, ?_, ?_⟩
 · rcases zKn (n := v) with q | q
   · rw [q] at h; simp at h; omega
   · rw [h, ht] at q; omega
 · have := zAH (zX v) (s - 1)
   rw [show s - 1 + 1 = (zX v).length by omega, List.take_length, zAI, ht, Int.toNat_natCast] at this
   exact this
 · have := zA2 ((zAa v).take (s - 1))
   rwa [List.length_take, Nat.min_eq_left (by omega)] at this
theorem bexp {s : Nat} (hs : 1 ≤ s) : B ^ s = B ^ (s - 1) * 4294967296 := by
 rw [show s = s - 1 + 1 by omega, Nat.pow_succ]; rfl
/-- The divisor, shifted to the top. -/
theorem norm_top {m k s t : Nat} (hs : 1 ≤ s) (h : (zX m).length = s) (ht : (zX m).getD (s - 1) 0 = (t : Int)) (h1 : 2147483648 ≤ t * 2 ^ k) (h2 : t * 2 ^ k < 4294967296) (hk : k ≤ 31) :
   (zX (m * 2 ^ k)).length = s ∧ 2147483648 ≤ (zX (m * 2 ^ k)).getD (s - 1) 0 := by
 obtain ⟨t', low, e, hb, hp, hv, hlow⟩ := zGU hs h
 have : t' = t := by omega
 subst this
 have hP := bpos (s - 1)
 have hpk : 0 < 2 ^ k := Nat.pow_pos (by decide)
 have hd : ∃ q, 4294967296 = q * 2 ^ k := ⟨2 ^ (32 - k), by rw [← Nat.pow_add, show 32 - k + k = 32 by omega]⟩
 obtain ⟨q, hq⟩ := hd
 have h3 : t' + 1 ≤ q := by
   have : t' * 2 ^ k < q * 2 ^ k := by omega
   exact Nat.lt_of_mul_lt_mul_right this
 have h4 : (t' + 1) * 2 ^ k ≤ 4294967296 := by rw [hq]; exact Nat.mul_le_mul_right _ h3
 have hup : m * 2 ^ k < B ^ s := by
   rw [bexp hs]
   have h5 : m < B ^ (s - 1) * (t' + 1) := by rw [Nat.mul_add]; omega
   have h6 : m * 2 ^ k < B ^ (s - 1) * (t' + 1) * 2 ^ k := Nat.mul_lt_mul_of_pos_right h5 hpk
   have h7 : B ^ (s - 1) * ((t' + 1) * 2 ^ k) ≤ B ^ (s - 1) * 4294967296 := Nat.mul_le_mul_left _ h4
   rw [Nat.mul_assoc] at h6
   omega
 have hlo : B ^ (s - 1) * 2147483648 ≤ m * 2 ^ k := by
   have h5 : B ^ (s - 1) * (t' * 2 ^ k) ≤ m * 2 ^ k := by
     rw [← Nat.mul_assoc]; exact Nat.mul_le_mul_right _ (by omega)
   exact Nat.le_trans (Nat.mul_le_mul_left _ h1) h5
 have hlen : (zX (m * 2 ^ k)).length = s := by
   have a := zAs hup
   have b : B ^ (s - 1) ≤ m * 2 ^ k := by
     have : B ^ (s - 1) * 1 ≤ B ^ (s - 1) * 2147483648 := Nat.mul_le_mul_left _ (by decide)
     omega
   have c := zMn b
   omega
 refine ⟨hlen, ?_⟩
 obtain ⟨t2, low2, e2, _, _, hv2, hlow2⟩ := zGU hs hlen
 rw [e2]
 rcases Nat.lt_or_ge t2 2147483648 with z | z
 · exfalso
   have : B ^ (s - 1) * (t2 + 1) ≤ B ^ (s - 1) * 2147483648 := Nat.mul_le_mul_left _ (by omega)
   rw [Nat.mul_add] at this
   omega
 · omega
theorem k_more {t k : Nat} (ht : 0 < t) (h : t * 2 ^ k < 4294967296) (hk : k ≤ 31) (h0 : t * 2 ^ k / 2 ^ 31 = 0) : t * 2 ^ (k + 1) < 4294967296 ∧ k + 1 ≤ 31 := by
 have h1 : t * 2 ^ k < 2147483648 := by
   rcases Nat.lt_or_ge (t * 2 ^ k) 2147483648 with q | q
   · exact q
   · have := Nat.div_le_div_right (c := 2 ^ 31) q
     rw [h0] at this
     exact absurd this (by decide)
 refine ⟨by rw [Nat.pow_succ, ← Nat.mul_assoc]; omega, ?_⟩
 rcases Nat.lt_or_ge k 31 with q | q
 · exact q
 · exfalso
   have : k = 31 := by omega
   subst this
   have : 1 * 2 ^ 31 ≤ t * 2 ^ 31 := Nat.mul_le_mul_right _ ht
   have e : (2 : Nat) ^ 31 = 2147483648 := by decide
   rw [e] at this h1
   omega
theorem k_stop {t k : Nat} (h0 : ¬ t * 2 ^ k / 2 ^ 31 = 0) : 2147483648 ≤ t * 2 ^ k := by
 rcases Nat.lt_or_ge (t * 2 ^ k) 2147483648 with q | q
 · exact absurd (Nat.div_eq_of_lt (by have e : (2 : Nat) ^ 31 = 2147483648 := by decide
                                      rw [e]; exact q)) h0
 · exact q
/-- Where the quotient's digits begin. -/
theorem zPk {n ln v s k : Nat} (hn : n < B ^ ln) (hk : k ≤ 31) (hs : 1 ≤ s) (hsl : s ≤ ln) (hv : B ^ (s - 1) * 2147483648 ≤ v) : n * 2 ^ k < v * B ^ (ln + 1 - s) := by
 have hp : 2 ^ k ≤ 2147483648 := Nat.le_trans (Nat.pow_le_pow_right (show 0 < 2 by decide) hk) (by decide)
 have h1 : n * 2 ^ k ≤ n * 2147483648 := Nat.mul_le_mul_left _ hp
 have h2 : B ^ (s - 1) * 2147483648 * B ^ (ln + 1 - s) ≤ v * B ^ (ln + 1 - s) := Nat.mul_le_mul_right _ hv
 have h3 : B ^ (s - 1) * 2147483648 * B ^ (ln + 1 - s) = B ^ ln * 2147483648 := by
   have e : B ^ ln = B ^ (s - 1) * B ^ (ln + 1 - s) := by rw [← Nat.pow_add]; congr 1; omega
   rw [e]; ac_rfl
 omega
theorem top_ge {v s : Nat} (hs : 1 ≤ s) (hl : (zX v).length = s) (h : 2147483648 ≤ (zX v).getD (s - 1) 0) : B ^ (s - 1) * 2147483648 ≤ v := by
 obtain ⟨t, low, e, _, _, hv, _⟩ := zGU hs hl
 have : B ^ (s - 1) * 2147483648 ≤ B ^ (s - 1) * t := Nat.mul_le_mul_left _ (by omega)
 omega
/-- One zBk: the rest. -/
theorem quo_step {W v s j N : Nat} (hv0 : 0 < v) (hv : v < B ^ s) (hW : W < v * B ^ (j + 1)) (hN : j + (s + 1) ≤ N) :
   zB6 N W = zB6 j W ++ (zB6 (s + 1) (W / B ^ j) ++ zB6 (N - (j + (s + 1))) (W / B ^ j / B ^ (s + 1))) ∧ ze (zB6 (s + 1) (W / B ^ j)) = W / B ^ j ∧ W / B ^ j < 4294967296 * v ∧
     ∃ W', zB6 j W ++ (zB6 (s + 1) (W / B ^ j % v) ++ zB6 (N - (j + (s + 1))) (W / B ^ j / B ^ (s + 1))) = zB6 N W' ∧ W' < v * B ^ j ∧ W' + B ^ j * (v * (W / B ^ j / v)) = W := by
 have hP := bpos j
 have h1 : W / B ^ j < 4294967296 * v := by
   refine Nat.div_lt_of_lt_mul ?_
   have : v * B ^ (j + 1) = B ^ j * (4294967296 * v) := by rw [Nat.pow_succ]; unfold B; ac_rfl
   rw [← this]; exact hW
 have h2 : W / B ^ j < B ^ (s + 1) := by
   have : 4294967296 * v ≤ 4294967296 * B ^ s := Nat.mul_le_mul_left _ (by omega)
   rw [Nat.pow_succ, Nat.mul_comm (B ^ s)]
   exact Nat.lt_of_lt_of_le h1 this
 have h3 : W / B ^ j / B ^ (s + 1) = 0 := Nat.div_eq_of_lt h2
 have hr : W / B ^ j % v < v := Nat.mod_lt _ hv0
 have hvs : v < B ^ (s + 1) := Nat.lt_of_lt_of_le hv (Nat.pow_le_pow_right (by decide) (by omega))
 refine ⟨?_, zHw _ _ h2, h1, W % B ^ j + B ^ j * (W / B ^ j % v), ?_, ?_, ?_⟩
 · rw [← zFS, ← zFS]
   congr 1; omega
 · have e1 : (W % B ^ j + B ^ j * (W / B ^ j % v)) / B ^ j = W / B ^ j % v := by
     rw [Nat.add_mul_div_left _ _ hP, Nat.div_eq_of_lt (Nat.mod_lt _ hP), Nat.zero_add]
   have e2 : (W % B ^ j + B ^ j * (W / B ^ j % v)) % B ^ j = W % B ^ j := by
     rw [Nat.add_mul_mod_self_left, Nat.mod_mod]
   rw [show N = j + ((s + 1) + (N - (j + (s + 1)))) by omega, zFS j, zFS (s + 1), e1, h3, zNE e2.symm]
   rw [show j + (s + 1 + (N - (j + (s + 1)))) - (j + (s + 1)) = N - (j + (s + 1)) by omega, Nat.div_eq_of_lt (Nat.lt_trans hr hvs)]
 · have h5 : B ^ j * (W / B ^ j % v + 1) ≤ B ^ j * v := Nat.mul_le_mul_left _ hr
   have h6 := Nat.mod_lt W hP
   rw [Nat.mul_add] at h5
   rw [Nat.mul_comm v]
   omega
 · have a := Nat.div_add_mod W (B ^ j)
   have b := Nat.div_add_mod (W / B ^ j) v
   have c : B ^ j * (v * (W / B ^ j / v)) + B ^ j * (W / B ^ j % v) = B ^ j * (W / B ^ j) := by rw [← Nat.mul_add, b]
   omega
theorem quo_end {n m k W Q : Nat} (hm : 0 < m) (h : Q * (m * 2 ^ k) + W = n * 2 ^ k) (hW : W < m * 2 ^ k) : Q = n / m ∧ W = n % m * 2 ^ k := by
 have hk : 0 < 2 ^ k := Nat.pow_pos (by decide)
 have h0 : 0 < m * 2 ^ k := Nat.mul_pos hm hk
 have e1 : n * 2 ^ k / (m * 2 ^ k) = n / m := Nat.mul_div_mul_right _ _ hk
 have e2 : n * 2 ^ k % (m * 2 ^ k) = n % m * 2 ^ k := Nat.mul_mod_mul_right ..
 rw [← h] at e1 e2
 rw [Nat.add_comm, Nat.add_mul_div_right _ _ h0, Nat.div_eq_of_lt hW, Nat.zero_add] at e1
 rw [Nat.add_comm, Nat.add_mul_mod_self_right, Nat.mod_eq_of_lt hW] at e2
 exact ⟨e1, e2⟩
/-- A limb shifted back by k bits. -/
theorem zPU {d e k : Nat} (hd : d < 4294967296) (hk : k ≤ 31) : d / 2 ^ k ||| e * 2 ^ (32 - k) % 4294967296 = d / 2 ^ k + e % 2 ^ k * 2 ^ (32 - k) := by
 have hp : 0 < 2 ^ (32 - k) := Nat.pow_pos (by decide)
 have e1 : (4294967296 : Nat) = 2 ^ k * 2 ^ (32 - k) := by rw [← Nat.pow_add, show k + (32 - k) = 32 by omega]
 have e2 : e * 2 ^ (32 - k) % 4294967296 = e % 2 ^ k * 2 ^ (32 - k) := by
   rw [e1]; exact Nat.mul_mod_mul_right ..
 have h1 : d / 2 ^ k < 2 ^ (32 - k) := by
   refine Nat.div_lt_of_lt_mul ?_
   rw [← e1]; exact hd
 rw [e2]
 have := Nat.two_pow_add_eq_or_of_lt h1 (e % 2 ^ k)
 rw [Nat.or_comm, Nat.mul_comm (e % 2 ^ k), ← this, Nat.add_comm]
theorem back_lim {d e k : Nat} (hd : d < 4294967296) (hk : k ≤ 31) : d / 2 ^ k + e % 2 ^ k * 2 ^ (32 - k) < 4294967296 := by
 have e1 : (4294967296 : Nat) = 2 ^ k * 2 ^ (32 - k) := by rw [← Nat.pow_add, show k + (32 - k) = 32 by omega]
 have h1 : d / 2 ^ k < 2 ^ (32 - k) := by
   refine Nat.div_lt_of_lt_mul ?_
   rw [← e1]; exact hd
 have h2 : (e % 2 ^ k + 1) * 2 ^ (32 - k) ≤ 2 ^ k * 2 ^ (32 - k) := Nat.mul_le_mul_right _ (Nat.mod_lt _ (Nat.pow_pos (by decide)))
 rw [Nat.add_mul, ← e1] at h2
 omega
theorem back_val {out r : List Int} {i k d e : Nat} (hk : k ≤ 31) (hl : out.length = i) (hd : r.getD i 0 = (d : Int)) {d0 : Nat} (h : ze out * 2 ^ k + d0 = ze (r.take i) + (d % 2 ^ k) * B ^ i) :
   ze (out ++ [((d / 2 ^ k + e % 2 ^ k * 2 ^ (32 - k) : Nat) : Int)]) * 2 ^ k + d0 = ze (r.take (i + 1)) + (e % 2 ^ k) * B ^ (i + 1) := by
 rw [zDo, hl, Int.toNat_natCast, zAH, hd, Int.toNat_natCast, Nat.pow_succ]
 have e1 : (4294967296 : Nat) = 2 ^ (32 - k) * 2 ^ k := by rw [← Nat.pow_add, show 32 - k + k = 32 by omega]
 have e2 := Nat.div_add_mod d (2 ^ k)
 have e3 : B ^ i * (d / 2 ^ k + e % 2 ^ k * 2 ^ (32 - k)) * 2 ^ k = B ^ i * (2 ^ k * (d / 2 ^ k)) + e % 2 ^ k * (B ^ i * B) := by
   rw [show B = 2 ^ (32 - k) * 2 ^ k from e1]
   generalize (2 ^ (32 - k) * 2 ^ k) ^ i = p
   rw [Nat.mul_add, Nat.add_mul]
   congr 1 <;> ac_rfl
 have e4 : B ^ i * (2 ^ k * (d / 2 ^ k)) + (d % 2 ^ k) * B ^ i = B ^ i * d := by
   rw [Nat.mul_comm (d % 2 ^ k), ← Nat.mul_add, e2]
 rw [Nat.add_mul, e3]
 omega
end Go.Ax.Bg
namespace Go.Proofs.YtnkealfaldjipaaGreatDoor
open Go.Ax Go.Ax.Bg Go.RowKit
attribute [local irreducible] Ax zBR QOp zY
set_option maxRecDepth 100000
set_option maxHeartbeats 4000000
theorem clone_ok (n : Nat) (h : (zX n).length ≤ 1000000) : zZ Tryz.prog 204 [zj n] (zj n) := by
 unfold zj
 generalize zX n = l at *
 refine zY.value (K := fun r H => r = .sl 0 0 l.length ∧ H = [some ⟨224, .ints .u32 l⟩]) (zK (P := Tryz.prog) (fn := Tryz.f204) Z Z (by kernel_rfl) Z (fun c hR hfix => ?_)) (fix := fun _ => False) (fun _ h => h) Z ?_
 · refine rn0 ?_
   refine zMg Z Z Z (fun b hb => ?_)
   refine rn0 ?_
   refine zFw Z (fun h => ?_) (fun h => ?_)
   · have := hb h
     have hn : l = [] := List.length_eq_zero_iff.mp this
     subst hn
     repeat (first | refine zB (zL rfl) ?_ | refine zD ?_ | refine zA ?_ | refine zR ?_ | refine zG rfl ?_)
     refine zBH 2 ⟨224, .ints .u32 []⟩ Z Z ?_
     refine rn2 ?_
     exact zO hR Z ⟨Z, Z⟩
   · refine rn1 ?_
     refine zC3 Z Z Z Z Z Z Z Z Z Z ?_
     refine zAw [some ⟨224, .ints .u32 []⟩] (zn.eqv ⟨Z, Z, fun i j hi => absurd hi (Nat.not_lt_zero _)⟩ zn.nil) ?_
     repeat (refine zB (zE rfl) ?_)
     refine zAS Z Z Z Z Z Z Z Z Z Z Z Z (by show 0 + l.length ≤ l.length; omega) Z (by show (0 + l.length) * 4 ≤ _ ∧ _; omega) (fun i j _ _ => rfl) (by rw [hfix]; exact fun h => h) ?_
     refine rn0 ?_
     refine zO hR Z ⟨?_, ?_⟩
     · show AV.sl 0 0 (0 + l.length) = _; rw [Nat.zero_add]
     · show ([some ⟨224, .ints .u32 ([] ++ List.take l.length (List.drop 0 l))⟩] : zN) = _
       simp
 · rintro r H ⟨rfl, rfl⟩
   exact ⟨rfl, fun o ho => by simp at ho; subst ho; exact Nat.le_of_eq (by simp [Cells.len]), zIc zBB⟩
theorem div_less (n m : Nat) (h : n < m) (hn : (zX n).length ≤ 1000000) (hm : (zX m).length ≤ 1000000) : zZ Tryz.prog 158 [zj n, zj m] (.tup [.nil, zj n]) := by
 have hc := zKw n m (by omega) (by omega)
 rw [zHT (Int.ofNat_lt.2 h)] at hc
 have hcl := clone_ok n hn
 refine zY.value0 (zK (P := Tryz.prog) (fn := Tryz.f158) Z Z (by kernel_rfl) Z (fun c hR hfix => ?_)) (fix := fun _ => False) (fun _ h => h) Z Z
 refine rn0 ?_
 refine zJ Z Z Z hc ?_
 refine rn5 ?_
 refine zJ Z Z Z hcl ?_
 refine rn2 ?_
 exact zO hR Z Z
theorem zOI {n m : Nat} (h : m ≤ n) : ¬ zD3 n m < 0 := by
 rcases Nat.lt_or_ge m n with q | q
 · rw [zHk (Int.ofNat_lt.2 q)]; decide
 · rw [zNw (by omega)]; decide
theorem div_one (n m : Nat) (h : m ≤ n) (hn : (zX n).length ≤ 1000000) (hm : (zX m).length = 1) : zZ Tryz.prog 158 [zj n, zj m] (.tup [zj (n / m), zj (n % m)]) := by
 have hc := zKw n m (by omega) (by omega)
 have hcn := zOI h
 obtain ⟨t, low, ht, htb, htp, hv, hlow⟩ := zGU (Nat.le_refl 1) hm
 have hmt : m = t := by
   simp at hv hlow
   subst hlow
   rw [hv]; simp
 subst hmt
 have hds := zIg (zX n) m (zAa n) (by omega) ⟨htp, htb⟩
 rw [zAI] at hds
 have hr : n % m < 4294967296 := Nat.lt_trans (Nat.mod_lt _ htp) htb
 have hsm := zGS (n % m) (by omega)
 refine zY.value0 (zK (P := Tryz.prog) (fn := Tryz.f158) Z Z (by kernel_rfl) Z (fun c hR hfix => ?_)) (fix := fun _ => False) (fun _ h => h) Z Z
 refine rn0 ?_
 refine zJ Z Z Z hc ?_
 refine rn4 ?_
 refine zF Z (fun q => absurd q hcn) (fun q => ?_)
 unfold zj
 refine rn4 ?_
 rw [hm]
 refine rn6 ?_
 refine zH 31 (.int .u32 (m : Nat)) Z (AEq.of_eq (by congr 1)) ?_
 refine zJ Z Z Z hds ?_
 refine rn2 ?_
 refine zB (zAb (m := n % m) Z Z Z zBT (by omega)) ?_
 refine zJ Z Z Z hsm ?_
 refine rn2 ?_
 exact zO hR Z Z
theorem div_many (n m : Nat) (h : m ≤ n) (hn : (zX n).length ≤ 1000000) (hm2 : 2 ≤ (zX m).length) : zZ Tryz.prog 158 [zj n, zj m] (.tup [zj (n / m), zj (n % m)]) := by
 have hlm : (zX m).length ≤ (zX n).length := zAs (by have := zA2 (zAa n); rw [zAI] at this; omega)
 have hc := zKw n m (by omega) (by omega)
 have hcn := zOI h
 have hm0 : 0 < m := by
   rcases Nat.eq_zero_or_pos m with q | q
   · subst q; rw [zBv] at hm2; simp at hm2
   · exact q
 have hnB : n < B ^ (zX n).length := by have := zA2 (zAa n); rwa [zAI] at this
 obtain ⟨s, hs⟩ : ∃ s, (zX m).length = s := ⟨_, rfl⟩
 obtain ⟨ln, hln⟩ : ∃ ln, (zX n).length = ln := ⟨_, rfl⟩
 rw [hs] at hm2 hlm
 rw [hln] at hn hnB hlm
 obtain ⟨t, low, ht, htb, htp, hv, hlow⟩ := zGU (show 1 ≤ s by omega) hs
 refine zY.value0 (zK (P := Tryz.prog) (fn := Tryz.f158) Z Z (by kernel_rfl) Z (fun c hR hfix => ?_)) (fix := fun _ => False) (fun _ h => h) Z Z
 refine rn0 ?_
 refine zJ Z Z Z hc ?_
 refine rn4 ?_
 refine zF Z (fun q => absurd q hcn) (fun q => ?_)
 have en : zj n = .ro (.ints .u32 (zX n)) 0 ln := by unfold zj; rw [hln]
 have em : zj m = .ro (.ints .u32 (zX m)) 0 s := by unfold zj; rw [hs]
 rw [en, em]
 refine rn4 ?_
 refine zF Z (fun q => absurd q (by omega)) (fun q => ?_)
 refine rn1 ?_
 refine zt (ι := Nat) (fun k => [(0, .ro (.ints .u32 (zX n)) 0 ln), (1, .ro (.ints .u32 (zX m)) 0 s), (8, .int .i64 (k : Nat))]) (fun _ => []) (fun k => k ≤ 31 ∧ t * 2 ^ k < 4294967296) (fun k => 32 - k) 0 ⟨⟨Z, Z, Z, trivial⟩, Z, by omega, by rw [Nat.pow_zero, Nat.mul_one]; exact htb⟩ ?_
 rintro k ⟨hk1, hk2⟩
 repeat (first | refine zB (zE rfl) ?_ | refine zR ?_ | refine zG rfl ?_ | refine zB (zAR rfl rfl rfl) ?_ | refine zB (zBc rfl rfl (by omega)) ?_)
 refine zH 42 (.int .i64 (s - 1 : Nat)) Z (AEq.of_eq (by congr 1; omega)) ?_
 refine rn6 ?_
 refine zH 44 (.int .u32 (t : Nat)) Z (AEq.of_eq (by rw [ht])) ?_
 skip
 refine zB (zJP (m := t) (s := k) Z Z (by show k ≤ 32; omega) zEk hk2) ?_
 refine zB (zFl (s := 31) Z Z Z) ?_
 refine rn4 ?_
 refine zF Z (fun q1 => ?_) (fun q1 => ?_)
 · have hmore := k_more htp hk2 hk1 (by omega)
   refine rn5 ?_
   exact zQ ⟨k + 1, ⟨hmore.2, hmore.1⟩, by omega, ⟨Z, Z, Z, trivial⟩, Z⟩
 have hstop := k_stop (t := t) (k := k) (by omega)
 obtain ⟨hnl, hnt⟩ := norm_top (show 1 ≤ s by omega) hs ht hstop hk2 hk1
 have hsn := zMp (zX n) k (zAa n) (by omega) (by omega)
 have hsm := zMp (zX m) k (zAa m) (by omega) (by omega)
 rw [zAI, hln] at hsn
 rw [zAI, hs] at hsm
 have hvB : m * 2 ^ k < B ^ s := by have := zA2 (zAa (m * 2 ^ k)); rwa [zAI, hnl] at this
 have hvB1 : m * 2 ^ k < B ^ (s + 1) := Nat.lt_of_lt_of_le hvB (Nat.pow_le_pow_right (by decide) (by omega))
 have hnorm := zDt (zB6 (s + 1) (m * 2 ^ k)) (zFN _ _) (by rw [zB1]; omega)
 rw [zHw _ _ hvB1] at hnorm
 have hstart := zPk hnB hk1 (show 1 ≤ s by omega) hlm (top_ge (show 1 ≤ s by omega) hnl hnt)
 have hv0 : 0 < m * 2 ^ k := Nat.mul_pos hm0 (Nat.pow_pos (by decide))
 have ev : zj (m * 2 ^ k) = .ro (.ints .u32 (zX (m * 2 ^ k))) 0 s := by unfold zj; rw [hnl]
 have hdig := fun (A U C : List Int) (j : Nat) (Hr : zN) (hj : A.length = j) (hl : U.length = s + 1) (hU : Lim U) => digit_ok A U C (zX (m * 2 ^ k)) j s Hr hj hm2 hl hnl hU (zAa _) hnt
 rw [zAI] at hdig
 have hend := fun Q W => quo_end (n := n) (m := m) (k := k) (W := W) (Q := Q) hm0
 obtain ⟨v, hve⟩ : ∃ v, m * 2 ^ k = v := ⟨_, rfl⟩
 rw [hve] at hsm hvB hvB1 hnorm hstart hv0 ev hdig hend hnl
 refine rn5 ?_
 have c1 : [AV.ro (.ints .u32 (zX n)) 0 ln, .int .i64 (k : Nat)] ++ [] = [zFs (zX n), .int .i64 (k : Nat)] := by unfold zFs; rw [hln]; rfl
 have c2 : [AV.ro (.ints .u32 (zX m)) 0 s, .int .i64 (k : Nat)] ++ [] = [zFs (zX m), .int .i64 (k : Nat)] := by unfold zFs; rw [hs]; rfl
 refine zEe Z Z c1 hsn ?_
 repeat (refine zB (zE rfl) ?_)
 refine zEe Z Z c2 hsm ?_
 refine zDa 1 56 (s + 1) [(0, .ro (.ints .u32 (zX n)) 0 ln), (8, .int .i64 (k : Nat)), (53, .sl 0 0 (ln + 1))] Z zBB Z (by show _ ≤ (zB6 _ _).length; rw [zB1]; omega) ⟨Z, Z, Z, trivial⟩ ?_
 refine zJ Z Z (zDT (zB1 _ _)) hnorm ?_
 rw [ev]
 repeat (first | refine zB (zE rfl) ?_ | refine zB (zL rfl) ?_ | refine zD ?_ | refine zA ?_ | refine zR ?_ | refine zG rfl ?_ | refine zB (zAR rfl rfl rfl) ?_ | refine zB (zBc rfl rfl (by omega)) ?_)
 refine zCr Z Z Z Z Z Z Z Z (by show (0 : Int) ≤ _ ∧ _ ≤ _ ∧ (4 : Int) * _ ≤ _ ∧ _; omega) ?_
 obtain ⟨J, hJ⟩ : ∃ J, J + s = ln + 1 := ⟨ln + 1 - s, by omega⟩
 rw [show (((ln + 1 : Nat) : Int) - (s : Nat)).toNat = J by omega]
 rw [show ln + 1 - s = J by omega] at hstart
 repeat (first | refine zB (zE rfl) ?_ | refine zB (zL rfl) ?_ | refine zD ?_ | refine zA ?_ | refine zR ?_ | refine zG rfl ?_ | refine zb ?_ | refine zB (zAR rfl rfl rfl) ?_ | refine zB (zBc rfl rfl (by omega)) ?_)
 refine zt (ι := Nat × Nat × List Int) (fun p => [(8, .int .i64 (k : Nat)), (9, .sl 0 0 (ln + 1)), (10, .ro (.ints .u32 (zX v)) 0 s), (11, .int .i64 (s : Nat)), (12, .sl 2 0 J), (13, .int .i64 ((p.1 : Int) - 1))]) (fun p => [some ⟨224, .ints .u32 (zB6 (ln + 1) p.2.1)⟩, none, some ⟨224, .ints .u32 p.2.2⟩])
   (fun p => p.1 ≤ J ∧ p.2.1 < v * B ^ p.1 ∧ p.2.2.length = J ∧ Lim p.2.2 ∧ (∀ x, x < p.1 → p.2.2.getD x 0 = 0) ∧ ze p.2.2 * v + p.2.1 = n * 2 ^ k) (fun p => p.1) (J, n * 2 ^ k, List.replicate J 0)
   ⟨⟨rfl, rfl, rfl, rfl, rfl, ?_, trivial⟩, rfl, Nat.le_refl _, hstart, by simp, Lim.zeros _, fun x _ => zLd _ _, by simp [zHH]⟩ ?_
 · show some (AV.int .i64 _) = _
   congr 2
   omega
 rintro ⟨j1, W, Q⟩ ⟨w1, w2, w3, w4, w5, w6⟩
 simp only at *
 repeat (first | refine zB (zE rfl) ?_ | refine zD ?_ | refine zA ?_ | refine zR ?_ | refine zG rfl ?_ | refine zB (zDY rfl rfl) ?_)
 refine zF Z (fun q2 => ?_) (fun q2 => ?_)
 · obtain ⟨j, rfl⟩ : ∃ j, j1 = j + 1 := ⟨j1 - 1, by omega⟩
   obtain ⟨p1, p2, p3, W', p4, p5, p6⟩ := quo_step (N := ln + 1) hv0 hvB w2 (show j + (s + 1) ≤ ln + 1 by omega)
   have hd := hdig (zB6 j W) (zB6 (s + 1) (W / B ^ j)) (zB6 (ln + 1 - (j + (s + 1))) (W / B ^ j / B ^ (s + 1))) j [none, some ⟨224, .ints .u32 Q⟩] (zB1 _ _) (zB1 _ _) (zFN _ _) (by rw [p2]; exact p3) (by rw [← p1, zB1]; omega)
   rw [p2, p4, ← p1] at hd
   have hq : W / B ^ j / v < 4294967296 := Nat.div_lt_of_lt_mul (by rw [Nat.mul_comm]; exact p3)
   obtain ⟨dg, hdg⟩ : ∃ dg, W / B ^ j / v = dg := ⟨_, rfl⟩
   rw [hdg] at hd hq p6
   repeat (first | refine zB (zE rfl) ?_ | refine zA ?_ | refine zR ?_ | refine zG rfl ?_ | refine zb ?_ | refine zi ?_ | refine zB (zCA rfl rfl (by omega)) ?_ | refine zB (zNc rfl rfl rfl rfl rfl rfl rfl rfl (by omega)) ?_)
   refine zH 82 (.sl 0 j (s + 1)) Z (AEq.of_eq (by congr 1 <;> omega)) ?_
   skip
   have c3 : [AV.sl 0 j (s + 1), .ro (.ints .u32 (zX v)) 0 s] ++ [] = [.sl 0 j (s + 1), zFs (zX v)] := by unfold zFs; rw [hnl]; rfl
   refine zCV Z Z c3 hd (fun h hh => hh) (fun h hh => hh) ?_
   rintro r H ⟨rfl, rfl⟩
   refine zH 75 (.int .i64 (j : Nat)) Z (AEq.of_eq (by congr 1; omega)) ?_
   repeat (first | refine zB (zE rfl) ?_ | refine zB (zL rfl) ?_ | refine zD ?_ | refine zA ?_ | refine zG rfl ?_ | refine zc ?_ | refine zB (zBc rfl rfl (by omega)) ?_ | refine zB (zAU rfl rfl rfl rfl rfl (by first | (simp only [Nat.zero_add, Int.toNat_natCast, Int.toNat_zero]; exact rfl) | exact rfl) (by omega)) ?_ | refine zAi rfl rfl rfl rfl rfl rfl rfl (by first | assumption | (show _ < List.length _; first | assumption | omega)) ?_)
   have hz := w5 j (by omega)
   have hset := zJQ (x := (dg : Int)) (show j < Q.length by omega)
   rw [hz, Int.toNat_natCast] at hset
   have z0 : (0 : Int).toNat = 0 := rfl
   rw [z0, Nat.mul_zero, Nat.add_zero] at hset
   refine zQ ⟨(j, W', Q.set j (dg : Int)), ⟨by simp only; omega, p5, by simp [w3], w4.set (by omega), fun x hx => ?_, ?_⟩, by simp only; omega, ⟨Z, Z, Z, Z, Z, ?_, trivial⟩, Z⟩
   · simp only at hx ⊢
     rw [zDi (by omega)]; exact w5 x (by omega)
   · simp only
     rw [hset, Nat.add_mul, Nat.mul_assoc, Nat.mul_comm dg v]
     omega
   · show some (AV.int .i64 _) = _
     congr 2
     omega
 · have hj0 : j1 = 0 := by omega
   subst hj0
   rw [Nat.pow_zero, Nat.mul_one] at w2
   have he := hend (ze Q) W
   obtain ⟨hq, hW⟩ := he w6 w2
   clear he hend
   have hWB : W < B ^ s := Nat.lt_trans w2 hvB
   have htk : (zB6 (ln + 1) W).take s = zB6 s W := by
     rw [show ln + 1 = s + J by omega, zFS, List.take_left' (zB1 _ _)]
   have hn1 := zDt (zB6 s W) (zFN _ _) (by rw [zB1]; omega)
   rw [zHw _ _ hWB] at hn1
   refine rn5 ?_
   refine zB (zEs Z Z Z Z Z Z Z Z ⟨Z, by omega, by omega⟩) ?_
   refine zH 88 (.sl 0 0 s) Z (AEq.of_eq (by rw [Int.toNat_natCast])) ?_
   refine zDa 0 88 s [(8, .int .i64 (k : Nat)), (12, .sl 2 0 J)] Z zBB Z (by show _ ≤ (zB6 _ _).length; rw [zB1]; omega) ⟨Z, Z, trivial⟩ ?_
   refine zH 88 (.ro (.ints .u32 (zB6 s W)) 0 s) Z (AEq.trans AEq.take (AEq.of_eq (by rw [htk]))) ?_
   refine zJ Z Z (zDT (zB1 _ _)) hn1 ?_
   have hlW := zAa W
   have hWv := zAI W
   have hlWl : (zX W).length ≤ s := zAs hWB
   unfold zj
   obtain ⟨r, hr⟩ : ∃ r, zX W = r := ⟨_, rfl⟩
   rw [hr] at hlW hWv hlWl ⊢
   refine rn3 ?_
   refine zCr Z Z Z Z Z Z Z Z (by show (0 : Int) ≤ _ ∧ _ ≤ _ ∧ (4 : Int) * _ ≤ _ ∧ _; omega) ?_
   refine rn3 ?_
   have hd0 : ∃ d0 : Nat, r.getD 0 0 = (d0 : Int) ∧ d0 < 4294967296 := hlW.nat 0
   obtain ⟨d0, hd0, hd0b⟩ := hd0
   refine zt (ι := Nat × List Int) (fun p => [(8, .int .i64 (k : Nat)), (12, .sl 2 0 J), (14, .ro (.ints .u32 r) 0 r.length), (15, .sl 3 0 r.length), (93, .ro (.ints .u32 r) 0 r.length), (94, .int .i64 (r.length : Nat)), (95, .int .i64 (p.1 : Nat))]) (fun p => [none, none, some ⟨224, .ints .u32 Q⟩, some ⟨224, .ints .u32 p.2⟩])
     (fun p => p.1 ≤ r.length ∧ p.2.length = r.length ∧ Lim p.2 ∧ ze (p.2.take p.1) * 2 ^ k + d0 % 2 ^ k = ze (r.take p.1) + (r.getD p.1 0).toNat % 2 ^ k * B ^ p.1) (fun p => r.length - p.1) (0, List.replicate r.length 0)
     ⟨⟨rfl, rfl, rfl, rfl, rfl, rfl, rfl, trivial⟩, rfl, Nat.zero_le _, by simp, Lim.zeros _, by simp [ze]; rw [show r[0]?.getD 0 = (d0 : Int) from hd0]; simp⟩ ?_
   rintro ⟨i, O⟩ ⟨x1, x2, x3, x4⟩
   simp only at *
   refine rn4 ?_
   refine zF Z (fun x5 => ?_) (fun x5 => ?_)
   · have hil : i < r.length := by omega
     obtain ⟨d, hd, hdb⟩ := hlW.nat i
     obtain ⟨e, he, heb⟩ := hlW.nat (i + 1)
     have hbl := zPU (e := e) hdb hk1
     have hbm := back_lim (e := e) hdb hk1
     have hdk : d / 2 ^ k < 4294967296 := Nat.lt_of_le_of_lt (Nat.div_le_self _ _) hdb
     rw [hd, Int.toNat_natCast] at x4
     have hstep := back_val (e := e) (out := O.take i) (i := i) hk1 (by simp; omega) hd x4
     refine rn6 ?_
     refine zH 102 (.int .u32 (d : Nat)) Z (AEq.of_eq (by rw [hd])) ?_
     skip
     refine zB (zFl (m := d) (s := k) Z Z (by rw [Nat.ble_eq]; show k ≤ 32; omega)) ?_
     repeat (first | refine zB (zE rfl) ?_ | refine zD ?_ | refine zA ?_ | refine zR ?_ | refine zG rfl ?_ | refine zB (zCg rfl rfl) ?_ | refine zB (zAR rfl rfl rfl) ?_ | refine zB (zCA rfl rfl (by omega)) ?_ | refine zB (zAU rfl rfl rfl rfl rfl (by first | (simp only [Nat.zero_add, Int.toNat_natCast, Int.toNat_zero]; exact rfl) | exact rfl) (by omega)) ?_ | refine zAi rfl rfl rfl rfl rfl rfl rfl (by first | assumption | (show _ < List.length _; first | assumption | omega)) ?_)
     apply zAP (H := [none, none, some ⟨224, .ints .u32 Q⟩, some ⟨224, .ints .u32 (O.set i ((d / 2 ^ k + e % 2 ^ k * 2 ^ (32 - k) : Nat) : Int))⟩]) [(8, .int .i64 (k : Nat)), (12, .sl 2 0 J), (14, .ro (.ints .u32 r) 0 r.length), (15, .sl 3 0 r.length), (93, .ro (.ints .u32 r) 0 r.length), (94, .int .i64 (r.length : Nat)), (95, .int .i64 (i : Nat))]
     · intro fin
       have noFin : (i + 1 = r.length ∨ k = 0) → e % 2 ^ k * 2 ^ (32 - k) = 0 := by
         rintro (h | h)
         · have : r.getD (i + 1) 0 = 0 := by simp [List.getD, List.getElem?_eq_none (show r.length ≤ i + 1 by omega)]
           have : e = 0 := by omega
           subst this; simp
         · subst h; rw [Nat.pow_zero, Nat.mod_one]; try simp
       refine zAz Z Z (fun y1 => ?_) (fun y1 => ?_)
       · refine rn6 ?_
         refine zF Z (fun y2 => ?_) (fun y2 => ?_)
         · skip
           refine zx (by kernel_rfl) ?_
           refine zAA 0 Z (by kernel_rfl) (by kernel_rfl) (by kernel_rfl) Z (zE Z) Z ?_
           refine zAA 1 Z (by kernel_rfl) (by kernel_rfl) (by kernel_rfl) Z (zE Z) Z ?_
           refine zAA 2 Z (by kernel_rfl) (by kernel_rfl) (by kernel_rfl) Z (zAU Z Z Z Z Z (by first | (simp only [Nat.zero_add, Int.toNat_natCast, Int.toNat_zero]; exact Z) | exact Z) (by omega)) Z ?_
           refine zAA 4 Z (by kernel_rfl) (by kernel_rfl) (by kernel_rfl) Z (zE Z) Z ?_
           refine zAA 5 Z (by kernel_rfl) (by kernel_rfl) (by kernel_rfl) Z (zE Z) Z ?_
           refine zAA 6 Z (by kernel_rfl) (by kernel_rfl) (by kernel_rfl) Z (zCA Z Z (by omega)) Z ?_
           refine zAA 7 Z (by kernel_rfl) (by kernel_rfl) (by kernel_rfl) Z (zAN Z Z Z Z (by first | (simp only [Nat.zero_add, Int.toNat_natCast, Int.toNat_zero]; exact Z) | exact Z) (by omega)) Z ?_
           refine zAA 9 Z (by kernel_rfl) (by kernel_rfl) (by kernel_rfl) Z (zE Z) Z ?_
           refine zAA 10 Z (by kernel_rfl) (by kernel_rfl) (by kernel_rfl) Z (zBc Z Z (by omega)) Z ?_
           apply zAd [(8, .int .i64 (k : Nat)), (12, .sl 2 0 J), (14, .ro (.ints .u32 r) 0 r.length), (15, .sl 3 0 r.length), (93, .ro (.ints .u32 r) 0 r.length), (94, .int .i64 (r.length : Nat)), (95, .int .i64 (i : Nat)), (118, .int .u32 (d / 2 ^ k : Nat)), (126, .int .u32 (e * 2 ^ (32 - k) % 4294967296 : Nat)), (115, .sl 3 0 r.length), (116, .int .i64 (i : Nat))]
           · intro fin2
             have hsl : (O.set i ((d / 2 ^ k : Nat) : Int)).getD i 0 = ((d / 2 ^ k : Nat) : Int) := by simp [List.getD, show i < O.length by omega]
             have hil2 : i < (O.set i ((d / 2 ^ k : Nat) : Int)).length := by simp; omega
             refine zW (is := [3, 8]) (by kernel_rfl) (by simp) Z ⟨fun o ho => ?_, fun o ho => ?_, trivial⟩
             all_goals (cases ho)
             · repeat (first | refine zD ?_ | refine zAF ?_ | refine zB (zBz rfl rfl rfl rfl (by first | assumption | omega)) ?_)
               refine zW (is := [8]) (by kernel_rfl) (by simp) Z ⟨fun o ho => ?_, trivial⟩
               all_goals (cases ho)
               refine rn6 ?_
               refine zDM 123 (.int .u32 (e : Nat)) Z (AEq.of_eq (by rw [show ((i : Int) + 1).toNat = i + 1 by omega, he])) ?_
               refine zDM 125 (.int .i64 (32 - k : Nat)) Z (AEq.of_eq (by congr 1; omega)) ?_
               refine zAA 11 Z (by kernel_rfl) (by kernel_rfl) (by kernel_rfl) Z (zOd (m := e) (s := 32 - k) Z Z (by show 32 - k ≤ 32; omega) zEk) Z ?_
               refine fin2 _ ⟨Z, Z, Z, Z, Z, Z, Z, ?_, Z, Z, Z, trivial⟩
               show some (AV.int .u32 ((O.set i ((d / 2 ^ k : Nat) : Int)).getD i 0)) = _
               rw [hsl]
             · refine rn6 ?_
               refine zDM 123 (.int .u32 (e : Nat)) Z (AEq.of_eq (by rw [show ((i : Int) + 1).toNat = i + 1 by omega, he])) ?_
               refine zDM 125 (.int .i64 (32 - k : Nat)) Z (AEq.of_eq (by congr 1; omega)) ?_
               refine zAA 11 Z (by kernel_rfl) (by kernel_rfl) (by kernel_rfl) Z (zOd (m := e) (s := 32 - k) Z Z (by show 32 - k ≤ 32; omega) zEk) Z ?_
               refine zW (is := [3]) (by kernel_rfl) (by simp) Z ⟨fun o ho => ?_, trivial⟩
               all_goals (cases ho)
               repeat (first | refine zD ?_ | refine zAF ?_ | refine zB (zBz rfl rfl rfl rfl (by first | assumption | omega)) ?_)
               refine fin2 _ ⟨Z, Z, Z, Z, Z, Z, Z, ?_, Z, Z, Z, trivial⟩
               show some (AV.int .u32 ((O.set i ((d / 2 ^ k : Nat) : Int)).getD i 0)) = _
               rw [hsl]
           refine zAA 12 Z (by kernel_rfl) (by kernel_rfl) (by kernel_rfl) Z (QOp.res (zMu Z Z zEk Z hdk (Nat.mod_lt _ (by decide))) (by rw [hbl])) Z ?_
           have hil2 : i < (O.set i ((d / 2 ^ k : Nat) : Int)).length := by simp; omega
           refine zAA 13 Z (by kernel_rfl) (by kernel_rfl) (by kernel_rfl) Z (zAU Z Z Z Z Z (by first | (simp only [Nat.zero_add, Int.toNat_natCast, Int.toNat_zero]; exact Z) | exact Z) (by omega)) Z ?_
           refine zW (is := [14]) (by kernel_rfl) (by simp) Z ⟨fun o ho => ?_, trivial⟩
           all_goals (cases ho)
           repeat (first | refine zD ?_ | refine zAF ?_ | refine zAi rfl rfl rfl rfl rfl rfl rfl (by first | assumption | (show _ < List.length _; first | assumption | omega)) ?_)
           refine zf (by kernel_rfl) ?_
           repeat (first | refine zA ?_ | refine zc ?_)
           refine zAW _ (by show [none, none, _, some (⟨_, .ints .u32 ((O.set i _).set i _)⟩ : AObj)] = _; rw [List.set_set]) ?_
           exact fin _ ⟨Z, Z, Z, Z, Z, Z, Z, trivial⟩
         · have hz := noFin (.inr (by omega))
           rw [hz, Nat.add_zero] at fin
           repeat (first | refine zA ?_ | refine zc ?_ | refine zi ?_)
           exact fin _ ⟨Z, Z, Z, Z, Z, Z, Z, trivial⟩
       · have hz := noFin (.inl (by omega))
         rw [hz, Nat.add_zero] at fin
         repeat (first | refine zD ?_ | refine zA ?_ | refine zAv rfl rfl rfl ?_ | refine zr rfl ?_ | refine zc ?_ | refine zi ?_ | refine zB (zAM rfl rfl) ?_)
         exact fin _ ⟨Z, Z, Z, Z, Z, Z, Z, trivial⟩
     refine rn3 ?_
     refine zQ ⟨(i + 1, O.set i ((d / 2 ^ k + e % 2 ^ k * 2 ^ (32 - k) : Nat) : Int)), ⟨by simp only; omega, by simp [x2], x3.set (by omega), ?_⟩, by simp only; omega, ⟨Z, Z, Z, Z, Z, Z, Z, trivial⟩, Z⟩
     simp only
     rw [zFF (by omega), he, Int.toNat_natCast]
     exact hstep
   · have hie : i = r.length := by omega
     subst hie
     have hz : r.getD r.length 0 = 0 := by simp [List.getD]
     have z0 : (0 : Int).toNat = 0 := rfl
     rw [hz, z0, Nat.zero_mod, Nat.zero_mul, Nat.add_zero, List.take_of_length_le (by omega), List.take_length, hWv, hW] at x4
     have hpk : 0 < 2 ^ k := Nat.pow_pos (by decide)
     have hOv : ze O = n % m := by
       have h1 : d0 % 2 ^ k < 2 ^ k := Nat.mod_lt _ hpk
       have h2 : (ze O * 2 ^ k + d0 % 2 ^ k) / 2 ^ k = ze O := by rw [Nat.add_comm, Nat.add_mul_div_right _ _ hpk, Nat.div_eq_of_lt h1, Nat.zero_add]
       rw [x4, Nat.mul_div_cancel _ hpk] at h2
       exact h2.symm
     have nq := zDt Q w4 (by omega)
     have no := zDt O x3 (by omega)
     rw [hq] at nq
     rw [hOv] at no
     refine rn5 ?_
     refine zDa 2 130 J [(15, .sl 3 0 r.length)] Z zBB Z (by show _ ≤ Q.length; omega) ⟨Z, trivial⟩ ?_
     refine zJ Z Z (zDT w3) nq ?_
     repeat (refine zB (zE rfl) ?_)
     refine zDa 3 132 r.length [(131, zj (n / m))] Z zBB Z (by show _ ≤ O.length; omega) ⟨Z, trivial⟩ ?_
     refine zJ Z Z (zDT x2) no ?_
     refine rn0 ?_
     exact zO hR Z Z
end Go.Proofs.YtnkealfaldjipaaGreatDoor
namespace Go.Ax.Bg
theorem zFE {a b k : Nat} (h : a < b) (hb : (zX b).length ≤ k) : (zX a).length ≤ k := by
 have h1 := zA2 (zAa b)
 rw [zAI] at h1
 have := zAs (Nat.lt_trans h h1)
 omega
theorem zIf {a b k : Nat} (h : a ≤ b) (hb : (zX b).length ≤ k) : (zX a).length ≤ k := by
 rcases Nat.lt_or_ge a b with q | q
 · exact zFE q hb
 · have : a = b := by omega
   subst this; exact hb
theorem zLv : zX 1 = [1] := by
 rw [zGT (by decide)]
 have : 1 / B = 0 := by decide
 rw [this, zBv]; rfl
theorem zO7 {n : Nat} : n = 1 ↔ (zX n).length = 1 ∧ (zX n).getD 0 0 = 1 := by
 constructor
 · rintro rfl; rw [zLv]; exact ⟨rfl, rfl⟩
 · rintro ⟨h1, h2⟩
   have h3 := zAH (zX n) 0
   rw [List.take_of_length_le (by omega), zAI, h2] at h3
   simpa [ze] using h3
/-- A row of which k elements on each side have changed places. -/
def zF5 (l : List (List UInt8)) (k : Nat) : List (List UInt8) := (List.range l.length).map fun i => if i < k ∨ l.length - k ≤ i then l.getD (l.length - 1 - i) [] else l.getD i []
theorem zDU (l : List (List UInt8)) (k : Nat) : (zF5 l k).length = l.length := by unfold zF5; simp
theorem zGm (l : List (List UInt8)) (k i : Nat) (hi : i < l.length) : (zF5 l k).getD i [] = if i < k ∨ l.length - k ≤ i then l.getD (l.length - 1 - i) [] else l.getD i [] := by
 unfold zF5
 simp only [List.getD, List.getElem?_map, List.getElem?_range hi, Option.map_some, Option.getD_some]
theorem zJp {l m : List (List UInt8)} (h : l.length = m.length) (he : ∀ i, i < l.length → l.getD i [] = m.getD i []) : l = m := by
 apply List.ext_getElem h
 intro i h1 h2
 have := he i h1
 rw [zDX [] h1, zDX [] h2] at this
 exact this
theorem zOy (l : List (List UInt8)) : zF5 l 0 = l := by
 refine zJp (zDU l 0) (fun i hi => ?_)
 rw [zDU] at hi
 rw [zGm l 0 i hi, if_neg (by omega)]
theorem zPR (l : List (List UInt8)) {k : Nat} (h : l.length ≤ 2 * k + 1) : zF5 l k = l.reverse := by
 refine zJp (by rw [zDU, List.length_reverse]) (fun i hi => ?_)
 rw [zDU] at hi
 have hr : l.reverse.getD i [] = l.getD (l.length - 1 - i) [] := by
   simp only [List.getD]
   rw [List.getElem?_reverse hi]
 rw [zGm l k i hi, hr]
 split
 · rfl
 · congr 1; omega
theorem zOz (l : List (List UInt8)) {k : Nat} (h : k + 1 + k < l.length) : ((zF5 l k).set k ((zF5 l k).getD (l.length - 1 - k) [])).set (l.length - 1 - k) ((zF5 l k).getD k []) = zF5 l (k + 1) := by
 refine zJp (by simp [zDU]) (fun i hi => ?_)
 simp only [List.length_set, zDU] at hi
 rw [zGm l (k + 1) i hi, zGm l k (l.length - 1 - k) (by omega), if_neg (by omega), zGm l k k (by omega), if_neg (by omega)]
 simp only [List.getD]
 by_cases h1 : i = l.length - 1 - k
 · subst h1
   rw [List.getElem?_set_self (by simp [zDU]; omega), if_pos (by omega)]
   simp only [Option.getD_some]
   congr 2; omega
 · rw [List.getElem?_set_ne (Ne.symm h1)]
   by_cases h2 : i = k
   · subst h2
     rw [List.getElem?_set_self (by rw [zDU]; omega), if_pos (by omega)]
     simp only [Option.getD_some]
   · rw [List.getElem?_set_ne (Ne.symm h2)]
     have := zGm l k i hi
     simp only [List.getD] at this
     rw [this]
     by_cases h3 : i < k ∨ l.length - k ≤ i
     · rw [if_pos h3, if_pos (by omega)]
     · rw [if_neg h3, if_neg (by omega)]
end Go.Ax.Bg
namespace Go.Proofs.YtnkealfaldjipaaGreatDoor
open Go.Ax Go.Ax.Bg Go.RowKit
attribute [local irreducible] Ax zBR QOp zY
set_option maxRecDepth 100000
set_option maxHeartbeats 4000000
theorem zIG (n m : Nat) (hm : 0 < m) (hn : (zX n).length ≤ 1000000) (hml : (zX m).length ≤ 1000000) : zZ Tryz.prog 158 [zj n, zj m] (.tup [zj (n / m), zj (n % m)]) := by
 rcases Nat.lt_or_ge n m with h | h
 · rw [Nat.div_eq_of_lt h, Nat.mod_eq_of_lt h]
   exact zZ.res (div_less n m h hn hml) (AEq.tup2 AEq.natNil)
 · have h1 : (zX m).length ≠ 0 := by
     have := zCQ.2 (show m ≠ 0 by omega)
     omega
   rcases Nat.lt_or_ge (zX m).length 2 with q | q
   · exact div_one n m h hn (by omega)
   · exact div_many n m h hn q
theorem zNH (n m : Nat) (hn : (zX n).length ≤ 1000000) (hm : (zX m).length ≤ 1000000) : zZ Tryz.prog 96 [zj n, zj m] (zj (Nat.gcd n m)) := by
 refine zY.value0 (zK (P := Tryz.prog) (fn := Tryz.f96) Z Z (by kernel_rfl) Z (fun c hR hfix => ?_)) (fix := fun _ => False) (fun _ h => h) Z Z
 refine rn1 ?_
 refine zt (ι := Nat × Nat) (fun p => [(0, zj p.1), (1, zj p.2)]) (fun _ => []) (fun p => (zX p.1).length ≤ 1000000 ∧ (zX p.2).length ≤ 1000000 ∧ Nat.gcd p.1 p.2 = Nat.gcd n m) (fun p => p.2) (n, m) ⟨⟨Z, Z, trivial⟩, Z, hn, hm, Z⟩ ?_
 rintro ⟨a, b⟩ ⟨h1, h2, h3⟩
 simp only at *
 have hd := fun h => zIG a b h h1 h2
 have hpos : 0 < (zX b).length ↔ b ≠ 0 := zCQ
 have en : zj b = .ro (.ints .u32 (zX b)) 0 (zX b).length := rfl
 rw [en] at hd ⊢
 refine rn6 ?_
 refine zF Z (fun h4 => ?_) (fun h4 => ?_)
 · have hb : b ≠ 0 := hpos.1 (by omega)
   refine rn1 ?_
   refine zJ Z Z Z (hd (by omega)) ?_
   refine rn5 ?_
   refine zQ ⟨(b, a % b), ⟨h2, zFE (Nat.mod_lt a (by omega)) h2, ?_⟩, Nat.mod_lt a (by omega), ⟨Z, Z, trivial⟩, Z⟩
   show Nat.gcd b (a % b) = Nat.gcd n m
   rw [← h3, Nat.gcd_comm a b, Nat.gcd_rec b a, Nat.gcd_comm]
 · have hb : b = 0 := by
     rcases Nat.eq_zero_or_pos b with q | q
     · exact q
     · have := hpos.2 (by omega); omega
   rw [hb, Nat.gcd_zero_right] at h3
   refine rn5 ?_
   refine zO hR Z ?_
   rw [← h3]; rfl
theorem one_ok (n : Nat) : zZ Tryz.prog 97 [zj n] (.bool (decide (n = 1))) := by
 refine zY.value0 (zK (P := Tryz.prog) (fn := Tryz.f97) Z Z (by kernel_rfl) Z (fun c hR hfix => ?_)) (fix := fun _ => False) (fun _ h => h) Z Z
 have h1 : n = 1 ↔ (zX n).length = 1 ∧ (zX n).getD 0 0 = 1 := zO7
 unfold zj
 refine rn4 ?_
 refine zAz Z Z (fun h2 => ?_) (fun h2 => ?_)
 · refine rn6 ?_
   refine zO hR Z ?_
   show AV.bool (decide ((zX n).getD _ 0 = 1)) = _
   congr 1
   rw [decide_eq_decide, h1]
   exact ⟨fun h => ⟨by omega, h⟩, fun h => h.2⟩
 · refine rn6 ?_
   refine zO hR Z ?_
   show AV.bool false = _
   rw [decide_eq_false]
   intro h
   exact h2 (by have := (h1.1 h).1; omega)
theorem zMx (l : List (List UInt8)) (hl : l.length ≤ 1000000000) :
   zY Tryz.prog 218 [.sl 0 0 l.length] [some ⟨9, .strs l⟩] (fun h => h < 1) (fun _ H => H = [some ⟨9, .strs l.reverse⟩]) := by
 refine zK (P := Tryz.prog) (fn := Tryz.f218) Z Z (by kernel_rfl) Z (fun c hR hfix => ?_)
 repeat (first | refine zB (zE rfl) ?_ | refine zB (zL rfl) ?_ | refine zD ?_ | refine zA ?_ | refine zR ?_ | refine zG rfl ?_ | refine zb ?_ | refine zB (zAR rfl rfl rfl) ?_ | refine zB (zBc rfl rfl (by omega)) ?_)
 refine zt (ι := Nat) (fun k => [(0, .sl 0 0 l.length), (2, .int .i64 (k : Nat)), (3, .int .i64 ((l.length : Int) - 1 - k))]) (fun k => [some ⟨9, .strs (zF5 l k)⟩]) (fun k => 2 * k ≤ l.length + 1) (fun k => l.length + 1 - k) 0 ⟨⟨Z, Z, ?_, trivial⟩, by rw [zOy], by omega⟩ ?_
 · show some (AV.int .i64 _) = _
   congr 2; omega
 rintro k hk
 have hrl := zDU l k
 refine rn4 ?_
 refine zF Z (fun h1 => ?_) (fun h1 => ?_)
 · have hk2 : k + 1 + k < l.length := by omega
   have e1 : ((l.length : Int) - 1 - (k : Nat)).toNat = l.length - 1 - k := by omega
   refine rn1 ?_
   refine zx (by kernel_rfl) ?_
   refine zAA 0 Z (by kernel_rfl) (by kernel_rfl) (by kernel_rfl) Z (zE Z) Z ?_
   refine zAA 1 Z (by kernel_rfl) (by kernel_rfl) (by kernel_rfl) Z (zE Z) Z ?_
   refine zAA 2 Z (by kernel_rfl) (by kernel_rfl) (by kernel_rfl) Z (zE Z) Z ?_
   refine zAA 3 Z (by kernel_rfl) (by kernel_rfl) (by kernel_rfl) Z (zE Z) Z ?_
   refine zAA 4 Z (by kernel_rfl) (by kernel_rfl) (by kernel_rfl) Z (zE Z) Z ?_
   refine zAA 5 Z (by kernel_rfl) (by kernel_rfl) (by kernel_rfl) Z (zE Z) Z ?_
   refine zAA 6 Z (by kernel_rfl) (by kernel_rfl) (by kernel_rfl) Z (zAU Z Z Z Z Z (by first | (simp only [Nat.zero_add, Int.toNat_natCast, Int.toNat_zero]; exact Z) | exact Z) (by omega)) Z ?_
   refine zAA 8 Z (by kernel_rfl) (by kernel_rfl) (by kernel_rfl) Z (zE Z) Z ?_
   refine zAA 9 Z (by kernel_rfl) (by kernel_rfl) (by kernel_rfl) Z (zE Z) Z ?_
   refine zAA 10 Z (by kernel_rfl) (by kernel_rfl) (by kernel_rfl) Z (zAU Z Z Z Z Z (by first | (simp only [Nat.zero_add, Int.toNat_natCast, Int.toNat_zero]; exact Z) | exact Z) (by omega)) Z ?_
   refine zDM 20 (.ptr 0 (l.length - 1 - k) 0) Z (AEq.of_eq (by rw [e1])) ?_
   have b1 : l.length - 1 - k < (zF5 l k).length := by omega
   have b2 : k < (zF5 l k).length := by omega
   apply zAd [(0, .sl 0 0 l.length), (2, .int .i64 (k : Nat)), (3, .int .i64 ((l.length : Int) - 1 - k)), (14, .sl 0 0 l.length), (15, .int .i64 (k : Nat)), (16, .sl 0 0 l.length), (17, .int .i64 ((l.length : Int) - 1 - k)), (21, .str ((zF5 l k).getD (l.length - 1 - k) [])), (25, .str ((zF5 l k).getD k []))]
   · intro fin
     refine zW (is := [7, 11]) (by kernel_rfl) (by simp) Z ⟨fun o ho => ?_, fun o ho => ?_, trivial⟩
     all_goals (cases ho)
     · repeat (first | refine zD ?_ | refine zAF ?_ | refine zB (zEz rfl rfl rfl rfl (by first | assumption | omega)) ?_)
       refine zW (is := [11]) (by kernel_rfl) (by simp) Z ⟨fun o ho => ?_, trivial⟩
       all_goals (cases ho)
       repeat (first | refine zD ?_ | refine zAF ?_ | refine zB (zEz rfl rfl rfl rfl (by first | assumption | omega)) ?_)
       exact fin _ ⟨Z, Z, Z, Z, Z, Z, Z, Z, Z, trivial⟩
     · repeat (first | refine zD ?_ | refine zAF ?_ | refine zB (zEz rfl rfl rfl rfl (by first | assumption | omega)) ?_)
       refine zW (is := [7]) (by kernel_rfl) (by simp) Z ⟨fun o ho => ?_, trivial⟩
       all_goals (cases ho)
       repeat (first | refine zD ?_ | refine zAF ?_ | refine zB (zEz rfl rfl rfl rfl (by first | assumption | omega)) ?_)
       exact fin _ ⟨Z, Z, Z, Z, Z, Z, Z, Z, Z, trivial⟩
   refine zAA 12 Z (by kernel_rfl) (by kernel_rfl) (by kernel_rfl) Z (zAU Z Z Z Z Z (by first | (simp only [Nat.zero_add, Int.toNat_natCast, Int.toNat_zero]; exact Z) | exact Z) (by omega)) Z ?_
   refine zW (is := [13]) (by kernel_rfl) (by simp) Z ⟨fun o ho => ?_, trivial⟩
   all_goals (cases ho)
   repeat (first | refine zD ?_ | refine zAF ?_ | refine zAi rfl rfl rfl rfl rfl rfl rfl (by first | assumption | (show _ < List.length _; first | assumption | omega)) ?_)
   refine zAA 14 Z (by kernel_rfl) (by kernel_rfl) (by kernel_rfl) Z (zAU Z Z Z Z Z (by first | (simp only [Nat.zero_add, Int.toNat_natCast, Int.toNat_zero]; exact Z) | exact Z) (by omega)) Z ?_
   refine zDM 27 (.ptr 0 (l.length - 1 - k) 0) Z (AEq.of_eq (by rw [e1])) ?_
   have b3 : l.length - 1 - k < ((zF5 l k).set k ((zF5 l k).getD (l.length - 1 - k) [])).length := by simp; omega
   refine zW (is := [15]) (by kernel_rfl) (by simp) Z ⟨fun o ho => ?_, trivial⟩
   all_goals (cases ho)
   repeat (first | refine zD ?_ | refine zAF ?_ | refine zAi rfl rfl rfl rfl rfl rfl rfl (by first | assumption | (show _ < List.length _; first | assumption | omega)) ?_)
   refine zf (by kernel_rfl) ?_
   repeat (first | refine zB (zE rfl) ?_ | refine zB (zL rfl) ?_ | refine zD ?_ | refine zA ?_ | refine zG rfl ?_ | refine zc ?_ | refine zB (zCA rfl rfl (by omega)) ?_ | refine zB (zBc rfl rfl (by omega)) ?_)
   refine zQ ⟨k + 1, by omega, by omega, ⟨Z, Z, ?_, trivial⟩, ?_⟩
   · show some (AV.int .i64 _) = _
     congr 2; omega
   · show ([some ⟨_, .strs (((zF5 l k).set k _).set (l.length - 1 - k) _)⟩] : zN) = _
     rw [zOz l hk2]
 · refine rn5 ?_
   refine ax_end hR Z ?_
   rw [zPR l (by omega)]
end Go.Proofs.YtnkealfaldjipaaGreatDoor
namespace Go.Proofs
open Go.Shelf
def Tryz.lays156_ren : Go.Shelf.Ren := ⟨fun | 156 => 219 | 165 => 238 | 166 => 239 | 169 => 241 | 240 => 251 | 241 => 252 | 276 => 259 | 277 => 260 | n => n, fun | 31 => 288 | 9 => 9 | 3 => 3 | 4 => 4 | 0 => 0 | 20 => 20 | 72 => 307 | 76 => 309 | 70 => 305 | 37 => 301 | 75 => 231 | 127 => 319 | 164 => 333 | 5 => 5 | 80 => 215 | n => n, fun | n => n⟩
theorem Tryz.lays156 : Go.Proofs.Lays.n156 Tryz.prog Tryz.lays156_ren := {
 mixed := by kernel_rfl
 f156 := Tryz.func219.trans (congrArg some (by kernel_rfl))
 f165 := Tryz.func238.trans (congrArg some (by kernel_rfl))
 f166 := Tryz.func239.trans (congrArg some (by kernel_rfl))
 f169 := Tryz.func241.trans (congrArg some (by kernel_rfl))
 f240 := Tryz.func251.trans (congrArg some (by kernel_rfl))
 f241 := Tryz.func252.trans (congrArg some (by kernel_rfl))
 f276 := Tryz.func259.trans (congrArg some (by kernel_rfl))
 f277 := Tryz.func260.trans (congrArg some (by kernel_rfl))
 t0 := Tryz.underlying0
 a0 := Tryz.isAgg0
 z0 := Tryz.sizeOf0
 v0 := Tryz.zeroValue0
 t3 := Tryz.underlying3
 a3 := Tryz.isAgg3
 z3 := Tryz.sizeOf3
 v3 := Tryz.zeroValue3
 t4 := Tryz.underlying4
 a4 := Tryz.isAgg4
 z4 := Tryz.sizeOf4
 v4 := Tryz.zeroValue4
 t9 := Tryz.underlying9
 a9 := Tryz.isAgg9
 z9 := Tryz.sizeOf9
 v9 := Tryz.zeroValue9
 t20 := Tryz.underlying20
 a20 := Tryz.isAgg20
 z20 := Tryz.sizeOf20
 v20 := Tryz.zeroValue20
 t31 := Tryz.underlying288
 a31 := Tryz.isAgg288
 z31 := Tryz.sizeOf288
 v31 := Tryz.zeroValue288
 t37 := Tryz.underlying301
 a37 := Tryz.isAgg301
 z37 := Tryz.sizeOf301
 v37 := Tryz.zeroValue301
 t70 := Tryz.underlying305
 a70 := Tryz.isAgg305
 z70 := Tryz.sizeOf305
 v70 := Tryz.zeroValue305
 t72 := Tryz.underlying307
 a72 := Tryz.isAgg307
 z72 := Tryz.sizeOf307
 v72 := Tryz.zeroValue307
 t75 := Tryz.underlying231
 a75 := Tryz.isAgg231
 z75 := Tryz.sizeOf231
 v75 := Tryz.zeroValue231
 t76 := Tryz.underlying309
 a76 := Tryz.isAgg309
 z76 := Tryz.sizeOf309
 v76 := Tryz.zeroValue309
 t127 := Tryz.underlying319
 a127 := Tryz.isAgg319
 z127 := Tryz.sizeOf319
 v127 := Tryz.zeroValue319
 t164 := Tryz.underlying333
 a164 := Tryz.isAgg333
 z164 := Tryz.sizeOf333
 v164 := Tryz.zeroValue333 }
theorem Tryz.Builder_Extra_156 : Builder.Extra Tryz.prog Tryz.lays156_ren := {
 sizeBuilder := by kernel_rfl
 liesBuilder := by kernel_rfl
 t5 := Tryz.underlying5
 a5 := Tryz.isAgg5
 z5 := Tryz.sizeOf5
 v5 := Tryz.zeroValue5
 infoByte := by kernel_rfl
 cellsByte := by kernel_rfl
 sizeByte := by kernel_rfl
 neB5 := by decide }
open Go.RowKit in
/-- No element: the empty string; the world is as it was. (Whatever the slice's address and capacity: a nil slice too.) (LAID: no walk: one application.) -/
theorem Tryz.strings_Join_none (a : Option Addr) (c : Nat) (sep : ByteArray) (w : World) :
   Calls Tryz.prog 219 #[.slice a 0 c, .string sep] w fun e w' => e = .returned (.string ⟨#[]⟩) ∧ w' = w := Any.strings_Join_none Tryz.lays156 Tryz.Builder_Extra_156 a c sep w
open Go.RowKit in
/-- strings.Join: "Join concatenates the elements of its first argument to create a single string. The separator string sep is placed between elements in the resulting string.": HOWEVER MANY ELEMENTS. Below the heap's end the world is as it was. (LAID: no walk: one application.) -/
theorem Tryz.strings_Join (bk o c : Nat) (xs : List ByteArray) (sep : ByteArray) (w : World) (hcells : ∀ (j : Nat) x, xs[j]? = some x → w.cell? ⟨bk, o + j, none⟩ = some (.string x)) (hbk : bk < w.heap.size) (hN : xs.length ≤ 140737488355328) (hcap : xs.length ≤ c) (hlen : (Lib.join (xs.map (·.data.toList)) sep.data.toList).length ≤ 140737488355328) :
   Calls Tryz.prog 219 #[.slice (some ⟨bk, o, none⟩) xs.length c, .string sep] w fun e w' => e = .returned (.string ⟨(Lib.join (xs.map (·.data.toList)) sep.data.toList).toArray⟩) ∧ Below w.heap.size w w' := Any.strings_Join Tryz.lays156 Tryz.Builder_Extra_156 bk o c xs sep w hcells hbk hN hcap hlen
def Tryz.laysM171_ren : Go.Shelf.Ren := ⟨fun | 171 => 216 | 243 => 237 | 246 => 250 | 283 => 255 | 284 => 256 | 285 => 257 | 286 => 258 | 129 => 262 | 317 => 261 | 318 => 263 | 319 => 264 | 320 => 265 | 337 => 266 | 338 => 267 | n => n, fun | 3 => 3 | 9 => 9 | 2 => 2 | 4 => 4 | 171 => 328 | 0 => 0 | 53 => 229 | 37 => 301 | 5 => 5 | 173 => 331 | 212 => 337 | 51 => 224 | 20 => 20 | 213 => 338 | 46 => 195 | 232 => 341 | 233 => 342 | n => n, fun | 17 => 5 | 18 => 6 | 19 => 7 | n => n⟩
theorem Tryz.laysM171 : Go.Proofs.LaysM.n171 Tryz.prog Tryz.laysM171_ren := {
 mixed := by kernel_rfl
 f129 := Tryz.func262.trans (congrArg some (by kernel_rfl))
 f171 := Tryz.func216.trans (congrArg some (by kernel_rfl))
 f243 := Tryz.func237.trans (congrArg some (by kernel_rfl))
 f246 := Tryz.func250.trans (congrArg some (by kernel_rfl))
 f283 := Tryz.func255.trans (congrArg some (by kernel_rfl))
 f284 := Tryz.func256.trans (congrArg some (by kernel_rfl))
 f285 := Tryz.func257.trans (congrArg some (by kernel_rfl))
 f286 := Tryz.func258.trans (congrArg some (by kernel_rfl))
 f317 := Tryz.func261.trans (congrArg some (by kernel_rfl))
 f318 := Tryz.func263.trans (congrArg some (by kernel_rfl))
 f319 := Tryz.func264.trans (congrArg some (by kernel_rfl))
 f320 := Tryz.func265.trans (congrArg some (by kernel_rfl))
 f337 := Tryz.func266.trans (congrArg some (by kernel_rfl))
 f338 := Tryz.func267.trans (congrArg some (by kernel_rfl))
 t0 := Tryz.underlying0
 a0 := Tryz.isAgg0
 z0 := Tryz.sizeOf0
 v0 := Tryz.zeroValue0
 t2 := Tryz.underlying2
 a2 := Tryz.isAgg2
 z2 := Tryz.sizeOf2
 v2 := Tryz.zeroValue2
 t3 := Tryz.underlying3
 a3 := Tryz.isAgg3
 z3 := Tryz.sizeOf3
 v3 := Tryz.zeroValue3
 t4 := Tryz.underlying4
 a4 := Tryz.isAgg4
 z4 := Tryz.sizeOf4
 v4 := Tryz.zeroValue4
 t5 := Tryz.underlying5
 a5 := Tryz.isAgg5
 z5 := Tryz.sizeOf5
 v5 := Tryz.zeroValue5
 t9 := Tryz.underlying9
 a9 := Tryz.isAgg9
 z9 := Tryz.sizeOf9
 v9 := Tryz.zeroValue9
 t20 := Tryz.underlying20
 a20 := Tryz.isAgg20
 z20 := Tryz.sizeOf20
 v20 := Tryz.zeroValue20
 t37 := Tryz.underlying301
 a37 := Tryz.isAgg301
 z37 := Tryz.sizeOf301
 v37 := Tryz.zeroValue301
 t46 := Tryz.underlying195
 a46 := Tryz.isAgg195
 z46 := Tryz.sizeOf195
 v46 := Tryz.zeroValue195
 t51 := Tryz.underlying224
 a51 := Tryz.isAgg224
 z51 := Tryz.sizeOf224
 v51 := Tryz.zeroValue224
 t53 := Tryz.underlying229
 a53 := Tryz.isAgg229
 z53 := Tryz.sizeOf229
 v53 := Tryz.zeroValue229
 t171 := Tryz.underlying328
 a171 := Tryz.isAgg328
 z171 := Tryz.sizeOf328
 v171 := Tryz.zeroValue328
 t173 := Tryz.underlying331
 a173 := Tryz.isAgg331
 z173 := Tryz.sizeOf331
 v173 := Tryz.zeroValue331
 t212 := Tryz.underlying337
 a212 := Tryz.isAgg337
 z212 := Tryz.sizeOf337
 v212 := Tryz.zeroValue337
 t213 := Tryz.underlying338
 a213 := Tryz.isAgg338
 z213 := Tryz.sizeOf338
 t232 := Tryz.underlying341
 a232 := Tryz.isAgg341
 z232 := Tryz.sizeOf341
 v232 := Tryz.zeroValue341
 t233 := Tryz.underlying342
 a233 := Tryz.isAgg342
 z233 := Tryz.sizeOf342
 v233 := Tryz.zeroValue342
 g17 := by kernel_rfl
 g18 := by kernel_rfl
 g19 := by kernel_rfl
 i0 := by kernel_rfl
 i2 := by kernel_rfl
 i3 := by kernel_rfl
 i4 := by kernel_rfl
 i5 := by kernel_rfl
 i9 := by kernel_rfl
 i20 := by kernel_rfl
 i37 := by kernel_rfl
 i46 := by kernel_rfl
 i51 := by kernel_rfl
 i53 := by kernel_rfl
 i171 := by kernel_rfl
 i173 := by kernel_rfl
 i212 := by kernel_rfl
 i232 := by kernel_rfl
 i233 := by kernel_rfl
 m17 := by kernel_rfl
 m18 := by kernel_rfl
 m19 := by kernel_rfl }
open Go.RowKit Go.Sort Go.Lib in
/-- strconv.Itoa: "Itoa is equivalent to FormatInt(int64(i), 10).": i's DECIMAL NUMERAL ('Lib.itoa': a '-' where i is negative, then the digits), FOR EVERY int. The world behind the call: the world before it, new blocks behind the heap (the library's 'var a [24]byte'), draws. (LAID: no walk: one application.) -/
theorem Tryz.strconv_Itoa (n : Int) (h0 : -9223372036854775808 ≤ n) (h1 : n ≤ 9223372036854775807) (w : World) (htab : Lib.TabIs Tryz.prog w "internal/strconv.uint64pow10" .u64 Lib.pow10Tab) :
   Calls Tryz.prog 216 #[.int .i64 n] w fun e w' => e = .returned (.string ⟨(Lib.itoa n).toArray⟩) ∧ ∃ k os, w' = grow (w.drewN k) os := Any.strconv_Itoa Tryz.laysM171 n h0 h1 w htab
def Tryz.laysPu14_ren : Go.Shelf.Ren := ⟨fun | 14 => 156 | 16 => 202 | 17 => 203 | 19 => 229 | 20 => 230 | 21 => 231 | 22 => 232 | 23 => 233 | 24 => 234 | 25 => 248 | 27 => 216 | 26 => 249 | 28 => 237 | 29 => 250 | 30 => 255 | 31 => 256 | 32 => 257 | 33 => 258 | 35 => 262 | 34 => 261 | 36 => 263 | 37 => 264 | 38 => 265 | 39 => 266 | 40 => 267 | n => n, fun | 9 => 9 | 3 => 3 | 22 => 229 | 24 => 231 | 25 => 232 | 4 => 4 | 34 => 299 | 5 => 5 | 36 => 195 | 37 => 301 | 0 => 0 | 39 => 302 | 21 => 21 | 44 => 316 | 47 => 319 | 50 => 327 | 48 => 325 | 2 => 2 | 52 => 328 | 55 => 331 | 59 => 337 | 60 => 224 | 20 => 20 | 61 => 338 | 65 => 341 | 66 => 342 | 67 => 215 | n => n, fun | 0 => 1 | 1 => 2 | 2 => 5 | 3 => 6 | 4 => 7 | n => n⟩
theorem Tryz.laysPu14 : Go.Proofs.LaysPu.n14 Tryz.prog Tryz.laysPu14_ren := {
 mixed := by kernel_rfl
 f14 := Tryz.func156.trans (congrArg some (by kernel_rfl))
 f16 := Tryz.func202.trans (congrArg some (by kernel_rfl))
 f17 := Tryz.func203.trans (congrArg some (by kernel_rfl))
 f19 := Tryz.func229.trans (congrArg some (by kernel_rfl))
 f20 := Tryz.func230.trans (congrArg some (by kernel_rfl))
 f21 := Tryz.func231.trans (congrArg some (by kernel_rfl))
 f22 := Tryz.func232.trans (congrArg some (by kernel_rfl))
 f23 := Tryz.func233.trans (congrArg some (by kernel_rfl))
 f24 := Tryz.func234.trans (congrArg some (by kernel_rfl))
 f25 := Tryz.func248.trans (congrArg some (by kernel_rfl))
 f26 := Tryz.func249.trans (congrArg some (by kernel_rfl))
 f27 := Tryz.func216.trans (congrArg some (by kernel_rfl))
 f28 := Tryz.func237.trans (congrArg some (by kernel_rfl))
 f29 := Tryz.func250.trans (congrArg some (by kernel_rfl))
 f30 := Tryz.func255.trans (congrArg some (by kernel_rfl))
 f31 := Tryz.func256.trans (congrArg some (by kernel_rfl))
 f32 := Tryz.func257.trans (congrArg some (by kernel_rfl))
 f33 := Tryz.func258.trans (congrArg some (by kernel_rfl))
 f34 := Tryz.func261.trans (congrArg some (by kernel_rfl))
 f35 := Tryz.func262.trans (congrArg some (by kernel_rfl))
 f36 := Tryz.func263.trans (congrArg some (by kernel_rfl))
 f37 := Tryz.func264.trans (congrArg some (by kernel_rfl))
 f38 := Tryz.func265.trans (congrArg some (by kernel_rfl))
 f39 := Tryz.func266.trans (congrArg some (by kernel_rfl))
 f40 := Tryz.func267.trans (congrArg some (by kernel_rfl))
 t0 := Tryz.underlying0
 a0 := Tryz.isAgg0
 z0 := Tryz.sizeOf0
 v0 := Tryz.zeroValue0
 i0 := by kernel_rfl
 t2 := Tryz.underlying2
 a2 := Tryz.isAgg2
 z2 := Tryz.sizeOf2
 v2 := Tryz.zeroValue2
 i2 := by kernel_rfl
 t3 := Tryz.underlying3
 a3 := Tryz.isAgg3
 z3 := Tryz.sizeOf3
 v3 := Tryz.zeroValue3
 i3 := by kernel_rfl
 t4 := Tryz.underlying4
 a4 := Tryz.isAgg4
 z4 := Tryz.sizeOf4
 v4 := Tryz.zeroValue4
 i4 := by kernel_rfl
 t5 := Tryz.underlying5
 a5 := Tryz.isAgg5
 z5 := Tryz.sizeOf5
 v5 := Tryz.zeroValue5
 i5 := by kernel_rfl
 t9 := Tryz.underlying9
 a9 := Tryz.isAgg9
 z9 := Tryz.sizeOf9
 v9 := Tryz.zeroValue9
 i9 := by kernel_rfl
 t20 := Tryz.underlying20
 a20 := Tryz.isAgg20
 z20 := Tryz.sizeOf20
 v20 := Tryz.zeroValue20
 i20 := by kernel_rfl
 t21 := Tryz.underlying21
 a21 := Tryz.isAgg21
 z21 := Tryz.sizeOf21
 v21 := Tryz.zeroValue21
 i21 := by kernel_rfl
 t22 := Tryz.underlying229
 a22 := Tryz.isAgg229
 z22 := Tryz.sizeOf229
 v22 := Tryz.zeroValue229
 i22 := by kernel_rfl
 t24 := Tryz.underlying231
 a24 := Tryz.isAgg231
 z24 := Tryz.sizeOf231
 v24 := Tryz.zeroValue231
 i24 := by kernel_rfl
 t25 := Tryz.underlying232
 a25 := Tryz.isAgg232
 z25 := Tryz.sizeOf232
 v25 := Tryz.zeroValue232
 i25 := by kernel_rfl
 t34 := Tryz.underlying299
 a34 := Tryz.isAgg299
 z34 := Tryz.sizeOf299
 v34 := Tryz.zeroValue299
 i34 := by kernel_rfl
 c34 := by kernel_rfl
 t36 := Tryz.underlying195
 a36 := Tryz.isAgg195
 z36 := Tryz.sizeOf195
 v36 := Tryz.zeroValue195
 i36 := by kernel_rfl
 t37 := Tryz.underlying301
 a37 := Tryz.isAgg301
 z37 := Tryz.sizeOf301
 v37 := Tryz.zeroValue301
 i37 := by kernel_rfl
 t39 := Tryz.underlying302
 a39 := Tryz.isAgg302
 z39 := Tryz.sizeOf302
 v39 := Tryz.zeroValue302
 i39 := by kernel_rfl
 t44 := Tryz.underlying316
 a44 := Tryz.isAgg316
 z44 := Tryz.sizeOf316
 v44 := Tryz.zeroValue316
 i44 := by kernel_rfl
 t47 := Tryz.underlying319
 a47 := Tryz.isAgg319
 z47 := Tryz.sizeOf319
 v47 := Tryz.zeroValue319
 i47 := by kernel_rfl
 t48 := Tryz.underlying325
 a48 := Tryz.isAgg325
 z48 := Tryz.sizeOf325
 v48 := Tryz.zeroValue325
 i48 := by kernel_rfl
 t50 := Tryz.underlying327
 a50 := Tryz.isAgg327
 z50 := Tryz.sizeOf327
 v50 := Tryz.zeroValue327
 i50 := by kernel_rfl
 t52 := Tryz.underlying328
 a52 := Tryz.isAgg328
 z52 := Tryz.sizeOf328
 v52 := Tryz.zeroValue328
 i52 := by kernel_rfl
 t55 := Tryz.underlying331
 a55 := Tryz.isAgg331
 z55 := Tryz.sizeOf331
 v55 := Tryz.zeroValue331
 i55 := by kernel_rfl
 t59 := Tryz.underlying337
 a59 := Tryz.isAgg337
 z59 := Tryz.sizeOf337
 v59 := Tryz.zeroValue337
 i59 := by kernel_rfl
 t60 := Tryz.underlying224
 a60 := Tryz.isAgg224
 z60 := Tryz.sizeOf224
 v60 := Tryz.zeroValue224
 i60 := by kernel_rfl
 t61 := Tryz.underlying338
 a61 := Tryz.isAgg338
 z61 := Tryz.sizeOf338
 t65 := Tryz.underlying341
 a65 := Tryz.isAgg341
 z65 := Tryz.sizeOf341
 v65 := Tryz.zeroValue341
 i65 := by kernel_rfl
 t66 := Tryz.underlying342
 a66 := Tryz.isAgg342
 z66 := Tryz.sizeOf342
 v66 := Tryz.zeroValue342
 i66 := by kernel_rfl
 t67 := Tryz.underlying215
 a67 := Tryz.isAgg215
 z67 := Tryz.sizeOf215
 v67 := Tryz.zeroValue215
 i67 := by kernel_rfl
 g0 := by kernel_rfl
 m0 := by kernel_rfl
 g1 := by kernel_rfl
 m1 := by kernel_rfl
 g2 := by kernel_rfl
 m2 := by kernel_rfl
 g3 := by kernel_rfl
 m3 := by kernel_rfl
 g4 := by kernel_rfl
 m4 := by kernel_rfl }
open Go.RowKit in
/-- strconv.ParseUint(s, 10, 32), AT EVERY STRING THAT SPELLS A uint32 ('Lib.parseUintB 32 s.data.toList = .ok u'): u, AND NO ERROR. (LAID: no walk: one application.) -/
theorem Tryz.strconv_ParseUint_10_at32_ok (s : ByteArray) (hmax : s.size ≤ 9223372036854775806) (u : Nat) (h : Lib.parseUintB 32 s.data.toList = .ok u) (w : World) :
   Calls Tryz.prog 156 #[.string s, .int .i64 10, .int .i64 32] w fun e w' => e = .returned (.tuple #[.int .u64 u, .nilIface]) ∧ (w' = w ∨ w' = Lib.bytesWorld w 5 s) := Any.strconv_ParseUint_10_at32_ok Tryz.laysPu14 s hmax u h w
def Tryz.lays212_ren : Go.Shelf.Ren := ⟨fun | 212 => 139 | 263 => 185 | 264 => 186 | n => n, fun | 46 => 195 | 51 => 224 | 146 => 264 | 53 => 229 | 148 => 266 | n => n, fun | n => n⟩
theorem Tryz.lays212 : Go.Proofs.Lays.n212 Tryz.prog Tryz.lays212_ren := {
 mixed := by kernel_rfl
 f212 := Tryz.func139.trans (congrArg some (by kernel_rfl))
 f263 := Tryz.func185.trans (congrArg some (by kernel_rfl))
 f264 := Tryz.func186.trans (congrArg some (by kernel_rfl))
 t46 := Tryz.underlying195
 a46 := Tryz.isAgg195
 z46 := Tryz.sizeOf195
 v46 := Tryz.zeroValue195
 t51 := Tryz.underlying224
 a51 := Tryz.isAgg224
 z51 := Tryz.sizeOf224
 v51 := Tryz.zeroValue224
 t53 := Tryz.underlying229
 a53 := Tryz.isAgg229
 z53 := Tryz.sizeOf229
 v53 := Tryz.zeroValue229
 t146 := Tryz.underlying264
 a146 := Tryz.isAgg264
 z146 := Tryz.sizeOf264
 v146 := Tryz.zeroValue264
 t148 := Tryz.underlying266
 a148 := Tryz.isAgg266
 z148 := Tryz.sizeOf266
 v148 := Tryz.zeroValue266 }
open Go.RowKit Go.Lib in
/-- math/bits.Mul: "Mul returns the full-width product of x and y": on a machine of 64 bits: Mul64's. (LAID: no walk: one application.) -/
theorem Tryz.bits_Mul (x y : Nat) (hx : x < 18446744073709551616) (hy : y < 18446744073709551616) (w : World) :
   Calls Tryz.prog 139 #[.int .u64 x, .int .u64 y] w fun e w' => e = .returned (.tuple #[.int .u64 ((x * y / 18446744073709551616 : Nat) : Int), .int .u64 ((x * y % 18446744073709551616 : Nat) : Int)]) ∧ w' = w := Any.bits_Mul Tryz.lays212 x y hx hy w
end Go.Proofs
namespace Go.Ax.Bg
open Go.Ax.Tb (zBk)
def dg (c : UInt8) : Bool := decide (48 ≤ c.toNat ∧ c.toNat < 58)
theorem dg_iff {c : UInt8} : dg c = true ↔ zBk c := by
 unfold dg zBk
 simp only [decide_eq_true_eq]
 constructor <;> intro h <;> exact ⟨by omega, by omega⟩
def trR (s : List UInt8) : List UInt8 := (s.reverse.dropWhile dg).reverse
def trL (s : List UInt8) : List UInt8 := s.dropWhile dg
theorem zGD {l m : List UInt8} (h : l.all dg = true) : (l ++ m).dropWhile dg = m.dropWhile dg := by
 induction l with
 | nil => rfl
 | cons x r ih =>
   simp only [List.all_cons, Bool.and_eq_true] at h
   rw [List.cons_append, List.dropWhile_cons_of_pos h.1, ih h.2]
theorem trR_of {s : List UInt8} {k : Nat} (hk : k ≤ s.length) (h : (s.drop k).all dg = true) (h2 : k = 0 ∨ dg (s.getD (k - 1) 0) = false) : trR s = s.take k := by
 unfold trR
 conv => lhs; rw [← List.take_append_drop k s]
 rw [List.reverse_append, zGD (by rw [List.all_reverse]; exact h)]
 rcases h2 with h2 | h2
 · subst h2; rfl
 · rcases Nat.eq_zero_or_pos k with q | q
   · subst q; rfl
   · have e : s.take k = s.take (k - 1) ++ [s.getD (k - 1) 0] := by
       have := zCi s 0 (k - 1) (by omega)
       rwa [show k - 1 + 1 = k by omega] at this
     rw [e, List.reverse_append, List.reverse_singleton, List.singleton_append, List.dropWhile_cons_of_neg (by rw [h2]; decide)]
     simp
theorem trL_of {s : List UInt8} {k : Nat} (h : (s.take k).all dg = true) (h2 : s.length ≤ k ∨ dg (s.getD k 0) = false) : trL s = s.drop k := by
 unfold trL
 conv => lhs; rw [← List.take_append_drop k s]
 rw [zGD h]
 rcases h2 with h2 | h2
 · rw [List.drop_of_length_le h2]; rfl
 · rcases Nat.lt_or_ge k s.length with q | q
   · rw [zDS s 0 k q, List.dropWhile_cons_of_neg (by rw [h2]; decide)]
   · rw [List.drop_of_length_le q]; rfl
theorem zNb {l : List UInt8} : l.dropWhile dg = [] ↔ l.all dg = true := by
 induction l with
 | nil => simp
 | cons x r ih =>
   cases h : dg x with
   | true => rw [List.dropWhile_cons_of_pos h, ih]; simp [h]
   | false => rw [List.dropWhile_cons_of_neg (by rw [h]; decide)]; simp [h]
theorem dw_head {l : List UInt8} {x : UInt8} {r : List UInt8} (h : l.dropWhile dg = x :: r) : dg x = false := by
 induction l with
 | nil => cases h
 | cons y q ih =>
   cases hy : dg y with
   | true => rw [List.dropWhile_cons_of_pos hy] at h; exact ih h
   | false =>
     rw [List.dropWhile_cons_of_neg (by rw [hy]; decide)] at h
     cases h; exact hy
theorem trR_nil {s : List UInt8} : trL (trR s) = [] ↔ s.all dg = true := by
 unfold trL trR
 rw [zNb, List.all_reverse]
 constructor
 · intro h
   cases hq : s.reverse.dropWhile dg with
   | nil => rw [zNb, List.all_reverse] at hq; exact hq
   | cons x r =>
     rw [hq] at h
     have := dw_head hq
     simp [this] at h
 · intro h
   have : s.reverse.dropWhile dg = [] := by rw [zNb, List.all_reverse]; exact h
   rw [this]; rfl
/-- Up to nine digits as a number. -/
theorem parse_go {l : List UInt8} (hd : ∀ c ∈ l, zBk c) : ∀ (a : Nat), zBA a l ≤ 4294967295 → Lib.parseUintM 4294967295 a l = .ok (zBA a l) := by
 induction l with
 | nil => intro a _; rfl
 | cons c r ih =>
   intro a h
   have hc := hd c (by simp)
   unfold zBk at hc
   rw [zDO] at h ⊢
   have h1 : a * 10 + (c.toNat - 48) ≤ 4294967295 := by
     refine Nat.le_trans ?_ h
     rw [zF8 r]
     have : (a * 10 + (c.toNat - 48)) * 1 ≤ (a * 10 + (c.toNat - 48)) * 10 ^ r.length := Nat.mul_le_mul_left _ (Nat.one_le_pow _ _ (by decide))
     omega
   have i := ih (fun x hx => hd x (by simp [hx])) _ h
   unfold Lib.parseUintM
   rw [if_pos (by omega), if_neg (by omega), if_neg (by omega)]
   exact i
theorem zHl {l : List UInt8} (h0 : l ≠ []) (hd : ∀ c ∈ l, zBk c) (h9 : l.length ≤ 9) : Lib.parseUintB 32 l = .ok (zBA 0 l) ∧ zBA 0 l < 1000000000 := by
 have hlt := zI4 hd
 have hp : 10 ^ l.length ≤ 10 ^ 9 := Nat.pow_le_pow_right (by decide) h9
 have e9 : (10 : Nat) ^ 9 = 1000000000 := by decide
 rw [e9] at hp
 unfold Lib.parseUintB
 rw [if_neg h0]
 have e32 : (2 : Nat) ^ 32 - 1 = 4294967295 := by decide
 rw [e32]
 exact ⟨parse_go hd 0 (by omega), by omega⟩
theorem zKd : ∀ (ls : List (List UInt8)), Lib.join ls [] = ls.flatten
 | [] => rfl
 | x :: r => by
   rw [Lib.join_cons, List.flatten_cons]
   congr 1
   unfold Lib.joinTail
   congr 1
   simp
end Go.Ax.Bg
namespace Go.Proofs.YtnkealfaldjipaaGreatDoor
open Go.Ax Go.Ax.Bg Go.RowKit
set_option maxRecDepth 100000
set_option maxHeartbeats 4000000
theorem zLj (w : World) (q : Nat) (os : Array Obj) : Below w.heap.size w (Go.Sort.grow (w.drewN q) os) := by
 refine ⟨Z, Z, Z, ?_, fun k hk => ?_⟩
 · show w.heap.size ≤ (w.heap ++ os).size
   simp
 · show (w.heap ++ os)[k]? = w.heap[k]?
   rw [Array.getElem?_append_left hk]
theorem vals1 {w : World} {S : Nat → Prop} {σ : Nat → Option Blk} {a : AV} {vals : Array Value} (hv : VRs w S σ [a] vals) : ∃ x, vals = #[x] ∧ VR w S σ a x := by
 obtain ⟨h1, h2⟩ := hv
 have q := h2 0 (by simp)
 have hl : vals.toList.length = 1 := by simpa using h1
 match hq : vals.toList, hl with
 | [x], _ =>
   have e : vals = #[x] := by rw [← Array.toArray_toList (xs := vals), hq]
   subst e
   exact ⟨x, Z, by simpa using q⟩
theorem vals2 {w : World} {S : Nat → Prop} {σ : Nat → Option Blk} {a b : AV} {vals : Array Value} (hv : VRs w S σ [a, b] vals) : ∃ x y, vals = #[x, y] ∧ VR w S σ a x ∧ VR w S σ b y := by
 obtain ⟨h1, h2⟩ := hv
 have q := h2 0 (by simp)
 have q1 := h2 1 (by simp)
 have hl : vals.toList.length = 2 := by simpa using h1
 match hq : vals.toList, hl with
 | [x, y], _ =>
   have e : vals = #[x, y] := by rw [← Array.toArray_toList (xs := vals), hq]
   subst e
   exact ⟨x, y, Z, by simpa using q, by simpa using q1⟩
theorem vals3 {w : World} {S : Nat → Prop} {σ : Nat → Option Blk} {a b c : AV} {vals : Array Value} (hv : VRs w S σ [a, b, c] vals) : ∃ x y z, vals = #[x, y, z] ∧ VR w S σ a x ∧ VR w S σ b y ∧ VR w S σ c z := by
 obtain ⟨h1, h2⟩ := hv
 have q := h2 0 (by simp)
 have q1 := h2 1 (by simp)
 have q2 := h2 2 (by simp)
 have hl : vals.toList.length = 3 := by simpa using h1
 match hq : vals.toList, hl with
 | [x, y, z], _ =>
   have e : vals = #[x, y, z] := by rw [← Array.toArray_toList (xs := vals), hq]
   subst e
   exact ⟨x, y, z, Z, by simpa using q, by simpa using q1, by simpa using q2⟩
theorem itoa (n : Int) (h : -9223372036854775808 ≤ n ∧ n ≤ 9223372036854775807) : zZ Tryz.prog 216 [.int .i64 n] (.str (Lib.itoa n)) := by
 refine zZ.of_below ⟨Tryz.f216, Z, by kernel_rfl, Z⟩ Z Z (fun w S vals hG hS hv => ?_)
 obtain ⟨x, rfl, a⟩ := vals1 hv
 have hx : x = .int .i64 n := by cases a; rfl
 subst hx
 have hp : pinG w := hG
 refine (Tryz.strconv_Itoa n h.1 h.2 w hp.2.1).mono ?_
 rintro e w' ⟨rfl, k, os, rfl⟩
 exact ⟨_, Z, zLj w k os, .str _ _⟩
theorem itoaN (n : Nat) (h : n ≤ 9223372036854775807) : zZ Tryz.prog 216 [.int .i64 (n : Nat)] (.str (Lib.decDigits n)) := by
 have := itoa n ⟨by omega, by omega⟩
 rwa [Go.Ax.Tb.itoa_nat] at this
theorem mulB (a b : Nat) (ha : a < 18446744073709551616) (hb : b < 18446744073709551616) : zZ Tryz.prog 139 [.int .u64 (a : Nat), .int .u64 (b : Nat)] (.tup [.int .u64 (a * b / 18446744073709551616 : Nat), .int .u64 (a * b % 18446744073709551616 : Nat)]) := by
 refine zZ.of_below ⟨Tryz.f139, Z, by kernel_rfl, Z⟩ Z Z (fun w S vals hG hS hv => ?_)
 obtain ⟨x, y, rfl, p, q⟩ := vals2 hv
 have hx : x = .int .u64 (a : Nat) := by cases p; rfl
 have hy : y = .int .u64 (b : Nat) := by cases q; rfl
 subst hx hy
 refine (Tryz.bits_Mul a b ha hb w).mono ?_
 rintro e w' ⟨rfl, rfl⟩
 refine ⟨_, Z, Below.refl _ _, .tup _ _ _ Z (fun i hi => ?_)⟩
 match i, hi with
 | 0, _ => exact .int _ _ _
 | 1, _ => exact .int _ _ _
theorem parse32 (s : List UInt8) (u : Nat) (hl : s.length ≤ 1000) (h : Lib.parseUintB 32 s = .ok u) : zZ Tryz.prog 156 [.str s, .int .i64 10, .int .i64 32] (.tup [.int .u64 (u : Nat), .nilif]) := by
 refine zZ.of_below ⟨Tryz.f156, Z, by kernel_rfl, Z⟩ Z Z (fun w S vals hG hS hv => ?_)
 obtain ⟨x, y, z, rfl, p, q, r⟩ := vals3 hv
 have hx : x = zIA s := by cases p; rfl
 have hy : y = .int .i64 10 := by cases q; rfl
 have hz : z = .int .i64 32 := by cases r; rfl
 subst hx hy hz
 have hd : (⟨s.toArray⟩ : ByteArray).data.toList = s := by simp
 have hsz : (⟨s.toArray⟩ : ByteArray).size = s.length := by simp [ByteArray.size]
 refine (Tryz.strconv_ParseUint_10_at32_ok ⟨s.toArray⟩ (by rw [hsz]; omega) u (by rw [hd]; exact h) w).mono ?_
 rintro e w' ⟨rfl, hw⟩
 refine ⟨_, Z, ?_, .tup _ _ _ Z (fun i hi => ?_)⟩
 · rcases hw with rfl | rfl
   · exact Below.refl _ _
   · exact Lib.bytesWorld_below _ _ _
 · match i, hi with
   | 0, _ => exact .int _ _ _
   | 1, _ => exact .nilif _
theorem join (ls : List (List UInt8)) (sep : List UInt8) (hN : ls.length ≤ 140737488355328) (hj : (Lib.join ls sep).length ≤ 140737488355328) : zZ Tryz.prog 219 [.ro (.strs ls) 0 ls.length, .str sep] (.str (Lib.join ls sep)) := by
 refine zZ.of_below ⟨Tryz.f219, Z, by kernel_rfl, Z⟩ Z Z (fun w S vals hG hS hv => ?_)
 obtain ⟨x, y, rfl, a, b⟩ := vals2 hv
 have hy : y = zIA sep := by cases b; rfl
 subst hy
 have hsep : (⟨sep.toArray⟩ : ByteArray).data.toList = sep := by simp
 have hbyte : ∀ l : List UInt8, (⟨l.toArray⟩ : ByteArray).data.toList = l := fun l => by simp
 generalize hn : ls.length = n at a
 cases a with
 | ro0 _ _ _ ad cap =>
   have : ls = [] := List.length_eq_zero_iff.mp hn
   subst this
   refine (Tryz.strings_Join_none ad cap ⟨sep.toArray⟩ w).mono ?_
   rintro e w' ⟨rfl, rfl⟩
   exact ⟨_, Z, Below.refl _ _, .str _ []⟩
 | ro _ _ _ _ bk o cap val hSb hlen hc hvv h1' =>
   subst hn
   have hxs : (ls.map (fun l => (⟨l.toArray⟩ : ByteArray))).length = ls.length := by simp
   have c := Tryz.strings_Join bk o cap (ls.map (fun l => (⟨l.toArray⟩ : ByteArray))) ⟨sep.toArray⟩ w (fun j x hx => ?_) (hS _ hSb) (by simpa using hN) (by simpa using hlen) ?_
   · rw [hxs] at c
     refine c.mono ?_
     rintro e w' ⟨rfl, hb⟩
     have e2 : ((ls.map (fun l => (⟨l.toArray⟩ : ByteArray))).map (fun x => x.data.toList)) = ls := by rw [List.map_map]; exact (List.map_congr_left (fun x _ => rfl)).trans (List.map_id _)
     rw [e2, hsep]
     exact ⟨_, Z, hb, .str _ _⟩
   · simp only [List.getElem?_map, Option.map_eq_some_iff] at hx
     obtain ⟨l, hl, rfl⟩ := hx
     have hlt : j < ls.length := (List.getElem?_eq_some_iff.1 hl).1
     have q := hc j 0 hlt (by simp [Cells.sz])
     have v := hvv j 0 hlt (by simp [Cells.sz])
     simp only [Cells.sz, Nat.mul_one, Nat.add_zero] at q
     simp only [Cells.at, Nat.zero_add, List.getD, hl, Option.getD_some] at v
     rw [q]
     generalize val j 0 = z at v
     cases v; rfl
   · have e2 : ((ls.map (fun l => (⟨l.toArray⟩ : ByteArray))).map (fun x => x.data.toList)) = ls := by rw [List.map_map]; exact (List.map_congr_left (fun x _ => rfl)).trans (List.map_id _)
     rw [e2, hsep]; exact hj
end Go.Proofs.YtnkealfaldjipaaGreatDoor
namespace Go.Proofs.YtnkealfaldjipaaGreatDoor
open Go.Ax Go.Ax.Bg Go.RowKit
attribute [local irreducible] Ax zBR QOp zY
set_option maxRecDepth 100000
set_option maxHeartbeats 4000000
def zHR (s p : List UInt8) : Bool := decide (p.length ≤ s.length ∧ s.take p.length = p)
theorem zNo (s p : List UInt8) (hs : s.length ≤ 9223372036854775807) (hp : p.length ≤ 9223372036854775807) : zZ Tryz.prog 187 [.str s, .str p] (.bool (zHR s p)) := by
 refine zY.value0 (zK (P := Tryz.prog) (fn := Tryz.f187) Z Z (by kernel_rfl) Z (fun c hR hfix => ?_)) (fix := fun _ => False) (fun _ h => h) Z Z
 repeat (first | refine zB (zE rfl) ?_ | refine zB (zL rfl) ?_ | refine zD ?_ | refine zA ?_ | refine zR ?_ | refine zG rfl ?_ | refine zB (zDY rfl rfl) ?_ | refine zB (zCU rfl rfl) ?_)
 refine zAz Z Z (fun h0 => ?_) (fun h0 => ?_)
 · repeat (first | refine zB (zE rfl) ?_ | refine zB (zL rfl) ?_ | refine zD ?_ | refine zA ?_ | refine zAL rfl rfl ?_ | refine zAh ?_ | refine zB (zAM rfl rfl) ?_ | refine zB (zCU rfl rfl) ?_ | refine zB (zGE rfl rfl) ?_ | refine zB (zCl rfl rfl rfl rfl rfl rfl (by omega)) ?_)
   refine zO hR Z ?_
   show AV.bool (decide ((List.drop _ s).take _ = p)) = _
   unfold zHR
   congr 1
   rw [decide_eq_decide]
   simp only [Int.toNat_zero, List.drop_zero, Int.toNat_natCast, Nat.sub_zero]
   exact ⟨fun h => ⟨by omega, h⟩, fun h => h.2⟩
 · refine rn6 ?_
   refine zO hR Z ?_
   show AV.bool false = _
   unfold zHR
   rw [decide_eq_false]
   exact fun h => h0 (by omega)
theorem zLM (s p : List UInt8) (hs : s.length ≤ 9223372036854775807) (hp : p.length ≤ 9223372036854775807) : zZ Tryz.prog 143 [.str s, .str p] (.bool (zHR s p)) := by
 have hc := zNo s p hs hp
 refine zY.value0 (zK (P := Tryz.prog) (fn := Tryz.f143) Z Z (by kernel_rfl) Z (fun c hR hfix => ?_)) (fix := fun _ => False) (fun _ h => h) Z Z
 generalize zHR s p = b at *
 refine rn0 ?_
 refine zJ Z Z Z hc ?_
 refine rn0 ?_
 exact zO hR Z Z
/-- strings.Repeat("0", n), n small. -/
theorem repeat0 (n : Nat) (hn : n ≤ 60) : zZ Tryz.prog 217 [.str [48], .int .i64 (n : Nat)] (.str (List.replicate n 48)) := by
 refine zY.value0 (zK (P := Tryz.prog) (fn := Tryz.f217) Z Z (by kernel_rfl) Z (fun c hR hfix => ?_)) (fix := fun _ => False) (fun _ h => h) Z Z
 refine rn4 ?_
 refine zF Z (fun h0 => ?_) (fun h0 => ?_)
 · have : n = 0 := by omega
   subst this
   refine rn6 ?_
   exact zO hR Z Z
 refine rn4 ?_
 refine zF Z (fun h1 => ?_) (fun h1 => ?_)
 · have : n = 1 := by omega
   subst this
   refine rn6 ?_
   exact zO hR Z Z
 refine rn6 ?_
 have hm := mulB 1 n (by omega) (by omega)
 rw [Nat.one_mul, Nat.div_eq_of_lt (by omega), Nat.mod_eq_of_lt (by omega)] at hm
 have p1 : zZ Tryz.prog 143 [.str (List.replicate 128 32), .str [48]] (.bool false) := zLM _ _ (by decide) (by decide)
 have p2 : zZ Tryz.prog 143 [.str (List.replicate 128 45), .str [48]] (.bool false) := zLM _ _ (by decide) (by decide)
 have p3 : zZ Tryz.prog 143 [.str (List.replicate 64 48), .str [48]] (.bool true) := zLM _ _ (by decide) (by decide)
 refine zB (zAb (m := 1) Z Z Z zBT (by decide)) ?_
 repeat (refine zB (zE rfl) ?_)
 refine zB (zAb (m := n) Z Z Z zBT (by omega)) ?_
 refine zJ Z Z Z hm ?_
 refine rn6 ?_
 refine zF Z (fun h => absurd h (by omega)) (fun h => ?_)
 refine rn1 ?_
 refine zB (zEm (m := n) Z Z Z (by omega)) ?_
 repeat (first | refine zB (zE rfl) ?_ | refine zB (zL rfl) ?_ | refine zD ?_ | refine zA ?_ | refine zR ?_ | refine zG rfl ?_ | refine zAn rfl ?_ | refine zr rfl ?_ | refine zb ?_ | refine zi ?_ | refine zB (zCD rfl rfl) ?_ | refine zB (zId rfl rfl) ?_ | refine zB (zCU rfl rfl) ?_ | refine zB (zFM rfl rfl rfl (by first | assumption | omega | simp)) ?_)
 refine zAz Z Z (fun h3 => ?_) (fun h3 => absurd (show (n : Int) ≤ 128 by omega) h3)
 refine rn2 ?_
 refine zJ Z Z Z p1 ?_
 repeat (first | refine zB (zE rfl) ?_ | refine zB (zL rfl) ?_ | refine zD ?_ | refine zA ?_ | refine zR ?_ | refine zG rfl ?_ | refine zr rfl ?_ | refine zB (zId rfl rfl) ?_ | refine zB (zAM rfl rfl) ?_)
 refine zAz Z Z (fun h4 => ?_) (fun h4 => absurd (show (n : Int) ≤ 128 by omega) h4)
 refine rn2 ?_
 refine zJ Z Z Z p2 ?_
 repeat (first | refine zB (zE rfl) ?_ | refine zB (zL rfl) ?_ | refine zD ?_ | refine zA ?_ | refine zR ?_ | refine zG rfl ?_ | refine zr rfl ?_ | refine zB (zId rfl rfl) ?_ | refine zB (zAM rfl rfl) ?_)
 refine zAz Z Z (fun h5 => ?_) (fun h5 => absurd (show (n : Int) ≤ 64 by omega) h5)
 refine rn2 ?_
 refine zJ Z Z Z p3 ?_
 refine rn5 ?_
 refine zB (zCl Z Z Z Z Z Z (by show (0 : Int) ≤ 0 ∧ (0 : Int) ≤ (n : Nat) ∧ ((n : Nat) : Int) ≤ ((64 : Nat) : Int); omega)) ?_
 refine rn6 ?_
 refine zO hR Z ?_
 show AV.str ((List.drop 0 (List.replicate 64 48)).take (n - 0)) = _
 rw [List.drop_zero, Nat.sub_zero, List.take_replicate, Nat.min_eq_left (by omega)]
/-- strings.asciiSet: the digits. -/
def zD6 (k : Nat) : List AV := (List.range 256).map fun j => AV.bool (decide (48 ≤ j ∧ j < 48 + k))
theorem zCT (k : Nat) : (zD6 k).length = 256 := by unfold zD6; simp
theorem zIv (k j : Nat) (hj : j < 256) : (zD6 k)[j]? = some (AV.bool (decide (48 ≤ j ∧ j < 48 + k))) := by
 unfold zD6
 rw [List.getElem?_map, List.getElem?_range hj]; rfl
theorem setL_set (k : Nat) (hk : k < 10) : (zD6 k).set (48 + k) (.bool true) = zD6 (k + 1) := by
 apply List.ext_getElem?
 intro i
 rcases Nat.lt_or_ge i 256 with hi | hi
 · rw [zIv (k + 1) i hi]
   by_cases h : i = 48 + k
   · subst h
     rw [List.getElem?_set_self (by rw [zCT]; exact hi)]
     congr 2
     exact (decide_eq_true (by omega)).symm
   · rw [List.getElem?_set_ne (Ne.symm h), zIv k i hi]
     congr 2
     rw [decide_eq_decide]; omega
 · rw [List.getElem?_eq_none (by rw [List.length_set, zCT]; exact hi), List.getElem?_eq_none (by rw [zCT]; exact hi)]
def digS : List UInt8 := [48, 49, 50, 51, 52, 53, 54, 55, 56, 57]
theorem zN5 (k : Nat) (hk : k < 10) : (digS.getD k 0).toNat = 48 + k := by
 have : k = 0 ∨ k = 1 ∨ k = 2 ∨ k = 3 ∨ k = 4 ∨ k = 5 ∨ k = 6 ∨ k = 7 ∨ k = 8 ∨ k = 9 := by omega
 rcases this with rfl | rfl | rfl | rfl | rfl | rfl | rfl | rfl | rfl | rfl <;> rfl
theorem box_all (l : List AV) : (List.range (Cells.box l).sz).map ((Cells.box l).at 0) = l := by
 apply List.ext_getElem?
 intro i
 rcases Nat.lt_or_ge i l.length with h | h
 · rw [List.getElem?_map, List.getElem?_range (by exact h)]
   show some (l.getD i .any) = _
   rw [List.getD, List.getElem?_eq_getElem h]; rfl
 · rw [List.getElem?_eq_none (by simpa [Cells.sz] using h), List.getElem?_eq_none h]
theorem set_ok : zZ Tryz.prog 197 [.str digS] (.tup [.agg (zD6 10), .bool true]) := by
 refine zY.value0 (zK (P := Tryz.prog) (fn := Tryz.f197) Z Z (by kernel_rfl) Z (fun c hR hfix => ?_)) (fix := fun _ => False) (fun _ h => h) Z (by kernel_rfl)
 refine rn4 ?_
 refine zAW [some ⟨273, .box (zD6 0)⟩] (by kernel_rfl) ?_
 refine zt (ι := Nat) (fun k => [(0, .str digS), (2, .ptr 0 0 0), (4, .int .i64 (k : Nat))]) (fun k => [some ⟨273, .box (zD6 k)⟩]) (fun k => k ≤ 10) (fun k => 10 - k) 0 ⟨⟨Z, Z, Z, trivial⟩, Z, by omega⟩ ?_
 rintro k hk
 have hdl : digS.length = 10 := rfl
 refine rn6 ?_
 refine zF Z (fun h1 => ?_) (fun h1 => ?_)
 · have hk2 : k < 10 := by omega
   repeat (first | refine zB (zE rfl) ?_ | refine zB (zL rfl) ?_ | refine zD ?_ | refine zA ?_ | refine zR ?_ | refine zG rfl ?_ | refine zb ?_ | refine zi ?_ | refine zB (zDY rfl rfl) ?_ | refine zB (zFM rfl rfl rfl (by first | assumption | omega | simp)) ?_)
   refine zF Z (fun h2 => absurd h2 (by rw [Int.toNat_natCast, zN5 k hk2]; omega)) (fun h2 => ?_)
   refine rn1 ?_
   refine zH 18 (.int .u8 (48 + k : Nat)) Z (AEq.of_eq (by rw [Int.toNat_natCast, zN5 k hk2])) ?_
   refine zB (zKx (m := ((48 + k : Nat) : Int)) (jx := 48 + k) Z Z Z Z (by rw [Int.toNat_natCast, Nat.zero_add]) (by omega)) ?_
   refine zAi Z Z Z Z Z (by rw [show (Cells.box (zD6 k)).sz = 256 from zCT k]; exact Nat.ble_eq.symm ▸ (by omega : 48 + k + 1 ≤ 256)) Z Nat.zero_lt_one ?_
   refine rn5 ?_
   refine zQ ⟨k + 1, by omega, by omega, ⟨Z, Z, Z, trivial⟩, ?_⟩
   show ([some ⟨_, .box ((zD6 k).set (48 + k) (.bool true))⟩] : zN) = _
   rw [setL_set k hk2]
 · have hke : k = 10 := by omega
   subst hke
   refine rn5 ?_
   refine zB (zGy (ob := ⟨273, .box (zD6 10)⟩) Z Z Z (zCT 10).symm Z Z (box_all _) Nat.zero_lt_one) ?_
   refine zU (c' := .box (zD6 10)) Z Z (by rw [show (Cells.box (zD6 10)).sz = 256 from zCT 10]; rfl) Z (by rw [show (Cells.box (zD6 10)).sz = 256 from zCT 10]; exact zCT 10) Nat.zero_lt_one Z Z (fun i' j' hi' hj' => ?_) ?_
   · rw [if_pos (Nat.lt_one_iff.1 hi')]; rfl
   refine rn0 ?_
   exact zO hR Z Z
theorem zIW (ch : UInt8) : zZ Tryz.prog 225 [.rp (.box (zD6 10)) 0 0, .int .u8 (ch.toNat : Nat)] (.bool (dg ch)) := by
 have hlt := ch.toNat_lt
 have hat := zIv 10 ch.toNat (by simpa using hlt)
 refine zY.value0 (zK (P := Tryz.prog) (fn := Tryz.f225) Z Z (by kernel_rfl) Z (fun c hR hfix => ?_)) (fix := fun _ => False) (fun _ h => h) Z Z
 repeat (first | refine zB (zE rfl) ?_ | refine zB (zL rfl) ?_ | refine zD ?_ | refine zA ?_ | refine zR ?_ | refine zG rfl ?_ | refine zB (zKF rfl) ?_)
 refine zB (zLq (m := ((ch.toNat : Nat) : Int)) (jx := ch.toNat) Z Z Z Z (by rw [Int.toNat_natCast, Nat.zero_add]) (by omega)) ?_
 refine zB (zAV Z Z Z hat) ?_
 refine rn0 ?_
 exact zO hR Z Z
theorem right_ok (s : List UInt8) (hs : s.length ≤ 9223372036854775807) : zZ Tryz.prog 199 [.str s, .rp (.box (zD6 10)) 0 0] (.str (trR s)) := by
 refine zY.value0 (zK (P := Tryz.prog) (fn := Tryz.f199) Z Z (by kernel_rfl) Z (fun c hR hfix => ?_)) (fix := fun _ => False) (fun _ h => h) Z Z
 refine rn1 ?_
 refine zt (ι := Nat) (fun k => [(0, .str (s.take k)), (1, .rp (.box (zD6 10)) 0 0)]) (fun _ => []) (fun k => k ≤ s.length ∧ (s.drop k).all dg = true) (fun k => k) s.length ⟨⟨by rw [List.take_length]; rfl, Z, trivial⟩, Z, Nat.le_refl _, by simp⟩ ?_
 rintro k ⟨hk, hd⟩
 have hlen : (s.take k).length = k := by simp; omega
 have hof := trR_of hk hd
 refine rn6 ?_
 refine zF Z (fun h1 => ?_) (fun h1 => ?_)
 · have hk1 : 0 < k := by omega
   have hg : (s.take k).getD (k - 1) 0 = s.getD (k - 1) 0 := by
     simp only [List.getD, List.getElem?_take, show k - 1 < k by omega, if_true]
   have e1 : ((k : Int) - 1).toNat = k - 1 := by omega
   have hc := zIW (s.getD (k - 1) 0)
   repeat (first | refine zB (zE rfl) ?_ | refine zA ?_ | refine zR ?_ | refine zG rfl ?_ | refine zb ?_ | refine zi ?_ | refine zB (zCU rfl rfl) ?_ | refine zB (zBc rfl rfl (by omega)) ?_ | refine zB (zFM rfl rfl rfl (by first | assumption | omega | simp)) ?_)
   refine zH 13 (.int .u8 ((s.getD (k - 1) 0).toNat : Nat)) Z (AEq.of_eq (by rw [hlen, e1, hg])) ?_
   refine zJ Z Z Z hc ?_
   refine rn5 ?_
   refine zFw Z (fun h2 => ?_) (fun h2 => ?_)
   · have h3 : dg (s.getD (k - 1) 0) = false := by simpa using h2
     repeat (first | refine zB (zE rfl) ?_ | refine zB (zL rfl) ?_ | refine zD ?_ | refine zA ?_ | refine zR ?_ | refine zG rfl ?_ | refine zAg ?_ | refine zw ?_ | refine zv ?_ | refine zAD ?_ | refine zG5 rfl ?_ | refine zAh ?_)
     refine zO hR Z ?_
     rw [hof (.inr h3)]; rfl
   · have h3 : dg (s.getD (k - 1) 0) = true := by simpa using h2
     repeat (first | refine zB (zE rfl) ?_ | refine zA ?_ | refine zG rfl ?_ | refine zi ?_ | refine zB (zCU rfl rfl) ?_ | refine zB (zBc rfl rfl (by omega)) ?_)
     refine zB (zCl Z Z Z Z Z Z (by omega)) ?_
     refine rn5 ?_
     refine zQ ⟨k - 1, ⟨by omega, ?_⟩, by omega, ⟨?_, Z, trivial⟩, Z⟩
     · rw [zDS s 0 (k - 1) (by omega), show k - 1 + 1 = k by omega, List.all_cons, h3, hd]; rfl
     · show some (AV.str ((List.drop 0 (s.take k)).take ((((s.take k).length : Int) - 1).toNat - 0))) = _
       rw [List.drop_zero, hlen, e1, Nat.sub_zero, List.take_take, Nat.min_eq_left (by omega)]
 · have hk0 : k = 0 := by omega
   subst hk0
   refine rn5 ?_
   refine zO hR Z ?_
   rw [hof (.inl rfl)]; rfl
theorem left_ok (s : List UInt8) (hs : s.length ≤ 9223372036854775807) : zZ Tryz.prog 198 [.str s, .rp (.box (zD6 10)) 0 0] (.str (trL s)) := by
 refine zY.value0 (zK (P := Tryz.prog) (fn := Tryz.f198) Z Z (by kernel_rfl) Z (fun c hR hfix => ?_)) (fix := fun _ => False) (fun _ h => h) Z Z
 refine rn1 ?_
 refine zt (ι := Nat) (fun k => [(0, .str (s.drop k)), (1, .rp (.box (zD6 10)) 0 0)]) (fun _ => []) (fun k => k ≤ s.length ∧ (s.take k).all dg = true) (fun k => s.length - k) 0 ⟨⟨by rw [List.drop_zero]; rfl, Z, trivial⟩, Z, Nat.zero_le _, by simp⟩ ?_
 rintro k ⟨hk, hd⟩
 have hlen : (s.drop k).length = s.length - k := by simp
 have hof := trL_of hd
 refine rn6 ?_
 refine zF Z (fun h1 => ?_) (fun h1 => ?_)
 · have hk1 : k < s.length := by omega
   have hg : (s.drop k).getD 0 0 = s.getD k 0 := by simp [List.getD]
   have hc := zIW (s.getD k 0)
   repeat (first | refine zB (zE rfl) ?_ | refine zA ?_ | refine zR ?_ | refine zG rfl ?_ | refine zb ?_ | refine zi ?_ | refine zB (zFM rfl rfl rfl (by first | assumption | omega | simp)) ?_)
   refine zH 10 (.int .u8 ((s.getD k 0).toNat : Nat)) Z (AEq.of_eq (by rw [Int.toNat_zero, hg])) ?_
   refine zJ Z Z Z hc ?_
   refine rn5 ?_
   refine zFw Z (fun h2 => ?_) (fun h2 => ?_)
   · have h3 : dg (s.getD k 0) = false := by simpa using h2
     repeat (first | refine zB (zE rfl) ?_ | refine zB (zL rfl) ?_ | refine zD ?_ | refine zA ?_ | refine zR ?_ | refine zG rfl ?_ | refine zAg ?_ | refine zw ?_ | refine zv ?_ | refine zAD ?_ | refine zG5 rfl ?_ | refine zAh ?_)
     refine zO hR Z ?_
     rw [hof (.inr h3)]; rfl
   · have h3 : dg (s.getD k 0) = true := by simpa using h2
     refine rn1 ?_
     refine zB (zCl Z Z Z Z Z Z (by omega)) ?_
     refine rn5 ?_
     refine zQ ⟨k + 1, ⟨by omega, ?_⟩, by omega, ⟨?_, Z, trivial⟩, Z⟩
     · rw [zCi s 0 k hk1, List.all_append, hd]; simp only [List.all_cons, List.all_nil, h3, Bool.and_true]
     · show some (AV.str ((List.drop 1 (s.drop k)).take ((s.drop k).length - 1))) = _
       rw [List.drop_drop, List.take_of_length_le (by simp; omega)]
 · have hk0 : s.length ≤ k := by omega
   refine rn5 ?_
   refine zO hR Z ?_
   rw [hof (.inl hk0)]; rfl
theorem trim_ok (s : List UInt8) (hs : s.length ≤ 9223372036854775807) : zZ Tryz.prog 155 [.str s, .str digS] (.str (trL (trR s))) := by
 have h1 := set_ok
 have h2 := right_ok s hs
 have hle : (trR s).length ≤ s.length := by
   unfold trR
   rw [List.length_reverse]
   have := (List.dropWhile_sublist (p := dg) (l := s.reverse)).length_le
   simpa using this
 have h3 := left_ok (trR s) (by omega)
 refine zY.value0 (zK (P := Tryz.prog) (fn := Tryz.f155) Z Z (by kernel_rfl) Z (fun c hR hfix => ?_)) (fix := fun _ => False) (fun _ h => h) Z Z
 have hl := zCT 10
 refine rn6 ?_
 by_cases h0 : s = []
 · subst h0
   refine rn6 ?_
   exact zO hR Z Z
 rw [show decide (s = _) = false from decide_eq_false h0]
 refine rn6 ?_
 refine zJ Z Z Z h1 ?_
 refine rn4 ?_
 refine zU (c' := .box (zD6 10)) Z Z Z Z (zCT 10) Nat.zero_lt_one Z (zCT 10) (fun i' j' hi' hj' => ?_) ?_
 · rw [if_pos (Nat.lt_one_iff.1 hi')]; rfl
 refine rn5 ?_
 have hrl : ∀ (h : Nat) (o : AObj), ([some ⟨273, .box (zD6 10)⟩] : zN)[h]? = some (some o) → zAJ o.c := zIc (fun i j hi hj => by
   show noRef ((zD6 10).getD j .any) = true
   rw [List.getD, zIv 10 j (by have : j < (zD6 10).length := hj; rwa [zCT] at this)]; rfl)
 refine zS [some ⟨273, .box (zD6 10)⟩] Z ?_
 refine zHq rfl rfl rfl rfl h2 hrl ⟨trivial, fun o ho => by simp at ho; subst ho; exact Nat.zero_lt_one, trivial⟩ rfl rfl rfl ?_
 skip
 refine zHq rfl rfl rfl rfl h3 hrl ⟨trivial, fun o ho => by simp at ho; subst ho; exact Nat.zero_lt_one, trivial⟩ rfl rfl rfl ?_
 refine rn2 ?_
 exact zO hR Z Z
end Go.Proofs.YtnkealfaldjipaaGreatDoor
namespace Go.Proofs.YtnkealfaldjipaaGreatDoor
open Go.Ax Go.Ax.Bg Go.RowKit
open Go.Ax.Tb (zBk zDy zB0 zCY)
attribute [local irreducible] Ax zBR QOp zY
set_option maxRecDepth 100000
set_option maxHeartbeats 4000000
theorem zOJ {i : Nat} (h : i ≤ 9) : 10 ^ i ≤ 1000000000 := by
 have := Nat.pow_le_pow_right (show 0 < 10 by decide) h
 exact Nat.le_trans this (by decide)
theorem zIz (S : List UInt8) (hd : ∀ c ∈ S, zBk c) (hl : S.length ≤ 1000000) : zZ Tryz.prog 95 [.str S] (zj (zBA 0 S)) := by
 refine zY.value0 (zK (P := Tryz.prog) (fn := Tryz.f95) Z Z (by kernel_rfl) Z (fun c hR hfix => ?_)) (fix := fun _ => False) (fun _ h => h) Z Z
 refine rn0 ?_
 refine zAp 3 (zj 0) Z AEq.natNil ?_
 refine zb ?_
 refine zt (ι := Nat × List UInt8) (fun p => [(0, .str p.2), (3, zj p.1)]) (fun _ => []) (fun p => p.2.length ≤ S.length ∧ (∀ c ∈ p.2, zBk c) ∧ zBA p.1 p.2 = zBA 0 S ∧ p.1 < 10 ^ (S.length - p.2.length)) (fun p => p.2.length) (0, S) ⟨⟨Z, Z, trivial⟩, Z, Nat.le_refl _, hd, Z, by simp⟩ ?_
 rintro ⟨v, s⟩ ⟨h1, h2, h3, h4⟩
 simp only at *
 refine rn6 ?_
 refine zF Z (fun h5 => ?_) (fun h5 => ?_)
 · have hs0 : s ≠ [] := by rintro rfl; simp at h5
   obtain ⟨k, hk, hk1, hk9, hks⟩ : ∃ k : Nat, (if (9 : Int) < (s.length : Nat) then (9 : Int) else (s.length : Nat)) = (k : Int) ∧ 1 ≤ k ∧ k ≤ 9 ∧ k ≤ s.length := by
     have : 0 < s.length := List.length_pos_iff.2 hs0
     by_cases hz : (9 : Int) < (s.length : Nat)
     · exact ⟨9, by rw [if_pos hz]; rfl, by omega, by omega, by omega⟩
     · exact ⟨s.length, by rw [if_neg hz], by omega, by omega, Nat.le_refl _⟩
   have ht0 : s.take k ≠ [] := by
     intro e
     have := congrArg List.length e
     rw [List.length_take, Nat.min_eq_left hks] at this
     simp at this; omega
   have htl : (s.take k).length = k := by rw [List.length_take, Nat.min_eq_left hks]
   obtain ⟨hp, hplt⟩ := zHl ht0 (fun c hc => h2 c (List.mem_of_mem_take hc)) (by omega)
   have hp32 := parse32 (s.take k) _ (by omega) hp
   have hdv : zBA (v * 10 ^ k + zBA 0 (s.take k)) (s.drop k) = zBA 0 S := by
     rw [← h3]
     conv => rhs; rw [← List.take_append_drop k s]
     rw [zGN, zF8 (s.take k) v, htl]
   have hxlt := zI4 (l := s.take k) (fun c hc => h2 c (List.mem_of_mem_take hc))
   rw [htl] at hxlt
   have hvn : v * 10 ^ k + zBA 0 (s.take k) < 10 ^ (S.length - (s.drop k).length) := by
     rw [List.length_drop, show S.length - (s.length - k) = (S.length - s.length) + k by omega, Nat.pow_add]
     have : (v + 1) * 10 ^ k ≤ 10 ^ (S.length - s.length) * 10 ^ k := Nat.mul_le_mul_right _ h4
     rw [Nat.add_mul] at this
     omega
   obtain ⟨x, hx⟩ : ∃ x, zBA 0 (s.take k) = x := ⟨_, rfl⟩
   rw [hx] at hplt hp32 hdv hvn
   have hvl : (zX v).length ≤ S.length - s.length := zAs (Nat.lt_of_lt_of_le h4 (Nat.pow_le_pow_left (by decide) _))
   have hma := zPs (zX v) (10 ^ k) x (zAa v) (by omega) (by have := zOJ hk9; omega) (by omega)
   rw [zAI] at hma
   repeat (first | refine zB (zE rfl) ?_ | refine zB (zL rfl) ?_ | refine zD ?_ | refine zA ?_ | refine zR ?_ | refine zG rfl ?_ | refine zb ?_ | refine zi ?_ | refine zB (zCU rfl rfl) ?_ | refine zB (q_min rfl rfl) ?_ | refine zB (zCl rfl rfl rfl rfl rfl rfl (by omega)) ?_)
   rw [hk]
   refine zH 17 (.str (s.take k)) Z (AEq.of_eq (by
     show AV.str ((List.drop 0 s).take (k - 0)) = _
     rw [List.drop_zero, Nat.sub_zero])) ?_
   refine zJ Z Z Z hp32 ?_
   refine rn2 ?_
   refine zt (ι := Nat) (fun i => [(0, .str s), (3, zj v), (4, .int .i64 (k : Nat)), (5, .int .u64 (x : Nat)), (7, .int .u32 (10 ^ i : Nat)), (21, .int .i64 (k : Nat)), (22, .int .i64 (i : Nat))]) (fun _ => []) (fun i => i ≤ k) (fun i => k - i) 0 ⟨⟨Z, Z, Z, Z, Z, Z, Z, trivial⟩, Z, Nat.zero_le _⟩ ?_
   rintro i hi
   refine rn4 ?_
   refine zF Z (fun h6 => ?_) (fun h6 => ?_)
   · have hpw := zOJ (show i + 1 ≤ 9 by omega)
     rw [Nat.pow_succ] at hpw
     refine rn1 ?_
     refine zB (zIN (m := 10 ^ i) (n := 10) Z Z zEk (by omega)) ?_
     refine rn5 ?_
     exact zQ ⟨i + 1, by omega, by omega, ⟨Z, Z, Z, Z, Z, Z, Z, trivial⟩, Z⟩
   · have hie : i = k := by omega
     subst hie
     refine rn5 ?_
     refine zB (zAb (m := x) Z Z Z zEk (by omega)) ?_
     refine zJ Z Z Z hma ?_
     repeat (first | refine zB (zE rfl) ?_ | refine zB (zL rfl) ?_ | refine zD ?_ | refine zA ?_ | refine zG rfl ?_ | refine zc ?_ | refine zB (zCl rfl rfl rfl rfl rfl rfl (by omega)) ?_)
     refine zQ ⟨(v * 10 ^ i + x, s.drop i), ⟨by simp only [List.length_drop]; omega, fun c hc => h2 c (List.mem_of_mem_drop hc), hdv, hvn⟩, by simp only [List.length_drop]; omega, ⟨?_, Z, trivial⟩, Z⟩
     show some (AV.str ((List.drop i s).take (s.length - i))) = _
     rw [List.take_of_length_le (by simp)]
 · have hs0 : s = [] := by
     rcases s with _ | ⟨x, r⟩
     · rfl
     · exact absurd (by simp) h5
   subst hs0
   refine rn5 ?_
   refine zO hR Z ?_
   rw [← h3]; rfl
theorem zPV : zZ Tryz.prog 184 [zj 0] (.str (Lib.decDigits 0)) := by
 refine zY.value0 (zK (P := Tryz.prog) (fn := Tryz.f184) Z Z (by kernel_rfl) Z (fun c hR hfix => ?_)) (fix := fun _ => False) (fun _ h => h) Z Z
 have en : zj 0 = .ro (.ints .u32 []) 0 0 := by unfold zj; rw [zBv]; rfl
 rw [en]
 refine rn5 ?_
 refine zO hR Z ?_
 rw [Lib.decDigits_one (by decide)]; rfl
theorem zDb {n L : Nat} (h : (zX n).length ≤ L) (hL : 1 ≤ L) : (Lib.decDigits n).length ≤ 10 * L := by
 have h1 := zA2 (zAa n)
 rw [zAI] at h1
 have h2 : B ^ (zX n).length ≤ B ^ L := Nat.pow_le_pow_right (by decide) h
 have h3 : B ^ L ≤ (10 ^ 10) ^ L := Nat.pow_le_pow_left (by decide) L
 rw [← Nat.pow_mul] at h3
 exact zDC (by omega) (by omega)
theorem zIx (n : Nat) (h : (zX n).length ≤ 1000000) : zZ Tryz.prog 184 [zj n] (.str (Lib.decDigits n)) := by
 rcases Nat.eq_zero_or_pos n with h0 | h0
 · subst h0; exact zPV
 have hdl := zDb h (by decide)
 have hn0 : 0 < (zX n).length := zCQ.2 (by omega)
 refine zY.value0 (zK (P := Tryz.prog) (fn := Tryz.f184) Z Z (by kernel_rfl) Z (fun c hR hfix => ?_)) (fix := fun _ => False) (fun _ h => h) Z Z
 unfold zj
 refine rn4 ?_
 refine zF Z (fun q => absurd q (by omega)) (fun q => ?_)
 repeat (first | refine zB (zL rfl) ?_ | refine zD ?_ | refine zA ?_ | refine zR ?_ | refine zG rfl ?_ | refine zi ?_)
 refine zBH 3 ⟨9, .strs []⟩ Z Z ?_
 refine zb ?_
 refine zt (ι := Nat × List (List UInt8)) (fun p => [(0, zj p.1), (3, .sl 0 0 p.2.length)]) (fun p => [some ⟨9, .strs p.2⟩]) (fun p => (zX p.1).length ≤ 1000000 ∧ p.2.length ≤ p.2.reverse.flatten.length ∧ (if p.1 = 0 then Lib.decDigits n = p.2.reverse.flatten else Lib.decDigits n = Lib.decDigits p.1 ++ p.2.reverse.flatten)) (fun p => p.1) (n, [])
   ⟨⟨rfl, rfl, trivial⟩, rfl, h, by simp, by rw [if_neg (by simp only; omega)]; simp⟩ ?_
 rintro ⟨m, ps⟩ ⟨h1, h2, h3⟩
 simp only at *
 have hpos : 0 < (zX m).length ↔ m ≠ 0 := zCQ
 have hds := zIg (zX m) 1000000000 (zAa m) (by omega) (by decide)
 rw [zAI] at hds
 have hflen : ps.reverse.flatten.length ≤ 10000000 := by
   have e : ps.reverse.flatten.length ≤ (Lib.decDigits n).length := by
     split at h3
     · rw [h3]; exact Nat.le_refl _
     · rw [h3, List.length_append]; omega
   omega
 have en : zj m = .ro (.ints .u32 (zX m)) 0 (zX m).length := rfl
 rw [en]
 refine rn6 ?_
 refine zF Z (fun h4 => ?_) (fun h4 => ?_)
 · have hm0 : m ≠ 0 := hpos.1 (by omega)
   rw [if_neg hm0] at h3
   have hr : m % 1000000000 < 1000000000 := Nat.mod_lt _ (by decide)
   have hlt : m / 1000000000 < m := Nat.div_lt_self (by omega) (by decide)
   have hit := itoaN (m % 1000000000) (by omega)
   have hpos2 : 0 < (zX (m / 1000000000)).length ↔ m / 1000000000 ≠ 0 := zCQ
   have hlen2 := zFE hlt h1
   have hrl : (Lib.decDigits (m % 1000000000)).length ≤ 9 := zDC (by decide) (by have e9 : (10 : Nat) ^ 9 = 1000000000 := by decide
                                                                                 rw [e9]; exact hr)
   have hrp := repeat0 (9 - (Lib.decDigits (m % 1000000000)).length) (by omega)
   obtain ⟨t, ht0, htl, htp, htn⟩ : ∃ t : List UInt8, t ≠ [] ∧ t.length ≤ 9 ∧ (m / 1000000000 ≠ 0 → t = List.replicate (9 - (Lib.decDigits (m % 1000000000)).length) 48 ++ Lib.decDigits (m % 1000000000)) ∧ (m / 1000000000 = 0 → t = Lib.decDigits (m % 1000000000)) := by
     by_cases z : m / 1000000000 = 0
     · exact ⟨_, zCY _, hrl, fun h => absurd z h, fun _ => rfl⟩
     · refine ⟨_, ?_, ?_, fun _ => rfl, fun h => absurd h z⟩
       · simp [zCY]
       · simp; omega
   have hsplit : m / 1000000000 ≠ 0 → Lib.decDigits m = Lib.decDigits (m / 1000000000) ++ t := fun z => by
     have e9 : (10 : Nat) ^ 9 = 1000000000 := by decide
     have hs := zKv (n := m) (k := 9) (by decide) (by rw [e9]; omega)
     rw [e9] at hs
     rw [hs, htp z]; rfl
   have hone : m / 1000000000 = 0 → Lib.decDigits m = t := fun z => by
     rw [htn z]
     congr 1
     have := Nat.div_add_mod m 1000000000
     omega
   have hnew : (if m / 1000000000 = 0 then Lib.decDigits n = (ps ++ [t]).reverse.flatten else Lib.decDigits n = Lib.decDigits (m / 1000000000) ++ (ps ++ [t]).reverse.flatten) := by
     rw [List.reverse_append, List.reverse_singleton, List.singleton_append, List.flatten_cons]
     split
     · rename_i z; rw [h3, hone z]
     · rename_i z; rw [h3, hsplit z, List.append_assoc]
   obtain ⟨r, hrr⟩ : ∃ r, m % 1000000000 = r := ⟨_, rfl⟩
   obtain ⟨d, hdd⟩ : ∃ d, m / 1000000000 = d := ⟨_, rfl⟩
   simp only [hrr, hdd] at *
   refine rn1 ?_
   refine zJ Z Z Z hds ?_
   refine rn2 ?_
   refine zB (zEm (m := r) Z Z Z (by omega)) ?_
   refine zJ Z Z Z hit ?_
   have en2 : zj d = .ro (.ints .u32 (zX d)) 0 (zX d).length := rfl
   rw [en2]
   refine rn6 ?_
   apply zAP (H := [some ⟨9, .strs ps⟩]) [(0, zj d), (3, .sl 0 0 ps.length), (5, .str t)]
   · intro fin
     refine zF Z (fun q2 => ?_) (fun q2 => ?_)
     · have hd0 : d ≠ 0 := hpos2.1 (by omega)
       repeat (first | refine zB (zE rfl) ?_ | refine zG rfl ?_ | refine zB (zCU rfl rfl) ?_ | refine zB (zBc rfl rfl (by omega)) ?_)
       refine zH 25 (.int .i64 (9 - (Lib.decDigits r).length : Nat)) Z (AEq.of_eq (by congr 1; omega)) ?_
       refine zJ Z Z Z hrp ?_
       repeat (refine zB (zE rfl) ?_)
       refine zB (zEf Z Z (by simp; omega)) ?_
       repeat (first | refine zB (zL rfl) ?_ | refine zD ?_ | refine zA ?_)
       exact fin _ ⟨Z, Z, by rw [htp hd0]; rfl, trivial⟩
     · have hd0 : d = 0 := by
         rcases Nat.eq_zero_or_pos d with z | z
         · exact z
         · exact absurd (by have := hpos2.2 (by omega); omega) q2
       repeat (first | refine zA ?_ | refine zi ?_)
       exact fin _ ⟨Z, Z, by rw [htn hd0]; rfl, trivial⟩
   refine rn3 ?_
   refine zAS Z Z Z Z Z Z Z Z Z Z Z Z (Nat.le_refl 1) Z (by show (ps.length + 1) * 16 ≤ _ ∧ _; omega) (fun i j _ _ => rfl) (by rw [hfix]; exact fun h => h) ?_
   refine rn5 ?_
   refine zQ ⟨(d, ps ++ [t]), ⟨hlen2, ?_, hnew⟩, hlt, ⟨Z, ?_, trivial⟩, Z⟩
   · simp only [List.reverse_append, List.reverse_singleton, List.singleton_append, List.flatten_cons, List.length_append, List.length_singleton]
     have := List.length_pos_iff.2 ht0
     omega
   · show some (AV.sl 0 0 (ps.length + 1)) = _
     simp
 · have hm0 : m = 0 := by
     rcases Nat.eq_zero_or_pos m with q | q
     · exact q
     · exact absurd (by have := hpos.2 (by omega); omega) h4
   rw [if_pos hm0] at h3
   have hrv := zMx ps (by omega)
   have hjl : (Lib.join ps.reverse []).length ≤ 140737488355328 := by rw [zKd]; omega
   have hjn := join ps.reverse [] (by rw [List.length_reverse]; omega) hjl
   rw [zKd, ← h3, List.length_reverse] at hjn
   refine rn5 ?_
   refine zCV (fix := fun h => h < 1) Z Z Z hrv (fun h hh => hh) (fun h hh => hh) ?_
   rintro r H rfl
   refine rn0 ?_
   refine zDa 0 35 ps.length [] Z zKz Z (by show _ ≤ ps.reverse.length; simp) trivial ?_
   refine zJ Z Z Z hjn ?_
   refine rn0 ?_
   exact zO hR Z Z
end Go.Proofs.YtnkealfaldjipaaGreatDoor
namespace Go.Ax.Idx
def fct : Nat → Int
 | 0 => 1
 | n + 1 => (n + 1) * fct n
/-- The place of the first element with a property, or -1. -/
def idxF {α : Type} (p : α → Bool) : List α → Int
 | [] => -1
 | x :: r => if p x then 0 else if idxF p r < 0 then -1 else idxF p r + 1
theorem idxF_neg {α : Type} (p : α → Bool) (l : List α) (h : idxF p l < 0) : idxF p l = -1 := by
 cases l with
 | nil => rfl
 | cons x r =>
   simp only [idxF] at h ⊢
   by_cases h1 : p x = true
   · simp [h1] at h
   · by_cases h2 : idxF p r < 0
     · simp [h1, h2]
     · simp only [h1, h2, if_false, Bool.false_eq_true] at h
       omega
theorem idxF_take {α : Type} (p : α → Bool) (l : List α) (k : Nat) (h : (l.take k).any p = false) (hk : k ≤ l.length) : idxF p l = if idxF p (l.drop k) < 0 then -1 else idxF p (l.drop k) + k := by
 induction k generalizing l with
 | zero =>
   simp only [List.drop_zero]
   split
   · exact idxF_neg p l (by assumption)
   · omega
 | succ k ih => cases l with
   | nil => simp at hk
   | cons x r =>
     simp only [List.take_succ_cons, List.any_cons, Bool.or_eq_false_iff] at h
     have := ih r h.2 (by simpa using hk)
     simp only [idxF, h.1, List.drop_succ_cons, Bool.false_eq_true, if_false]
     rw [this]
     split <;> split <;> omega
theorem zLm {α : Type} (p : α → Bool) (l : List α) : decide (0 ≤ idxF p l) = l.any p := by
 induction l with
 | nil => rfl
 | cons x r ih =>
   simp only [idxF, List.any_cons]
   by_cases h1 : p x = true
   · simp [h1]
   · simp only [Bool.not_eq_true] at h1
     simp only [h1, Bool.false_eq_true, if_false, Bool.false_or]
     rw [← ih]
     by_cases h2 : idxF p r < 0
     · rw [if_pos h2]; simp; omega
     · rw [if_neg h2]; congr 1; simp; omega
theorem getD_set {l : List Int} {i j : Nat} {v : Int} (hi : i < l.length) : (l.set i v).getD j 0 = if j = i then v else l.getD j 0 := by
 by_cases h : j = i
 · subst h; simp [List.getD, hi]
 · simp only [List.getD, h, if_false]
   rw [List.getElem?_set_ne (fun e => h e.symm)]
/-- One less of kind i. -/
def less (l : List Int) (i : Nat) : List Int := l.set i (l.getD i 0 - 1)
theorem zB2 {l : List Int} {i : Nat} (hi : i < l.length) : (less l i).set i ((less l i).getD i 0 + 1) = l := by
 unfold less
 rw [getD_set hi, if_pos rfl, List.set_set]
 have : l.getD i 0 - 1 + 1 = l[i] := by rw [zDX 0 hi]; omega
 rw [this, List.set_getElem_self]
end Go.Ax.Idx
namespace Go.Ax.Cd
open Go.Ax.Idx
def eqp (v y : Int) : Bool := decide (v = y)
end Go.Ax.Cd
namespace Go.Ax.Cd
open Go.Ax.Idx
end Go.Ax.Cd
namespace Go.Ax.Cd
open Go.Ax.Idx
end Go.Ax.Cd
namespace Go.Proofs.YtnkealfaldjipaaGreatDoor
open Go.Ax Go.Ax.Idx Go.Ax.Cd
attribute [local irreducible] Ax zBR QOp zY
set_option maxRecDepth 100000
set_option maxHeartbeats 4000000
theorem indexI (l : List Int) (v : Int) (hlen : l.length ≤ 9223372036854775807) :
   zZ Tryz.prog 161 [.ro (.ints .i64 l) 0 l.length, .int .i64 v] (.int .i64 (idxF (eqp v) l)) := by
 refine zY.value0 (zK (P := Tryz.prog) (fn := Tryz.f161) Z Z (by kernel_rfl) Z (fun c hR hfix => ?_)) (fix := fun _ => False) (fun _ h => h) Z Z
 refine rn3 ?_
 refine zt (ι := Nat) (fun k => [(0, .ro (.ints .i64 l) 0 l.length), (1, .int .i64 v), (7, .int .i64 (l.length : Nat)), (8, .int .i64 (k : Nat))]) (fun _ => [])
   (fun k => k ≤ l.length ∧ (l.take k).any (eqp v) = false) (fun k => l.length - k) 0 ⟨⟨rfl, rfl, rfl, rfl, trivial⟩, rfl, Nat.zero_le _, rfl⟩ ?_
 intro k ⟨hk, hany⟩
 refine rn4 ?_
 refine zF Z (fun h => ?_) (fun h => ?_)
 · have hk' : k < l.length := by omega
   have hanys := zFD (eqp v) l 0 k hk'
   refine rn6 ?_
   refine zF Z (fun h2 => ?_) (fun h2 => ?_)
   · refine rn6 ?_
     refine zO hR Z ?_
     have := idxF_take (eqp v) l k hany hk
     rw [zDS l 0 k hk'] at this
     have h3 : eqp v (l.getD k 0) = true := by simpa [eqp] using h2
     simp only [idxF, h3, if_true] at this
     rw [this]; simp [zDP]
   · refine rn5 ?_
     have h3 : eqp v (l.getD k 0) = false := by simpa [eqp] using h2
     refine zQ ⟨k + 1, ⟨by omega, by rw [hanys, hany, h3]; rfl⟩, by omega, ⟨Z, Z, Z, Z, trivial⟩, Z⟩
 · have hk' : k = l.length := by omega
   subst hk'
   refine rn5 ?_
   refine zO hR Z ?_
   have := idxF_take (eqp v) l l.length hany hk
   rw [List.drop_length] at this
   rw [this]; rfl
end Go.Proofs.YtnkealfaldjipaaGreatDoor
namespace Go.Ax.Bg
open Go.Ax.Tb (zBk)
def zE9 (s : List UInt8) : Bool := decide (s ≠ []) && s.all dg && (decide (s.getD 0 0 ≠ 48) || decide (s.length = 1))
theorem zDp {s : List UInt8} : zE9 s = true ↔ zG0 s := by
 unfold zE9 zG0
 simp only [Bool.and_eq_true, Bool.or_eq_true, decide_eq_true_eq, List.all_eq_true, dg_iff]
 constructor
 · rintro ⟨⟨h1, h2⟩, h3⟩; exact ⟨h1, h2, h3⟩
 · rintro ⟨h1, h2, h3⟩; exact ⟨⟨h1, h2⟩, h3⟩
theorem zN3 {s : List UInt8} (h : zG0 s) {k : Nat} (hl : s.length ≤ k) : (zX (zBA 0 s)).length ≤ k := by
 refine zAs (Nat.lt_of_lt_of_le (zI4 h.2.1) ?_)
 exact Nat.le_trans (Nat.pow_le_pow_right (by decide) hl) (Nat.pow_le_pow_left (by decide) k)
/-- Texts that are not too long spell numbers below this one. -/
def powT : Nat → Nat
 | 0 => 1
 | k + 1 => 10 * powT k
theorem zN6 : ∀ k, powT k = 10 ^ k
 | 0 => rfl
 | k + 1 => by rw [powT, zN6 k, Nat.pow_succ, Nat.mul_comm]
def TB : Nat := powT 2000
theorem TB_eq : TB = 10 ^ 2000 := zN6 2000
theorem TB_len {n : Nat} (h : n < TB) : (Lib.decDigits n).length ≤ 2000 := by
 rw [TB_eq] at h
 revert h
 generalize hk : 2000 = k
 intro h
 exact zDC (by omega) h
theorem lt_big {n k : Nat} (h : n < 10 ^ k) (hk : k ≤ 2000) : n < TB := by
 rw [TB_eq]
 revert hk
 generalize 2000 = j
 intro hk
 exact Nat.lt_of_lt_of_le h (Nat.pow_le_pow_right (by decide) hk)
theorem zHX {m n j k : Nat} (hm : m < 10 ^ j) (hn : n < 10 ^ k) : m * n < 10 ^ (j + k) := by
 rw [Nat.pow_add]; exact Nat.mul_lt_mul'' hm hn
theorem add_big {m n k : Nat} (hm : m < 10 ^ k) (hn : n < 10 ^ k) : m + n < 10 ^ (k + 1) := by
 rw [Nat.pow_succ]; omega
/-- Choices. -/
def ch : Nat → Nat → Nat
 | _, 0 => 1
 | 0, _ + 1 => 0
 | n + 1, k + 1 => ch n k + ch n (k + 1)
end Go.Ax.Bg
namespace Go.Proofs.YtnkealfaldjipaaGreatDoor
open Go.Ax Go.Ax.Bg Go.RowKit
open Go.Ax.Tb (zBk zDy zB0 zCY)
attribute [local irreducible] Ax zBR QOp zY
set_option maxRecDepth 100000
set_option maxHeartbeats 4000000
theorem zKP (s : List UInt8) (hs : s.length ≤ 9223372036854775807) : zZ Tryz.prog 94 [.str s] (.bool (zE9 s)) := by
 have ht := trim_ok s hs
 have hn := trR_nil (s := s)
 have hc : zE9 s = (decide (s ≠ []) && s.all dg && (decide (s.getD 0 0 ≠ 48) || decide (s.length = 1))) := rfl
 refine zY.value0 (zK (P := Tryz.prog) (fn := Tryz.f94) Z Z (by kernel_rfl) Z (fun c hR hfix => ?_)) (fix := fun _ => False) (fun _ h => h) Z Z
 generalize trL (trR s) = u at *
 generalize zE9 s = b at *
 by_cases h0 : s = []
 · subst h0
   repeat (first | refine zB (zE rfl) ?_ | refine zB (zL rfl) ?_ | refine zD ?_ | refine zA ?_ | refine zR ?_ | refine zG rfl ?_ | refine zCX rfl rfl ?_ | refine zAv rfl rfl rfl ?_ | refine zAh ?_ | refine zB (zAM rfl rfl) ?_ | refine zB (zHb rfl rfl) ?_)
   refine zO hR Z ?_
   rw [hc]; rfl
 have hlen : 0 < s.length := List.length_pos_iff.2 h0
 repeat (first | refine zB (zE rfl) ?_ | refine zB (zL rfl) ?_ | refine zD ?_ | refine zA ?_ | refine zR ?_ | refine zG rfl ?_ | refine zB (zHb rfl rfl) ?_)
 refine zAz Z Z (fun h1 => ?_) (fun h1 => absurd h0 h1)
 refine rn2 ?_
 refine zJ Z Z Z ht ?_
 refine rn6 ?_
 refine zAz Z Z (fun h2 => ?_) (fun h2 => ?_)
 · have ha : s.all dg = true := hn.1 h2
   rw [decide_eq_true h0, ha, Bool.true_and, Bool.true_and] at hc
   repeat (first | refine zB (zE rfl) ?_ | refine zAL rfl rfl ?_ | refine zB (zEc rfl rfl) ?_ | refine zB (zFM rfl rfl rfl (by first | assumption | omega | simp)) ?_)
   refine zAz Z Z (fun h3 => ?_) (fun h3 => ?_)
   · have h4 : decide (s.getD 0 0 ≠ 48) = true := decide_eq_true (fun e => h3 (by simp only [Int.toNat_zero]; rw [e]; rfl))
     rw [h4, Bool.true_or] at hc
     refine rn6 ?_
     refine zO hR Z ?_
     rw [hc]; rfl
   · have h5 : s.getD 0 0 = 48 := by
       simp only [Int.toNat_zero] at h3
       apply UInt8.toNat_inj.1
       have : ((s.getD 0 0).toNat : Int) = 48 := by omega
       show (s.getD 0 0).toNat = 48
       omega
     have h4 : decide (s.getD 0 0 ≠ 48) = false := decide_eq_false (fun e => e h5)
     rw [h4, Bool.false_or] at hc
     refine rn6 ?_
     refine zO hR Z ?_
     rw [hc]
     show AV.bool (decide ((s.length : Int) = 1)) = _
     congr 1
     rw [decide_eq_decide]; omega
 · have ha : s.all dg = false := by
     cases hq : s.all dg with
     | false => rfl
     | true => exact absurd (hn.2 hq) h2
   rw [ha, Bool.and_false, Bool.false_and] at hc
   repeat (first | refine zB (zL rfl) ?_ | refine zD ?_ | refine zA ?_ | refine zCX rfl rfl ?_ | refine zAv rfl rfl rfl ?_ | refine zAh ?_ | refine zB (zAM rfl rfl) ?_)
   refine zO hR Z ?_
   rw [hc]; rfl
def pairA (p : List UInt8 × Int) : AV := .tup [.str p.1, .int .i64 p.2]
theorem zLW {a b k : Nat} (ha : (zX a).length ≤ k) (hb : (zX b).length ≤ k) : (zX (a * b)).length ≤ k + k := by
 have h1 := zA2 (zAa a)
 have h2 := zA2 (zAa b)
 rw [zAI] at h1 h2
 refine zAs ?_
 rw [Nat.pow_add]
 refine Nat.mul_lt_mul'' (Nat.lt_of_lt_of_le h1 (Nat.pow_le_pow_right (by decide) ha)) (Nat.lt_of_lt_of_le h2 (Nat.pow_le_pow_right (by decide) hb))
theorem len_add {a b k : Nat} (ha : (zX a).length ≤ k) (hb : (zX b).length ≤ k) : (zX (a + b)).length ≤ k + 1 := by
 have h1 := zA2 (zAa a)
 have h2 := zA2 (zAa b)
 rw [zAI] at h1 h2
 refine zAs ?_
 have h3 : B ^ (zX a).length ≤ B ^ k := Nat.pow_le_pow_right (by decide) ha
 have h4 : B ^ (zX b).length ≤ B ^ k := Nat.pow_le_pow_right (by decide) hb
 rw [Nat.pow_succ]
 have : B ^ k * 2 ≤ B ^ k * B := Nat.mul_le_mul_left _ (by decide)
 omega
end Go.Proofs.YtnkealfaldjipaaGreatDoor
namespace Go.Ax.Rt
open Go.Ax.Bg
/-- The quotient of integers, its parts. -/
theorem zJc (n : Int) (d : Nat) (hd : d ≠ 0) : (Rat.divInt n d).num.natAbs = n.natAbs / Nat.gcd n.natAbs d ∧ (Rat.divInt n d).den = d / Nat.gcd n.natAbs d ∧ ((Rat.divInt n d).num < 0 ↔ n < 0) := by
 have e : Rat.divInt n d = Rat.normalize n d hd := by rw [Rat.divInt_ofNat, ← Rat.normalize_eq_mkRat]
 have hg : 0 < Nat.gcd n.natAbs d := Nat.gcd_pos_of_pos_right _ (by omega)
 have hdv : (Nat.gcd n.natAbs d : Int) ∣ n := by
   rw [Int.ofNat_dvd_left]; exact Nat.gcd_dvd_left _ _
 rw [e, Rat.num_normalize, Rat.den_normalize]
 obtain ⟨q, hq⟩ := hdv
 generalize Nat.gcd n.natAbs d = g at *
 refine ⟨?_, Z, ?_⟩
 · rw [hq, Int.mul_ediv_cancel_left _ (by omega), Int.natAbs_mul, Int.natAbs_natCast, Nat.mul_div_cancel_left _ hg]
 · rw [hq, Int.mul_ediv_cancel_left _ (by omega)]
   constructor
   · intro h; exact Int.mul_neg_of_pos_of_neg (by omega) h
   · intro h
     rcases Int.lt_or_le q 0 with z | z
     · exact z
     · exact absurd h (Int.not_lt.2 (Int.mul_nonneg (by omega) z))
theorem zJo (n d : Int) (hd : d ≠ 0) : (Rat.divInt n d).num.natAbs = n.natAbs / Nat.gcd n.natAbs d.natAbs ∧ (Rat.divInt n d).den = d.natAbs / Nat.gcd n.natAbs d.natAbs ∧ ((Rat.divInt n d).num < 0 ↔ n ≠ 0 ∧ ((n < 0 ∧ ¬ d < 0) ∨ (¬ n < 0 ∧ d < 0))) := by
 rcases Int.lt_or_le d 0 with h | h
 · obtain ⟨m, rfl⟩ : ∃ m : Nat, d = -(m : Int) := ⟨d.natAbs, by omega⟩
   have e : Rat.divInt n (-(m : Int)) = Rat.divInt (-n) m := Rat.divInt_neg' n m
   obtain ⟨h1, h2, h3⟩ := zJc (-n) m (by omega)
   rw [e]
   rw [Int.natAbs_neg] at h1 h2
   rw [Int.natAbs_neg, Int.natAbs_natCast]
   exact ⟨h1, h2, h3.trans (by omega)⟩
 · obtain ⟨m, rfl⟩ : ∃ m : Nat, d = (m : Int) := ⟨d.natAbs, by omega⟩
   obtain ⟨h1, h2, h3⟩ := zJc n m (by omega)
   rw [Int.natAbs_natCast]
   exact ⟨h1, h2, h3.trans (by omega)⟩
theorem zMP (p q : Rat) : Rat.divInt (p.num * q.den + q.num * p.den) ((p.den * q.den : Nat) : Int) = p + q := by
 rw [Rat.add_def', Rat.divInt_ofNat]
theorem zLk (p q : Rat) : Rat.divInt (p.num * q.num) ((p.den * q.den : Nat) : Int) = p * q := by
 rw [Rat.mul_def', Rat.divInt_ofNat]
def sgn (x : Int) : Int := if x < 0 then -1 else if x = 0 then 0 else 1
def cmpQ (p q : Rat) : Int := if p < q then -1 else if p = q then 0 else 1
theorem sgn_cmp (p q : Rat) : sgn (p.num * q.den - q.num * p.den) = cmpQ p q := by
 unfold sgn cmpQ
 have h1 : p < q ↔ p.num * q.den - q.num * p.den < 0 := by rw [Rat.lt_iff]; omega
 have h2 : p = q ↔ p.num * q.den - q.num * p.den = 0 := by rw [Rat.eq_iff_mul_eq_mul]; omega
 simp only [h1, h2]
def zEN (b : Bool) (n : Nat) : Int := if b then -(n : Int) else n
theorem zFX (b : Bool) (n : Nat) : (zEN b n).natAbs = n := by unfold zEN; split <;> omega
theorem zJa (b : Bool) (n : Nat) : decide (zEN b n < 0) = (b && decide (n ≠ 0)) := by
 unfold zEN
 cases b
 · simp <;> try omega
 · simp only [if_true, Bool.true_and]
   rw [decide_eq_decide]; omega
theorem zPc (x : Int) : zEN (decide (x < 0)) x.natAbs = x := by
 unfold zEN
 by_cases h : x < 0
 · simp [h]; omega
 · simp [h]; omega
end Go.Ax.Rt
namespace Go.Proofs.YtnkealfaldjipaaGreatDoor
open Go.Ax Go.Ax.Bg Go.Ax.Rt Go.RowKit
attribute [local irreducible] Ax zBR QOp zY zBK
set_option maxRecDepth 100000
set_option maxHeartbeats 4000000
def zA6 (x : Int) : AV := .agg [.bool (decide (x < 0)), zj x.natAbs]
theorem zE3 (b : Bool) (n : Nat) : zZ Tryz.prog 148 [.bool b, zj n] (zA6 (zEN b n)) := by
 have hp : 0 < (zX n).length ↔ n ≠ 0 := zCQ
 have hr : zA6 (zEN b n) = .agg [.bool (b && decide (n ≠ 0)), zj n] := by unfold zA6; rw [zFX, zJa]
 rw [hr]
 refine zY.value0 (zK (P := Tryz.prog) (fn := Tryz.f148) Z Z (by kernel_rfl) Z (fun c hR hfix => ?_)) (fix := fun _ => False) (fun _ h => h) Z Z
 unfold zj at hR ⊢
 cases b
 · repeat (first | refine zB (zE rfl) ?_ | refine zD ?_ | refine zA ?_ | refine zR ?_ | refine zG rfl ?_ | refine zAv rfl rfl rfl ?_ | refine zB (zAM rfl rfl) ?_ | refine zB (zAY rfl rfl rfl rfl rfl rfl) ?_ | refine zAe rfl rfl rfl ?_)
   refine zU (c' := .box [.bool false, .ro (.ints .u32 (zX n)) 0 (zX n).length]) Z Z Z Z Z Nat.zero_lt_one Z Z (fun i' j' hi' hj' => ?_) ?_
   · rw [if_pos (Nat.lt_one_iff.1 hi')]; rfl
   refine rn0 ?_
   exact zO hR Z Z
 · repeat (first | refine zB (zE rfl) ?_ | refine zD ?_ | refine zA ?_ | refine zR ?_ | refine zG rfl ?_ | refine zAL rfl rfl ?_ | refine zB (zIj rfl rfl) ?_ | refine zB (zAM rfl rfl) ?_ | refine zB (zAR rfl rfl rfl) ?_ | refine zB (zAY rfl rfl rfl rfl rfl rfl) ?_ | refine zAe rfl rfl rfl ?_)
   have e : decide (0 < ((zX n).length : Int)) = decide (n ≠ 0) := by rw [decide_eq_decide, ← hp]; omega
   refine zU (c' := .box [.bool (decide (n ≠ 0)), .ro (.ints .u32 (zX n)) 0 (zX n).length]) Z Z Z Z Z Nat.zero_lt_one Z Z (fun i' j' hi' hj' => ?_) ?_
   · rw [if_pos (Nat.lt_one_iff.1 hi'), ← e]; rfl
   refine rn0 ?_
   exact zO hR Z Z
theorem mul_sgn (x y : Int) : zEN (!(decide (x < 0) == decide (y < 0))) (x.natAbs * y.natAbs) = x * y := by
 have h : (x * y).natAbs = x.natAbs * y.natAbs := Int.natAbs_mul x y
 unfold zEN
 rcases Int.lt_trichotomy x 0 with hx | hx | hx <;> rcases Int.lt_trichotomy y 0 with hy | hy | hy
 · have := Int.mul_pos_of_neg_of_neg hx hy
   simp only [hx, hy]; simp; omega
 · subst hy; simp
 · have := Int.mul_neg_of_neg_of_pos hx hy
   simp only [hx, show ¬ y < 0 by omega]; simp; omega
 · subst hx; simp
 · subst hx; simp
 · subst hx; simp
 · have := Int.mul_neg_of_pos_of_neg hx hy
   simp only [hy, show ¬ x < 0 by omega]; simp; omega
 · subst hy; simp
 · have := Int.mul_pos hx hy
   simp only [show ¬ x < 0 by omega, show ¬ y < 0 by omega]; simp; omega
theorem zCx (x y : Int) (hx : (zX x.natAbs).length ≤ 1000000) (hy : (zX y.natAbs).length ≤ 1000000) : zZ Tryz.prog 144 [zA6 x, zA6 y] (zA6 (x * y)) := by
 have h1 := zLb x.natAbs y.natAbs (by omega) (by omega)
 have h2 := zE3 (!(decide (x < 0) == decide (y < 0))) (x.natAbs * y.natAbs)
 rw [mul_sgn] at h2
 refine zY.value0 (zK (P := Tryz.prog) (fn := Tryz.f144) Z Z (by kernel_rfl) Z (fun c hR hfix => ?_)) (fix := fun _ => False) (fun _ h => h) Z Z
 refine rn6 ?_
 refine zx (by kernel_rfl) ?_
 refine z8 (fuel := 1) [0, 1, 2, 3, 4, 5, 6, 7, 8, 9, 10] [(2, .ptr 0 0 0), (3, .ptr 1 0 0), (4, .ptr 2 0 0)] ⟨Z, Z, Z, trivial⟩ (by kernel_rfl) (by decide) Z Z ?_
 refine zM Z Z (zI Z Z Z Z Z Z) ?_
 refine zM Z Z (zP Z Z Z Z Z) ?_
 refine zM Z Z (zI Z Z Z Z Z Z) ?_
 refine zM Z Z (zP Z Z Z Z Z) ?_
 refine zM Z Z (zIM Z Z Z) ?_
 refine zM Z Z (zI Z Z Z Z Z Z) ?_
 refine zM Z Z (zP Z Z Z Z Z) ?_
 refine zM Z Z (zI Z Z Z Z Z Z) ?_
 refine zM Z Z (zP Z Z Z Z Z) ?_
 refine zAf Z Z Z Z Z h1 ?_
 refine zAf Z Z Z Z Z h2 ?_
 refine zAC ?_
 refine zW (is := [11]) (by kernel_rfl) (by simp) Z ⟨fun o ho => ?_, trivial⟩
 all_goals (cases ho)
 skip
 unfold zA6 zj
 refine zU (c' := .box [.bool (decide (x * y < 0)), .ro (.ints .u32 (zX (x * y).natAbs)) 0 (zX (x * y).natAbs).length]) Z Z Z Z Z Nat.zero_lt_one Z Z (fun i' j' hi' hj' => ?_) ?_
 · rw [if_pos (Nat.lt_one_iff.1 hi')]; rfl
 refine rn1 ?_
 refine zf (by kernel_rfl) ?_
 refine rn0 ?_
 exact zO hR Z Z
theorem opp_sgn (x : Int) : zEN (!decide (x < 0)) x.natAbs = -x := by
 unfold zEN
 by_cases h : x < 0
 · simp [h]; omega
 · simp [h]; omega
theorem zGu (x : Int) : zZ Tryz.prog 140 [zA6 x] (zA6 (-x)) := by
 have h2 := zE3 (!decide (x < 0)) x.natAbs
 rw [opp_sgn] at h2
 refine zY.value0 (zK (P := Tryz.prog) (fn := Tryz.f140) Z Z (by kernel_rfl) Z (fun c hR hfix => ?_)) (fix := fun _ => False) (fun _ h => h) Z Z
 refine rn6 ?_
 refine zJ Z Z Z h2 ?_
 skip
 unfold zA6
 refine zU (c' := .box [.bool (decide (-x < 0)), zj (-x).natAbs]) Z Z Z Z Z Nat.zero_lt_one Z Z (fun i' j' hi' hj' => ?_) ?_
 · rw [if_pos (Nat.lt_one_iff.1 hi')]; rfl
 refine rn0 ?_
 exact zO hR Z Z
theorem zD1 (x : Int) : zZ Tryz.prog 159 [zA6 x] (.int .i64 (sgn x)) := by
 have hp : 0 < (zX x.natAbs).length ↔ x.natAbs ≠ 0 := zCQ
 unfold sgn
 refine zY.value0 (zK (P := Tryz.prog) (fn := Tryz.f159) Z Z (by kernel_rfl) Z (fun c hR hfix => ?_)) (fix := fun _ => False) (fun _ h => h) Z Z
 unfold zA6 zj
 rcases Int.lt_trichotomy x 0 with h | h | h
 · have e : decide (x < 0) = true := decide_eq_true h
   rw [e]
   rw [if_pos h] at hR
   refine rn6 ?_
   refine zF Z (fun h0 => absurd h0 (by omega)) (fun h0 => ?_)
   refine rn6 ?_
   exact zO hR Z Z
 · subst h
   rw [if_neg (by omega), if_pos rfl] at hR
   have e0 : zX (0 : Int).natAbs = [] := zBv
   rw [e0]
   refine rn6 ?_
   exact zO hR Z Z
 · have e : decide (x < 0) = false := decide_eq_false (by omega)
   rw [e]
   rw [if_neg (by omega), if_neg (by omega)] at hR
   refine rn6 ?_
   refine zF Z (fun h0 => absurd h0 (by omega)) (fun h0 => ?_)
   refine rn5 ?_
   exact zO hR Z Z
theorem add_sgn1 (x y : Int) (h : decide (x < 0) = decide (y < 0)) : zEN (decide (x < 0)) (x.natAbs + y.natAbs) = x + y := by
 unfold zEN
 rw [decide_eq_decide] at h
 by_cases h1 : x < 0
 · simp [h1]; omega
 · simp [h1]; omega
theorem add_sgn2 (x y : Int) (h : ¬ decide (x < 0) = decide (y < 0)) (h2 : y.natAbs ≤ x.natAbs) : zEN (decide (x < 0)) (x.natAbs - y.natAbs) = x + y := by
 unfold zEN
 rw [decide_eq_decide] at h
 by_cases h1 : x < 0
 · simp [h1]; omega
 · simp [h1]; omega
theorem add_sgn3 (x y : Int) (h : ¬ decide (x < 0) = decide (y < 0)) (h2 : ¬ y.natAbs ≤ x.natAbs) : zEN (decide (y < 0)) (y.natAbs - x.natAbs) = x + y := by
 unfold zEN
 rw [decide_eq_decide] at h
 by_cases h1 : y < 0
 · simp [h1]; omega
 · simp [h1]; omega
theorem zOV {x y : Int} : 0 ≤ zD3 x y ↔ y ≤ x := by
 unfold zD3
 split
 · omega
 · split <;> omega
theorem zKu (x y : Int) (hx : (zX x.natAbs).length ≤ 1000000) (hy : (zX y.natAbs).length ≤ 1000000) : zZ Tryz.prog 151 [zA6 x, zA6 y] (zA6 (x + y)) := by
 by_cases h : decide (x < 0) = decide (y < 0)
 · have h1 := add_ok x.natAbs y.natAbs (by omega) (by omega)
   have h2 := zE3 (decide (x < 0)) (x.natAbs + y.natAbs)
   rw [add_sgn1 x y h] at h2
   refine zY.value0 (zK (P := Tryz.prog) (fn := Tryz.f151) Z Z (by kernel_rfl) Z (fun c hR hfix => ?_)) (fix := fun _ => False) (fun _ h => h) Z Z
   unfold zA6 at hR ⊢
   repeat (first | refine zD ?_ | refine zA ?_ | refine zR ?_ | refine zG rfl ?_ | refine zB (zP rfl rfl rfl rfl rfl) ?_ | refine zB (zI rfl rfl rfl rfl rfl rfl) ?_ | refine zB (zJV rfl rfl rfl) ?_ | refine zFo rfl rfl ?_ | refine zAe rfl rfl rfl ?_)
   refine zAp 9 (.bool true) Z (AEq.of_eq (by rw [h]; simp)) ?_
   refine rn5 ?_
   refine zx (by kernel_rfl) ?_
   refine z8 (fuel := 1) [0, 1, 2, 3, 4, 5, 6, 7] [(2, .ptr 0 0 0), (3, .ptr 1 0 0), (4, .ptr 2 0 0)] ⟨Z, Z, Z, trivial⟩ (by kernel_rfl) (by decide) Z Z ?_
   refine zM Z Z (zI Z Z Z Z Z Z) ?_
   refine zM Z Z (zP Z Z Z Z Z) ?_
   refine zM Z Z (zI Z Z Z Z Z Z) ?_
   refine zM Z Z (zP Z Z Z Z Z) ?_
   refine zM Z Z (zI Z Z Z Z Z Z) ?_
   refine zM Z Z (zP Z Z Z Z Z) ?_
   refine zAf Z Z Z Z Z h1 ?_
   refine zAf Z Z Z Z Z h2 ?_
   refine zAC ?_
   refine zW (is := [8]) (by kernel_rfl) (by simp) Z ⟨fun o ho => ?_, trivial⟩
   all_goals (cases ho)
   skip
   unfold zA6
   refine zU (c' := .box [.bool (decide (x + y < 0)), zj (x + y).natAbs]) Z Z Z Z Z Nat.zero_lt_one Z Z (fun i' j' hi' hj' => ?_) ?_
   · rw [if_pos (Nat.lt_one_iff.1 hi')]; rfl
   refine rn1 ?_
   refine zf (by kernel_rfl) ?_
   refine rn2 ?_
   exact zO hR Z Z
 · have h0 := zKw x.natAbs y.natAbs (by omega) (by omega)
   by_cases hc : y.natAbs ≤ x.natAbs
   · have h1 := sub_ok x.natAbs y.natAbs hc (by omega)
     have h2 := zE3 (decide (x < 0)) (x.natAbs - y.natAbs)
     rw [add_sgn2 x y h hc] at h2
     refine zY.value0 (zK (P := Tryz.prog) (fn := Tryz.f151) Z Z (by kernel_rfl) Z (fun c hR hfix => ?_)) (fix := fun _ => False) (fun _ h => h) Z Z
     unfold zA6 at hR ⊢
     repeat (first | refine zD ?_ | refine zA ?_ | refine zR ?_ | refine zG rfl ?_ | refine zB (zP rfl rfl rfl rfl rfl) ?_ | refine zB (zI rfl rfl rfl rfl rfl rfl) ?_ | refine zB (zJV rfl rfl rfl) ?_ | refine zFo rfl rfl ?_ | refine zAe rfl rfl rfl ?_)
     refine zAp 9 (.bool false) Z (AEq.of_eq (by rw [beq_eq_false_iff_ne.2 h])) ?_
     refine rn5 ?_
     refine zJ Z Z Z h0 ?_
     repeat (first | refine zD ?_ | refine zA ?_ | refine zB (zDY rfl rfl) ?_)
     refine zF Z (fun h5 => ?_) (fun h5 => absurd (zOV.2 (Int.ofNat_le.2 hc)) h5)
     repeat (refine zR ?_)
     refine zx (by kernel_rfl) ?_
     refine z8 (fuel := 1) [0, 1, 2, 3, 4, 5, 6, 7] [(2, .ptr 0 0 0), (3, .ptr 1 0 0), (4, .ptr 2 0 0)] ⟨Z, Z, Z, trivial⟩ (by kernel_rfl) (by decide) Z Z ?_
     refine zM Z Z (zI Z Z Z Z Z Z) ?_
     refine zM Z Z (zP Z Z Z Z Z) ?_
     refine zM Z Z (zI Z Z Z Z Z Z) ?_
     refine zM Z Z (zP Z Z Z Z Z) ?_
     refine zM Z Z (zI Z Z Z Z Z Z) ?_
     refine zM Z Z (zP Z Z Z Z Z) ?_
     refine zAf Z Z Z Z Z h1 ?_
     refine zAf Z Z Z Z Z h2 ?_
     refine zAC ?_
     refine zW (is := [8]) (by kernel_rfl) (by simp) Z ⟨fun o ho => ?_, trivial⟩
     all_goals (cases ho)
     skip
     unfold zA6
     refine zU (c' := .box [.bool (decide (x + y < 0)), zj (x + y).natAbs]) Z Z Z Z Z Nat.zero_lt_one Z Z (fun i' j' hi' hj' => ?_) ?_
     · rw [if_pos (Nat.lt_one_iff.1 hi')]; rfl
     refine rn1 ?_
     refine zf (by kernel_rfl) ?_
     refine rn2 ?_
     exact zO hR Z Z
   · have h1 := sub_ok y.natAbs x.natAbs (by omega) (by omega)
     have h2 := zE3 (decide (y < 0)) (y.natAbs - x.natAbs)
     rw [add_sgn3 x y h hc] at h2
     refine zY.value0 (zK (P := Tryz.prog) (fn := Tryz.f151) Z Z (by kernel_rfl) Z (fun c hR hfix => ?_)) (fix := fun _ => False) (fun _ h => h) Z Z
     unfold zA6 at hR ⊢
     repeat (first | refine zD ?_ | refine zA ?_ | refine zR ?_ | refine zG rfl ?_ | refine zB (zP rfl rfl rfl rfl rfl) ?_ | refine zB (zI rfl rfl rfl rfl rfl rfl) ?_ | refine zB (zJV rfl rfl rfl) ?_ | refine zFo rfl rfl ?_ | refine zAe rfl rfl rfl ?_)
     refine zAp 9 (.bool false) Z (AEq.of_eq (by rw [beq_eq_false_iff_ne.2 h])) ?_
     refine rn5 ?_
     refine zJ Z Z Z h0 ?_
     repeat (first | refine zD ?_ | refine zA ?_ | refine zB (zDY rfl rfl) ?_)
     refine zF Z (fun h5 => absurd (Int.ofNat_le.1 (zOV.1 h5)) hc) (fun h5 => ?_)
     refine rn1 ?_
     refine zx (by kernel_rfl) ?_
     refine z8 (fuel := 1) [0, 1, 2, 3, 4, 5, 6, 7] [(2, .ptr 0 0 0), (3, .ptr 1 0 0), (4, .ptr 2 0 0)] ⟨Z, Z, Z, trivial⟩ (by kernel_rfl) (by decide) Z Z ?_
     refine zM Z Z (zI Z Z Z Z Z Z) ?_
     refine zM Z Z (zP Z Z Z Z Z) ?_
     refine zM Z Z (zI Z Z Z Z Z Z) ?_
     refine zM Z Z (zP Z Z Z Z Z) ?_
     refine zM Z Z (zI Z Z Z Z Z Z) ?_
     refine zM Z Z (zP Z Z Z Z Z) ?_
     refine zAf Z Z Z Z Z h1 ?_
     refine zAf Z Z Z Z Z h2 ?_
     refine zAC ?_
     refine zW (is := [8]) (by kernel_rfl) (by simp) Z ⟨fun o ho => ?_, trivial⟩
     all_goals (cases ho)
     skip
     unfold zA6
     refine zU (c' := .box [.bool (decide (x + y < 0)), zj (x + y).natAbs]) Z Z Z Z Z Nat.zero_lt_one Z Z (fun i' j' hi' hj' => ?_) ?_
     · rw [if_pos (Nat.lt_one_iff.1 hi')]; rfl
     refine rn1 ?_
     refine zf (by kernel_rfl) ?_
     refine rn0 ?_
     exact zO hR Z Z
theorem len_neg {x : Int} {k : Nat} (h : (zX x.natAbs).length ≤ k) : (zX (-x).natAbs).length ≤ k := by rw [Int.natAbs_neg]; exact h
theorem zK9 (x y : Int) (hx : (zX x.natAbs).length ≤ 1000000) (hy : (zX y.natAbs).length ≤ 1000000) : zZ Tryz.prog 188 [zA6 x, zA6 y] (zA6 (x - y)) := by
 have h1 := zGu y
 have h2 := zKu x (-y) hx (len_neg hy)
 rw [show x + -y = x - y from rfl] at h2
 refine zY.value0 (zK (P := Tryz.prog) (fn := Tryz.f188) Z Z (by kernel_rfl) Z (fun c hR hfix => ?_)) (fix := fun _ => False) (fun _ h => h) Z Z
 refine rn6 ?_
 refine zx (by kernel_rfl) ?_
 refine z8 (fuel := 1) [0, 1, 2, 3] [(2, .ptr 0 0 0), (3, .ptr 1 0 0), (4, .ptr 2 0 0)] ⟨Z, Z, Z, trivial⟩ (by kernel_rfl) (by decide) Z Z ?_
 refine zM Z Z (zp Z Z Z Z Z Z Z (by first | exact Nat.zero_lt_one | assumption | omega)) ?_
 refine zM Z Z (zp Z Z Z Z Z Z Z (by first | exact Nat.zero_lt_one | assumption | omega)) ?_
 refine zAf Z Z Z Z Z h1 ?_
 refine zAf Z Z Z Z Z h2 ?_
 refine zAC ?_
 refine zW (is := [4]) (by kernel_rfl) (by simp) Z ⟨fun o ho => ?_, trivial⟩
 all_goals (cases ho)
 skip
 unfold zA6
 refine zU (c' := .box [.bool (decide (x - y < 0)), zj (x - y).natAbs]) Z Z Z Z Z Nat.zero_lt_one Z Z (fun i' j' hi' hj' => ?_) ?_
 · rw [if_pos (Nat.lt_one_iff.1 hi')]; rfl
 refine rn1 ?_
 refine zf (by kernel_rfl) ?_
 refine rn0 ?_
 exact zO hR Z Z
theorem zOS (x y : Int) (hx : (zX x.natAbs).length ≤ 1000000) (hy : (zX y.natAbs).length ≤ 1000000) : zZ Tryz.prog 145 [zA6 x, zA6 y] (.int .i64 (sgn (x - y))) := by
 have h1 := zK9 x y hx hy
 have h2 := zD1 (x - y)
 refine zY.value0 (zK (P := Tryz.prog) (fn := Tryz.f145) Z Z (by kernel_rfl) Z (fun c hR hfix => ?_)) (fix := fun _ => False) (fun _ h => h) Z Z
 refine rn6 ?_
 refine zJ Z Z Z h1 ?_
 skip
 refine zJ Z Z Z h2 ?_
 refine rn0 ?_
 exact zO hR Z Z
theorem zJL (n : Int) (h : -9223372036854775808 ≤ n ∧ n < 9223372036854775808) : zZ Tryz.prog 146 [.int .i64 n] (zA6 n) := by
 refine zY.value0 (zK (P := Tryz.prog) (fn := Tryz.f146) Z Z (by kernel_rfl) Z (fun c hR hfix => ?_)) (fix := fun _ => False) (fun _ h => h) Z Z
 rcases Int.lt_or_le n 0 with hn | hn
 · have h1 := zGS n.natAbs (by omega)
   refine rn4 ?_
   refine zF Z (fun _ => ?_) (fun h0 => absurd hn h0)
   refine rn3 ?_
   refine zB (q_neg Z (by omega)) ?_
   refine zH 7 (.int .i64 ((n.natAbs - 1 : Nat) : Int)) Z (AEq.of_eq (congrArg _ (by omega))) ?_
   refine zB (zAb (m := n.natAbs - 1) Z Z Z zBT (by omega)) ?_
   refine zB (zFA (m := n.natAbs - 1) (n := 1) Z Z zBT (by omega)) ?_
   refine zH 9 (.int .u64 ((n.natAbs : Nat) : Int)) Z (AEq.of_eq (congrArg _ (by omega))) ?_
   skip
   refine zJ Z Z Z h1 ?_
   repeat (refine zB (zAY rfl rfl rfl rfl rfl rfl) ?_)
   refine zU (c' := .box [.bool true, zj n.natAbs]) Z Z Z Z Z Nat.zero_lt_one Z Z (fun i' j' hi' hj' => ?_) ?_
   · rw [if_pos (Nat.lt_one_iff.1 hi')]; rfl
   refine rn2 ?_
   refine zO hR Z ?_
   unfold zA6
   rw [show decide (n < 0) = true from decide_eq_true hn]
   rfl
 · have h1 := zGS n.natAbs (by omega)
   refine rn4 ?_
   refine zF Z (fun h0 => absurd h0 (by omega)) (fun h0 => ?_)
   refine rn1 ?_
   refine zH 12 (.int .i64 ((n.natAbs : Nat) : Int)) Z (AEq.of_eq (congrArg _ (by omega))) ?_
   refine zB (zAb (m := n.natAbs) Z Z Z zBT (by omega)) ?_
   skip
   refine zJ Z Z Z h1 ?_
   repeat (refine zB (zAY rfl rfl rfl rfl rfl rfl) ?_)
   refine zU (c' := .box [.bool false, zj n.natAbs]) Z Z Z Z Z Nat.zero_lt_one Z Z (fun i' j' hi' hj' => ?_) ?_
   · rw [if_pos (Nat.lt_one_iff.1 hi')]; rfl
   refine rn0 ?_
   refine zO hR Z ?_
   unfold zA6
   rw [show decide (n < 0) = false from decide_eq_false (by omega)]
   rfl
def qA (q : Rat) : AV := .agg [.bool (decide (q.num < 0)), zj q.num.natAbs, zj q.den]
theorem zI2 (n : Nat) : zA6 (n : Int) = .agg [.bool false, zj n] := by
 unfold zA6
 rw [show decide ((n : Int) < 0) = false from decide_eq_false (by omega), Int.natAbs_natCast]
theorem bne_iff {x y z : Int} (h : z < 0 ↔ x ≠ 0 ∧ ((x < 0 ∧ ¬ y < 0) ∨ (¬ x < 0 ∧ y < 0))) (hz : x = 0 → z = 0) : zEN (!(decide (x < 0) == decide (y < 0))) z.natAbs = z := by
 unfold zEN
 by_cases h1 : x < 0 <;> by_cases h2 : y < 0
 · simp [h1, h2]; have : ¬ z < 0 := fun q => by have := h.1 q; omega
   omega
 · simp [h1, h2]; have : z < 0 := h.2 (by omega)
   omega
 · simp [h1, h2]
   rcases Int.lt_or_le z 0 with q | q
   · omega
   · have : x = 0 := by
       rcases Int.lt_trichotomy x 0 with w | w | w
       · exact absurd w h1
       · exact w
       · exact absurd (h.2 ⟨by omega, .inr ⟨h1, h2⟩⟩) (by omega)
     have := hz this
     omega
 · simp [h1, h2]; have : ¬ z < 0 := fun q => by have := h.1 q; omega
   omega
theorem gcd_len {a b k : Nat} (ha : (zX a).length ≤ k) (hb : (zX b).length ≤ k) : (zX (Nat.gcd a b)).length ≤ k := by
 rcases Nat.eq_zero_or_pos a with h | h
 · subst h; rw [Nat.gcd_zero_left]; exact hb
 · exact zIf (Nat.gcd_le_left b h) ha
theorem zHy (n d : Int) (hd : d ≠ 0) (hn : (zX n.natAbs).length ≤ 1000000) (hdl : (zX d.natAbs).length ≤ 1000000) : zZ Tryz.prog 150 [zA6 n, zA6 d] (qA (Rat.divInt n d)) := by
 obtain ⟨e1, e2, e3⟩ := zJo n d hd
 have hg := zNH n.natAbs d.natAbs hn hdl
 have hgl := gcd_len hn hdl
 have hgp : 0 < Nat.gcd n.natAbs d.natAbs := Nat.gcd_pos_of_pos_right _ (by omega)
 have h1 := zIG n.natAbs _ hgp hn hgl
 have h2 := zIG d.natAbs _ hgp hdl hgl
 have h3 := zE3 (!(decide (n < 0) == decide (d < 0))) (Rat.divInt n d).num.natAbs
 rw [bne_iff e3 (fun h0 => by rw [h0, Rat.zero_divInt]; rfl)] at h3
 rw [← e1] at h1
 rw [← e2] at h2
 refine zY.value0 (zK (P := Tryz.prog) (fn := Tryz.f150) Z Z (by kernel_rfl) Z (fun c hR hfix => ?_)) (fix := fun _ => False) (fun _ h => h) Z Z
 refine rn6 ?_
 refine zJ Z Z Z hg ?_
 refine rn5 ?_
 refine zJ Z Z Z h1 ?_
 refine rn5 ?_
 refine zJ Z Z Z h2 ?_
 repeat (first | refine zB (zE rfl) ?_ | refine zB (zL rfl) ?_ | refine zD ?_ | refine zA ?_ | refine zR ?_ | refine zG rfl ?_ | refine zB (zP rfl rfl rfl rfl rfl) ?_ | refine zB (zBG rfl rfl) ?_ | refine zB (zI rfl rfl rfl rfl rfl rfl) ?_ | refine zB (zIM rfl rfl rfl) ?_)
 refine zJ Z Z Z h3 ?_
 repeat (first | refine zB (zE rfl) ?_ | refine zB (zAY rfl rfl rfl rfl rfl rfl) ?_)
 refine zU (c' := .box [.bool (decide ((Rat.divInt n d).num < 0)), zj (Rat.divInt n d).num.natAbs, zj (Rat.divInt n d).den]) Z Z Z Z Z Nat.zero_lt_one Z Z (fun i' j' hi' hj' => ?_) ?_
 · rw [if_pos (Nat.lt_one_iff.1 hi')]; rfl
 refine rn0 ?_
 exact zO hR Z Z
def Sz (k : Nat) (q : Rat) : Prop := (zX q.num.natAbs).length ≤ k ∧ (zX q.den).length ≤ k
theorem zGJ {x y : Int} {k : Nat} (hx : (zX x.natAbs).length ≤ k) (hy : (zX y.natAbs).length ≤ k) : (zX (x * y).natAbs).length ≤ k + k := by
 rw [Int.natAbs_mul]; exact zLW hx hy
theorem iadd_len {x y : Int} {k : Nat} (hx : (zX x.natAbs).length ≤ k) (hy : (zX y.natAbs).length ≤ k) : (zX (x + y).natAbs).length ≤ k + 1 :=
 zIf (Int.natAbs_add_le x y) (len_add hx hy)
theorem qadd_ok (p q : Rat) (hp : Sz 100000 p) (hq : Sz 100000 q) : zZ Tryz.prog 91 [qA p, qA q] (qA (p + q)) := by
 have l1 : (zX (q.den : Int).natAbs).length ≤ 100000 := hq.2
 have l2 : (zX (p.den : Int).natAbs).length ≤ 100000 := hp.2
 have h1 := zCx p.num q.den (by have := hp.1; omega) (by omega)
 have h2 := zCx q.num p.den (by have := hq.1; omega) (by omega)
 have m1 := zGJ hp.1 l1
 have m2 := zGJ hq.1 l2
 have h3 := zKu (p.num * q.den) (q.num * p.den) (by omega) (by omega)
 have h4 := zLb p.den q.den (by have := hp.2; omega) (by have := hq.2; omega)
 have m3 := iadd_len m1 m2
 have m4 := zLW hp.2 hq.2
 have h5 := zHy (p.num * q.den + q.num * p.den) ((p.den * q.den : Nat) : Int) (by have := Nat.mul_ne_zero p.den_nz q.den_nz; omega) (by omega) (by rw [Int.natAbs_natCast]; omega)
 rw [zI2, zMP] at h5
 rw [zI2] at h1 h2
 refine zY.value0 (zK (P := Tryz.prog) (fn := Tryz.f91) Z Z (by kernel_rfl) Z (fun c hR hfix => ?_)) (fix := fun _ => False) (fun _ h => h) Z Z
 refine rn6 ?_
 refine zx (by kernel_rfl) ?_
 refine z8 (fuel := 1) [0, 1, 2, 3, 4, 5, 6, 7, 8, 9, 10, 11, 12, 13, 14, 15, 16, 17, 18, 19] [(2, .ptr 0 0 0), (3, .ptr 1 0 0), (4, .ptr 2 0 0)] ⟨Z, Z, Z, trivial⟩ (by kernel_rfl) (by decide) Z Z ?_
 refine zM Z Z (zI Z Z Z Z Z Z) ?_
 refine zM Z Z (zp Z Z Z Z Z Z Z (by first | exact Nat.zero_lt_one | assumption | omega)) ?_
 refine zM Z Z (zI Z Z Z Z Z Z) ?_
 refine zM Z Z (zP Z Z Z Z Z) ?_
 refine zM Z Z (zAY Z Z Z Z Z Z) ?_
 refine zAf Z Z Z Z Z h1 ?_
 refine zM Z Z (zI Z Z Z Z Z Z) ?_
 refine zM Z Z (zp Z Z Z Z Z Z Z (by first | exact Nat.zero_lt_one | assumption | omega)) ?_
 refine zM Z Z (zI Z Z Z Z Z Z) ?_
 refine zM Z Z (zP Z Z Z Z Z) ?_
 refine zM Z Z (zAY Z Z Z Z Z Z) ?_
 refine zAf Z Z Z Z Z h2 ?_
 refine zAf Z Z Z Z Z h3 ?_
 refine zM Z Z (zI Z Z Z Z Z Z) ?_
 refine zM Z Z (zP Z Z Z Z Z) ?_
 refine zM Z Z (zI Z Z Z Z Z Z) ?_
 refine zM Z Z (zP Z Z Z Z Z) ?_
 refine zAf Z Z Z Z Z h4 ?_
 refine zM Z Z (zAY Z Z Z Z Z Z) ?_
 refine zAf Z Z Z Z Z h5 ?_
 refine zAC ?_
 refine zW (is := [20]) (by kernel_rfl) (by simp) Z ⟨fun o ho => ?_, trivial⟩
 all_goals (cases ho)
 skip
 unfold qA
 refine zU (c' := .box [.bool (decide ((p + q).num < 0)), zj (p + q).num.natAbs, zj (p + q).den]) Z Z Z Z Z Nat.zero_lt_one Z Z (fun i' j' hi' hj' => ?_) ?_
 · rw [if_pos (Nat.lt_one_iff.1 hi')]; rfl
 refine rn1 ?_
 refine zf (by kernel_rfl) ?_
 refine rn0 ?_
 exact zO hR Z Z
theorem zOf (p q : Rat) (hp : Sz 100000 p) (hq : Sz 100000 q) : zZ Tryz.prog 105 [qA p, qA q] (qA (p * q)) := by
 have h1 := zCx p.num q.num (by have := hp.1; omega) (by have := hq.1; omega)
 have m1 := zGJ hp.1 hq.1
 have h4 := zLb p.den q.den (by have := hp.2; omega) (by have := hq.2; omega)
 have m4 := zLW hp.2 hq.2
 have h5 := zHy (p.num * q.num) ((p.den * q.den : Nat) : Int) (by have := Nat.mul_ne_zero p.den_nz q.den_nz; omega) (by omega) (by rw [Int.natAbs_natCast]; omega)
 rw [zI2, zLk] at h5
 refine zY.value0 (zK (P := Tryz.prog) (fn := Tryz.f105) Z Z (by kernel_rfl) Z (fun c hR hfix => ?_)) (fix := fun _ => False) (fun _ h => h) Z Z
 refine rn6 ?_
 refine zx (by kernel_rfl) ?_
 refine z8 (fuel := 1) [0, 1, 2, 3, 4, 5, 6, 7, 8, 9, 10, 11] [(2, .ptr 0 0 0), (3, .ptr 1 0 0), (4, .ptr 2 0 0)] ⟨Z, Z, Z, trivial⟩ (by kernel_rfl) (by decide) Z Z ?_
 refine zM Z Z (zI Z Z Z Z Z Z) ?_
 refine zM Z Z (zp Z Z Z Z Z Z Z (by first | exact Nat.zero_lt_one | assumption | omega)) ?_
 refine zM Z Z (zI Z Z Z Z Z Z) ?_
 refine zM Z Z (zp Z Z Z Z Z Z Z (by first | exact Nat.zero_lt_one | assumption | omega)) ?_
 refine zAf Z Z Z Z Z h1 ?_
 refine zM Z Z (zI Z Z Z Z Z Z) ?_
 refine zM Z Z (zP Z Z Z Z Z) ?_
 refine zM Z Z (zI Z Z Z Z Z Z) ?_
 refine zM Z Z (zP Z Z Z Z Z) ?_
 refine zAf Z Z Z Z Z h4 ?_
 refine zM Z Z (zAY Z Z Z Z Z Z) ?_
 refine zAf Z Z Z Z Z h5 ?_
 refine zAC ?_
 refine zW (is := [12]) (by kernel_rfl) (by simp) Z ⟨fun o ho => ?_, trivial⟩
 all_goals (cases ho)
 skip
 unfold qA
 refine zU (c' := .box [.bool (decide ((p * q).num < 0)), zj (p * q).num.natAbs, zj (p * q).den]) Z Z Z Z Z Nat.zero_lt_one Z Z (fun i' j' hi' hj' => ?_) ?_
 · rw [if_pos (Nat.lt_one_iff.1 hi')]; rfl
 refine rn1 ?_
 refine zf (by kernel_rfl) ?_
 refine rn0 ?_
 exact zO hR Z Z
theorem zI1 (p q : Rat) (hp : Sz 100000 p) (hq : Sz 100000 q) : zZ Tryz.prog 84 [qA p, qA q] (.int .i64 (cmpQ p q)) := by
 have l1 : (zX (q.den : Int).natAbs).length ≤ 100000 := hq.2
 have l2 : (zX (p.den : Int).natAbs).length ≤ 100000 := hp.2
 have h1 := zCx p.num q.den (by have := hp.1; omega) (by omega)
 have h2 := zCx q.num p.den (by have := hq.1; omega) (by omega)
 have m1 := zGJ hp.1 l1
 have m2 := zGJ hq.1 l2
 have h5 := zOS (p.num * q.den) (q.num * p.den) (by omega) (by omega)
 rw [sgn_cmp p q] at h5
 rw [zI2] at h1 h2
 refine zY.value0 (zK (P := Tryz.prog) (fn := Tryz.f84) Z Z (by kernel_rfl) Z (fun c hR hfix => ?_)) (fix := fun _ => False) (fun _ h => h) Z Z
 refine rn6 ?_
 refine zx (by kernel_rfl) ?_
 refine z8 (fuel := 0) [0, 1, 2, 3, 4, 5, 6, 7, 8, 9, 10, 11, 12, 13] [(2, .ptr 0 0 0), (3, .ptr 1 0 0)] ⟨Z, Z, trivial⟩ (by kernel_rfl) (by decide) Z Z ?_
 refine zM Z Z (zI Z Z Z Z Z Z) ?_
 refine zM Z Z (zp Z Z Z Z Z Z Z (by first | exact Nat.zero_lt_one | assumption | omega)) ?_
 refine zM Z Z (zI Z Z Z Z Z Z) ?_
 refine zM Z Z (zP Z Z Z Z Z) ?_
 refine zM Z Z (zAY Z Z Z Z Z Z) ?_
 refine zAf Z Z Z Z Z h1 ?_
 refine zM Z Z (zI Z Z Z Z Z Z) ?_
 refine zM Z Z (zp Z Z Z Z Z Z Z (by first | exact Nat.zero_lt_one | assumption | omega)) ?_
 refine zM Z Z (zI Z Z Z Z Z Z) ?_
 refine zM Z Z (zP Z Z Z Z Z) ?_
 refine zM Z Z (zAY Z Z Z Z Z Z) ?_
 refine zAf Z Z Z Z Z h2 ?_
 refine zAf Z Z Z Z Z h5 ?_
 refine zM Z Z (zL Z) ?_
 refine zAC ?_
 refine zf (by kernel_rfl) ?_
 refine rn0 ?_
 exact zO hR Z Z
theorem zEb (p : Rat) : zZ Tryz.prog 98 [qA p] (.int .i64 (sgn p.num)) := by
 have h1 := zD1 p.num
 refine zY.value0 (zK (P := Tryz.prog) (fn := Tryz.f98) Z Z (by kernel_rfl) Z (fun c hR hfix => ?_)) (fix := fun _ => False) (fun _ h => h) Z Z
 refine rn6 ?_
 refine zJ Z Z Z h1 ?_
 refine rn0 ?_
 exact zO hR Z Z
end Go.Proofs.YtnkealfaldjipaaGreatDoor
namespace Go.Proofs.YtnkealfaldjipaaGreatDoor
open Go.Ax Go.Ax.Bg Go.Ax.Rt Go.RowKit
attribute [local irreducible] Ax zBR QOp zY zBK
set_option maxRecDepth 100000
set_option maxHeartbeats 4000000
open Go.Ax.Tb (zC8 zJW)
theorem zMi : zj 1 = .ro (.ints .u32 [1]) 0 1 := by unfold zj; rw [zLv]; rfl
theorem qA_int (z : Int) : qA (z : Rat) = .agg [.bool (decide (z < 0)), zj z.natAbs, zj 1] := rfl
theorem qof_ok (n : Int) (h : -9223372036854775808 ≤ n ∧ n < 9223372036854775808) : zZ Tryz.prog 85 [.int .i64 n] (qA (n : Rat)) := by
 have h1 := zJL n h
 refine zY.value0 (zK (P := Tryz.prog) (fn := Tryz.f85) Z Z (by kernel_rfl) Z (fun c hR hfix => ?_)) (fix := fun _ => False) (fun _ h => h) Z Z
 refine rn4 ?_
 refine zJ Z Z Z h1 ?_
 unfold zA6
 repeat (first | refine zB (zAY rfl rfl rfl rfl rfl rfl) ?_ | refine zh rfl rfl rfl rfl rfl rfl rfl rfl rfl rfl rfl ?_)
 refine zU (c' := .box [.bool (decide (n < 0)), zj n.natAbs, .ro (.ints .u32 [1]) 0 1]) Z Z Z Z Z Nat.zero_lt_one Z Z (fun i' j' hi' hj' => ?_) ?_
 · rw [if_pos (Nat.lt_one_iff.1 hi')]; rfl
 refine rn0 ?_
 refine zO hR Z ?_
 rw [qA_int, zMi]
 rfl
theorem zNI (s : List UInt8) (b : Int) : zZ Tryz.prog 221 [.str s, .int .u8 b] (.int .i64 (Lib.indexByte s b.toNat.toUInt8)) := by
 refine zY.value0 (zK (P := Tryz.prog) (fn := Tryz.f221) Z Z (by kernel_rfl) Z (fun c hR hfix => ?_)) (fix := fun _ => False) (fun _ h => h) Z Z
 refine rn0 ?_
 refine zB (zMF Z Z Z Z (by kernel_rfl) (by kernel_rfl) (by kernel_rfl) (by kernel_rfl)) ?_
 refine rn0 ?_
 exact zO hR Z Z
theorem indexI1 (s : List UInt8) (b : UInt8) : zZ Tryz.prog 194 [.str s, .str [b]] (.int .i64 (Lib.indexByte s b)) := by
 refine zY.value0 (zK (P := Tryz.prog) (fn := Tryz.f194) Z Z (by kernel_rfl) Z (fun c hR hfix => ?_)) (fix := fun _ => False) (fun _ h => h) Z Z
 refine rn6 ?_
 refine zF Z (fun h => ?_) (fun h => ?_)
 · refine rn6 ?_
   refine zO hR Z ?_
   subst h
   simp [zDP, Lib.indexByte]
 repeat (first | refine zB (zE rfl) ?_ | refine zB (zL rfl) ?_ | refine zD ?_ | refine zA ?_ | refine zR ?_ | refine zG rfl ?_ | refine zAn rfl ?_ | refine zB (zCD rfl rfl) ?_ | refine zB (zFM rfl rfl rfl (by first | assumption | omega | simp)) ?_)
 refine zJ Z Z Z (zNI s b.toNat) ?_
 refine rn6 ?_
 refine zO hR Z ?_
 simp [zDP]
theorem zLH (l : List UInt8) (b : UInt8) : Lib.indexByte l b < l.length := by
 induction l with
 | nil => simp [Lib.indexByte]
 | cons c r ih =>
   rw [Lib.indexByte]
   simp only [List.length_cons]
   split
   · omega
   · split
     · omega
     · omega
theorem cutI (s : List UInt8) (b : UInt8) (h : s.length ≤ 9223372036854775807) : zZ Tryz.prog 154 [.str s, .str [b]] (.tup [.str (zC8 b s).1, .str (zC8 b s).2.1, .bool (zC8 b s).2.2]) := by
 have hc := zJW b s
 have hlt := zLH s b
 have hge := Lib.indexByte_ge s b
 have ci := indexI1 s b
 refine zY.value0 (zK (P := Tryz.prog) (fn := Tryz.f154) Z Z (by kernel_rfl) Z (fun c hR hfix => ?_)) (fix := fun _ => False) (fun _ h => h) Z Z
 generalize Lib.indexByte s b = i at *
 refine rn0 ?_
 refine zJ Z Z Z ci ?_
 repeat (first | refine zB (zE rfl) ?_ | refine zB (zL rfl) ?_ | refine zD ?_ | refine zA ?_ | refine zR ?_ | refine zG rfl ?_ | refine zB (zDY rfl rfl) ?_)
 refine zF Z (fun h0 => ?_) (fun h0 => ?_)
 · rw [if_pos h0] at hc
   rw [hc] at hR
   have hb1 : ([b] : List UInt8).length = 1 := rfl
   have hi1 : (i + 1).toNat = i.toNat + 1 := by omega
   repeat (refine zR ?_)
   refine zFv (by kernel_rfl) (by kernel_rfl) Z ?_
   repeat (first | refine zB (zE rfl) ?_ | refine zB (zL rfl) ?_ | refine zD ?_ | refine zA ?_ | refine zAh ?_ | refine zCJ ?_ | refine zB (zCU rfl rfl) ?_ | refine zB (zCA rfl rfl (by omega)) ?_ | refine zB (zCl rfl rfl rfl rfl rfl rfl (by omega)) ?_)
   refine zO hR Z ?_
   simp [zDP, hi1]
   exact List.take_of_length_le (by simp)
 · rw [if_neg h0] at hc
   rw [hc] at hR
   refine rn1 ?_
   exact zO hR Z Z
theorem cutS (s : List UInt8) (b : UInt8) (h : s.length ≤ 9223372036854775807) : zZ Tryz.prog 93 [.str s, .str [b]] (.tup [.str (zC8 b s).1, .str (zC8 b s).2.1, .bool (zC8 b s).2.2]) := by
 have ci := cutI s b h
 refine zY.value0 (zK (P := Tryz.prog) (fn := Tryz.f93) Z Z (by kernel_rfl) Z (fun c hR hfix => ?_)) (fix := fun _ => False) (fun _ h => h) Z Z
 generalize zC8 b s = q at *
 refine rn0 ?_
 refine zJ Z Z Z ci ?_
 refine rn2 ?_
 exact zO hR Z Z
theorem cutP1 (s p : List UInt8) (hs : s.length ≤ 9223372036854775807) (hp : p.length ≤ 9223372036854775807) : zZ Tryz.prog 153 [.str s, .str p] (.tup [.str (if zHR s p then s.drop p.length else s), .bool (zHR s p)]) := by
 have h1 := zNo s p hs hp
 refine zY.value0 (zK (P := Tryz.prog) (fn := Tryz.f153) Z Z (by kernel_rfl) Z (fun c hR hfix => ?_)) (fix := fun _ => False) (fun _ h => h) Z Z
 by_cases h : zHR s p = true
 · have hle : p.length ≤ s.length := by unfold zHR at h; exact (of_decide_eq_true h).1
   rw [h] at h1 hR
   refine rn0 ?_
   refine zJ Z Z Z h1 ?_
   repeat (first | refine zB (zE rfl) ?_ | refine zB (zL rfl) ?_ | refine zD ?_ | refine zA ?_ | refine zR ?_ | refine zG rfl ?_ | refine zr rfl ?_ | refine zi ?_ | refine zAh ?_ | refine zB (zE2 rfl) ?_ | refine zB (zCU rfl rfl) ?_ | refine zB (zCl rfl rfl rfl rfl rfl rfl (by omega)) ?_)
   refine zO hR Z ?_
   simp only [zDP, Int.toNat_natCast]
   rw [List.take_of_length_le (by simp)]
   rfl
 · rw [Bool.not_eq_true] at h
   rw [h] at h1 hR
   refine rn0 ?_
   refine zJ Z Z Z h1 ?_
   refine rn5 ?_
   exact zO hR Z Z
theorem cutP (s p : List UInt8) (hs : s.length ≤ 9223372036854775807) (hp : p.length ≤ 9223372036854775807) : zZ Tryz.prog 92 [.str s, .str p] (.tup [.str (if zHR s p then s.drop p.length else s), .bool (zHR s p)]) := by
 have h1 := cutP1 s p hs hp
 refine zY.value0 (zK (P := Tryz.prog) (fn := Tryz.f92) Z Z (by kernel_rfl) Z (fun c hR hfix => ?_)) (fix := fun _ => False) (fun _ h => h) Z Z
 generalize zHR s p = b at *
 refine rn0 ?_
 refine zJ Z Z Z h1 ?_
 refine rn2 ?_
 exact zO hR Z Z
end Go.Proofs.YtnkealfaldjipaaGreatDoor
namespace Go.Ax.Rt
open Go.Ax.Bg
open Go.Ax.Tb (zBk zB0 zCY zC8 zOa zNx zEK)
def zEg : List UInt8 → Bool
 | c :: _ => decide (c = 45)
 | [] => false
def zED (s : List UInt8) : List UInt8 := if zEg s then s.drop 1 else s
def zD5 (s : List UInt8) : List UInt8 := (zC8 47 (zED s)).1
def zEA (s : List UInt8) : List UInt8 := (zC8 47 (zED s)).2.1
def zF9 (s : List UInt8) : Bool := (zC8 47 (zED s)).2.2
/-- rat.Check -/
def zDF (s : List UInt8) : Int :=
 if zE9 (zD5 s) = false ∨ (zF9 s = true ∧ zE9 (zEA s) = false) ∨ (zEg s = true ∧ zD5 s = [48]) then 5
 else if 2000 < (zD5 s).length ∨ 2000 < (zEA s).length then 2
 else if zF9 s = true ∧ (zEA s = [48] ∨ zEA s = [49] ∨ Nat.gcd (zBA 0 (zD5 s)) (zBA 0 (zEA s)) ≠ 1) then 3 else 0
def zJw (s : List UInt8) : Nat := if zF9 s then zBA 0 (zEA s) else 1
def zAT (s : List UInt8) : Rat := Rat.divInt (zEN (zEg s) (zBA 0 (zD5 s))) (zJw s : Nat)
def zu (q : Rat) : List UInt8 := (if q.num < 0 then [45] else []) ++ (Lib.decDigits q.num.natAbs ++ (if q.den = 1 then [] else 47 :: Lib.decDigits q.den))
def zCZ (q : Rat) : Bool := decide ((Lib.decDigits q.num.natAbs).length ≤ 2000) && decide ((Lib.decDigits q.den).length ≤ 2000)
def outF (q : Rat) : List UInt8 × Int := if zCZ q then (zu q, 0) else ([], 2)
theorem zKe (b : UInt8) : ∀ l : List UInt8, l = (zC8 b l).1 ++ (if (zC8 b l).2.2 then b :: (zC8 b l).2.1 else [])
 | [] => rfl
 | c :: r => by
   rw [zC8]
   split
   · rename_i h; subst h; simp
   · have := zKe b r
     simp only [List.cons_append, List.cons.injEq, true_and]
     exact this
structure Parts (s : List UInt8) (q : Rat) : Prop where
 num : q.num = zEN (zEg s) (zBA 0 (zD5 s))
 den : q.den = zJw s
 cn : zG0 (zD5 s)
 cd : zF9 s = true → zG0 (zEA s) ∧ zBA 0 (zEA s) ≠ 0 ∧ zBA 0 (zEA s) ≠ 1
 ln : (zD5 s).length ≤ 2000
 ld : (zEA s).length ≤ 2000
 ng : zEg s = true → zBA 0 (zD5 s) ≠ 0
theorem zLF {s : List UInt8} {n : Nat} (hc : zG0 s) (hn : n < 10) (h : zBA 0 s = n) : s = [UInt8.ofNat (48 + n)] := by
 rw [← zFO hc, h, Lib.decDigits_one hn]
theorem zHS {s : List UInt8} (h : zF9 s = false) : zJw s = 1 := by unfold zJw; rw [h]; rfl
theorem zGR {s : List UInt8} (h : zF9 s = true) : zJw s = zBA 0 (zEA s) := by unfold zJw; rw [h]; rfl
theorem zGn {s : List UInt8} (h : zDF s = 0) : Parts s (zAT s) := by
 unfold zDF at h
 split at h
 · omega
 split at h
 · omega
 split at h
 · omega
 rename_i h1 h2 h3
 simp only [not_or, not_and, Bool.not_eq_false] at h1 h2 h3
 obtain ⟨a1, a2, a3⟩ := h1
 have cn := zDp.1 a1
 have cd : zF9 s = true → zG0 (zEA s) ∧ zBA 0 (zEA s) ≠ 0 ∧ zBA 0 (zEA s) ≠ 1 := fun hd => by
   have c := zDp.1 (a2 hd)
   exact ⟨c, fun e => (h3 hd).1 (zLF c (by decide) e), fun e => (h3 hd).2.1 (zLF c (by decide) e)⟩
 have hd0 : zJw s ≠ 0 := by
   cases e : zF9 s
   · rw [zHS e]; decide
   · rw [zGR e]; exact (cd e).2.1
 have hg : Nat.gcd (zBA 0 (zD5 s)) (zJw s) = 1 := by
   cases e : zF9 s
   · rw [zHS e]; exact Nat.gcd_one_right _
   · rw [zGR e]; exact Classical.not_not.1 (h3 e).2.2
 obtain ⟨e1, e2, e3⟩ := zJc (zEN (zEg s) (zBA 0 (zD5 s))) (zJw s) hd0
 rw [zFX, hg, Nat.div_one] at e1
 rw [zFX, hg, Nat.div_one] at e2
 refine ⟨?_, e2, cn, cd, by omega, by omega, fun hn e => a3 hn (zLF cn (by decide) e)⟩
 show (Rat.divInt _ _).num = _
 have := zFX (zEg s) (zBA 0 (zD5 s))
 omega
theorem neg_body {s : List UInt8} : s = (if zEg s then [45] else []) ++ zED s := by
 unfold zED
 cases s with
 | nil => rfl
 | cons c r =>
   unfold zEg
   by_cases h : c = 45
   · subst h; rfl
   · simp [h]
theorem Parts.text {s : List UInt8} {q : Rat} (h : Parts s q) : zu q = s := by
 conv => rhs; rw [neg_body (s := s), zKe 47 (zED s)]
 change zu q = _ ++ (zD5 s ++ if zF9 s then 47 :: zEA s else [])
 unfold zu
 rw [h.num, h.den, zFX, zFO h.cn]
 congr 1
 · have := zJa (zEg s) (zBA 0 (zD5 s))
   cases e : zEg s
   · rw [e] at this; simp at this
     rw [if_neg (by simpa [e] using this)]; rfl
   · rw [e] at this
     have hn := h.ng e
     simp [hn] at this
     rw [if_pos this]; rfl
 · congr 1
   cases e : zF9 s
   · rw [zHS e]; rfl
   · obtain ⟨c, c0, c1⟩ := h.cd e
     rw [zGR e, if_neg c1, zFO c]; rfl
theorem zMH (q : Rat) : zEg (zu q) = decide (q.num < 0) ∧ zED (zu q) = Lib.decDigits q.num.natAbs ++ (if q.den = 1 then [] else 47 :: Lib.decDigits q.den) := by
 have hne := zCY q.num.natAbs
 have h45 := zEK q.num.natAbs 45 (by decide)
 unfold zED zu
 by_cases h : q.num < 0
 · simp [h, zEg]
 · have : zEg (Lib.decDigits q.num.natAbs ++ (if q.den = 1 then [] else 47 :: Lib.decDigits q.den)) = false := by
     cases e : Lib.decDigits q.num.natAbs with
     | nil => exact absurd e hne
     | cons c r =>
       rw [e] at h45
       have : c ≠ 45 := fun e => h45 (by simp [e])
       simp [zEg, this]
   simp [h, this]
theorem zJ1 (q : Rat) : zC8 47 (zED (zu q)) = (Lib.decDigits q.num.natAbs, (if q.den = 1 then [] else Lib.decDigits q.den), decide (q.den ≠ 1)) := by
 rw [(zMH q).2]
 by_cases h : q.den = 1
 · rw [if_pos h, if_pos h, List.append_nil, zOa (zEK _ 47 (by decide))]
   simp [h]
 · rw [if_neg h, if_neg h, zNx (zEK _ 47 (by decide))]
   simp [h]
theorem rat_of {q : Rat} (h : zCZ q = true) : zDF (zu q) = 0 ∧ zAT (zu q) = q := by
 have e1 : zD5 (zu q) = Lib.decDigits q.num.natAbs := by unfold zD5; rw [zJ1]
 have e2 : zEA (zu q) = if q.den = 1 then [] else Lib.decDigits q.den := by unfold zEA; rw [zJ1]
 have e3 : zF9 (zu q) = decide (q.den ≠ 1) := by unfold zF9; rw [zJ1]
 have e4 := (zMH q).1
 unfold zCZ at h
 rw [Bool.and_eq_true, decide_eq_true_eq, decide_eq_true_eq] at h
 constructor
 · unfold zDF
   rw [e1, e2, e3, e4, zBa, zDp.2 (zEI _)]
   have g1 : ¬ (true = false ∨ (decide (q.den ≠ 1) = true ∧ zE9 (if q.den = 1 then [] else Lib.decDigits q.den) = false) ∨ (decide (q.num < 0) = true ∧ Lib.decDigits q.num.natAbs = [48])) := by
     rintro (g | ⟨g1, g2⟩ | ⟨g1, g2⟩)
     · cases g
     · rw [decide_eq_true_eq] at g1
       rw [if_neg g1, zDp.2 (zEI _)] at g2
       cases g2
     · rw [decide_eq_true_eq] at g1
       have : q.num.natAbs = 0 := zFC (by rw [g2, Lib.decDigits_one (by decide)]; rfl)
       omega
   have g2 : ¬ (2000 < (Lib.decDigits q.num.natAbs).length ∨ 2000 < (if q.den = 1 then [] else Lib.decDigits q.den : List UInt8).length) := by
     rintro (g | g)
     · omega
     · split at g
       · simp at g
       · omega
   have g3 : ¬ (decide (q.den ≠ 1) = true ∧ ((if q.den = 1 then [] else Lib.decDigits q.den) = [48] ∨ (if q.den = 1 then [] else Lib.decDigits q.den) = [49] ∨ Nat.gcd q.num.natAbs (zBA 0 (if q.den = 1 then [] else Lib.decDigits q.den)) ≠ 1)) := by
     rintro ⟨g, g3⟩
     rw [decide_eq_true_eq] at g
     rw [if_neg g] at g3
     rw [zBa] at g3
     rcases g3 with g3 | g3 | g3
     · have : q.den = 0 := zFC (by rw [g3, Lib.decDigits_one (by decide)]; rfl)
       exact q.den_nz this
     · exact g (zFC (by rw [g3, Lib.decDigits_one (by decide)]; rfl))
     · exact g3 q.reduced
   rw [if_neg g1, if_neg g2, if_neg g3]
 · unfold zAT
   have e5 : zJw (zu q) = q.den := by
     unfold zJw
     rw [e3, e2]
     by_cases g : q.den = 1
     · simp [g]
     · simp [g, zBa]
   rw [e1, e4, e5, zBa, zPc]
   exact Rat.num_divInt_den q
/-- rat.CheckAll -/
def zJk : List (List UInt8) → Int
 | [] => 0
 | s :: r => if zDF s = 0 then zJk r else zDF s
theorem zCk : ∀ {l : List (List UInt8)}, zJk l = 0 → ∀ s ∈ l, zDF s = 0
 | [], _, s, h => by simp at h
 | a :: r, h, s, hs => by
   rw [zJk] at h
   split at h
   · rename_i h1
     rcases List.mem_cons.1 hs with e | e
     · rw [e]; exact h1
     · exact zCk h s e
   · contradiction
theorem zNy : ∀ {l : List (List UInt8)}, (∀ s ∈ l, zDF s = 0) → zJk l = 0
 | [], _ => rfl
 | a :: r, h => by
   rw [zJk, if_pos (h a (by simp))]
   exact zNy (fun s hs => h s (by simp [hs]))
def zE5 (l : List Rat) : List (List UInt8) × Int := if l.all zCZ then (l.map zu, 0) else ([], 2)
end Go.Ax.Rt
namespace Go.Proofs.YtnkealfaldjipaaGreatDoor
open Go.Ax Go.Ax.Bg Go.Ax.Rt Go.RowKit
attribute [local irreducible] Ax zBR QOp zY zBK
set_option maxRecDepth 100000
set_option maxHeartbeats 4000000
open Go.Ax.Tb (zC8 zJW zMU)
theorem pre_neg (s : List UInt8) : zHR s [45] = zEg s := by
 unfold zHR zEg
 cases s with
 | nil => rfl
 | cons c r => simp
theorem zMt (s : List UInt8) : (zED s).length ≤ s.length := by
 unfold zED; split
 · simp
 · exact Nat.le_refl _
theorem zPn (s : List UInt8) : (zD5 s).length ≤ s.length ∧ (zEA s).length ≤ s.length := by
 have h := zMU 47 (zED s)
 have h2 := zMt s
 unfold zD5 zEA
 omega
theorem cutNeg (s : List UInt8) (hs : s.length ≤ 9223372036854775807) : zZ Tryz.prog 92 [.str s, .str [45]] (.tup [.str (zED s), .bool (zEg s)]) := by
 have h := cutP s [45] hs (by decide)
 rw [pre_neg] at h
 exact h
theorem cutBar (s : List UInt8) (hs : s.length ≤ 9223372036854775807) : zZ Tryz.prog 93 [.str (zED s), .str [47]] (.tup [.str (zD5 s), .str (zEA s), .bool (zF9 s)]) :=
 cutS (zED s) 47 (Nat.le_trans (zMt s) hs)
theorem zHl (s : List UInt8) (hs : s.length ≤ 9223372036854775807) (h : zDF s = 0) : zZ Tryz.prog 89 [.str s] (qA (zAT s)) := by
 have hp := zGn h
 have h1 := cutNeg s (by omega)
 have h2 := cutBar s hs
 have h3 := zIz (zD5 s) hp.cn.2.1 (by have := hp.ln; omega)
 have h4 := zE3 (zEg s) (zBA 0 (zD5 s))
 rw [← hp.num] at h4
 unfold qA
 rw [hp.den]
 cases e : zF9 s
 · rw [e] at h2
   rw [zHS e, zMi]
   refine zY.value0 (zK (P := Tryz.prog) (fn := Tryz.f89) Z Z (by kernel_rfl) Z (fun c hR hfix => ?_)) (fix := fun _ => False) (fun _ h => h) Z Z
   refine rn4 ?_
   refine zJ Z Z Z h1 ?_
   refine rn2 ?_
   refine zJ Z Z Z h2 ?_
   refine rn2 ?_
   refine zJ Z Z Z h3 ?_
   skip
   refine zJ Z Z Z h4 ?_
   unfold zA6
   repeat (first | refine zB (zAY rfl rfl rfl rfl rfl rfl) ?_ | refine zh rfl rfl rfl rfl rfl rfl rfl rfl rfl rfl rfl ?_ | refine zAe rfl rfl rfl ?_)
   refine zU (c' := .box [.bool (decide ((zAT s).num < 0)), zj (zAT s).num.natAbs, .ro (.ints .u32 [1]) 0 1]) Z Z Z Z Z Nat.zero_lt_one Z Z (fun i' j' hi' hj' => ?_) ?_
   · rw [if_pos (Nat.lt_one_iff.1 hi')]; rfl
   refine rn6 ?_
   refine zU (c' := .box [.bool (decide ((zAT s).num < 0)), zj (zAT s).num.natAbs, .ro (.ints .u32 [1]) 0 1]) Z Z Z Z Z Nat.zero_lt_one Z Z (fun i' j' hi' hj' => ?_) ?_
   · rw [if_pos (Nat.lt_one_iff.1 hi')]; rfl
   refine rn0 ?_
   exact zO hR Z Z
 · rw [e] at h2
   rw [zGR e]
   have h5 := zIz (zEA s) (hp.cd e).1.2.1 (by have := hp.ld; omega)
   refine zY.value0 (zK (P := Tryz.prog) (fn := Tryz.f89) Z Z (by kernel_rfl) Z (fun c hR hfix => ?_)) (fix := fun _ => False) (fun _ h => h) Z Z
   refine rn4 ?_
   refine zJ Z Z Z h1 ?_
   refine rn2 ?_
   refine zJ Z Z Z h2 ?_
   refine rn2 ?_
   refine zJ Z Z Z h3 ?_
   skip
   refine zJ Z Z Z h4 ?_
   unfold zA6
   repeat (first | refine zB (zAY rfl rfl rfl rfl rfl rfl) ?_ | refine zh rfl rfl rfl rfl rfl rfl rfl rfl rfl rfl rfl ?_ | refine zAe rfl rfl rfl ?_)
   refine zU (c' := .box [.bool (decide ((zAT s).num < 0)), zj (zAT s).num.natAbs, .ro (.ints .u32 [1]) 0 1]) Z Z Z Z Z Nat.zero_lt_one Z Z (fun i' j' hi' hj' => ?_) ?_
   · rw [if_pos (Nat.lt_one_iff.1 hi')]; rfl
   refine rn5 ?_
   refine zJ Z Z Z h5 ?_
   repeat (first | refine zD ?_ | refine zA ?_ | refine zR ?_ | refine zG rfl ?_ | refine zB (zI rfl rfl rfl rfl rfl rfl) ?_ | refine zB (zp rfl rfl rfl rfl rfl rfl rfl (by first | exact Nat.zero_lt_one | assumption | omega)) ?_ | refine zAi rfl rfl rfl rfl rfl rfl rfl Nat.zero_lt_one ?_)
   refine zU (c' := .box [.bool (decide ((zAT s).num < 0)), zj (zAT s).num.natAbs, zj (zBA 0 (zEA s))]) Z Z Z Z Z Nat.zero_lt_one Z Z (fun i' j' hi' hj' => ?_) ?_
   · rw [if_pos (Nat.lt_one_iff.1 hi')]; rfl
   refine rn0 ?_
   exact zO hR Z Z
theorem qtext_ok (q : Rat) (hq : Sz 100000 q) : zZ Tryz.prog 137 [qA q] (.str (zu q)) := by
 have h1 := zIx q.num.natAbs (by have := hq.1; omega)
 have h2 := one_ok q.den
 have h3 := zIx q.den (by have := hq.2; omega)
 unfold zu
 have l1 := zDb hq.1 (by decide)
 have l2 := zDb hq.2 (by decide)
 refine zY.value0 (zK (P := Tryz.prog) (fn := Tryz.f137) Z Z (by kernel_rfl) Z (fun c hR hfix => ?_)) (fix := fun _ => False) (fun _ h => h) Z Z
 by_cases hn : q.num < 0 <;> by_cases hd : q.den = 1
 · rw [if_pos hn, if_pos hd] at hR
   rw [decide_eq_true hd] at h2
   unfold qA
   rw [decide_eq_true hn]
   refine rn6 ?_
   refine zJ Z Z Z h1 ?_
   refine rn5 ?_
   refine zB (zEf Z Z (by show ([45] : List UInt8).length + _ ≤ _; simp only [List.length_cons, List.length_nil, List.length_append]; omega)) ?_
   refine rn5 ?_
   refine zJ Z Z Z h2 ?_
   refine rn5 ?_
   refine zO hR Z ?_
   simp [zDP]
 · rw [if_pos hn, if_neg hd] at hR
   rw [decide_eq_false hd] at h2
   unfold qA
   rw [decide_eq_true hn]
   refine rn6 ?_
   refine zJ Z Z Z h1 ?_
   refine rn5 ?_
   refine zB (zEf Z Z (by show ([45] : List UInt8).length + _ ≤ _; simp only [List.length_cons, List.length_nil, List.length_append]; omega)) ?_
   refine rn5 ?_
   refine zJ Z Z Z h2 ?_
   refine rn5 ?_
   refine zJ Z Z Z h3 ?_
   skip
   refine zB (zEf Z Z (by show ([47] : List UInt8).length + _ ≤ _; simp only [List.length_cons, List.length_nil, List.length_append]; omega)) ?_
   refine zB (zEf (b := 47 :: Lib.decDigits q.den) Z Z (by simp only [List.length_cons, List.length_nil, List.length_append]; omega)) ?_
   refine rn0 ?_
   refine zO hR Z ?_
   simp [zDP]
 · rw [if_neg hn, if_pos hd] at hR
   rw [decide_eq_true hd] at h2
   unfold qA
   rw [decide_eq_false hn]
   refine rn6 ?_
   refine zJ Z Z Z h1 ?_
   refine rn5 ?_
   refine zJ Z Z Z h2 ?_
   refine rn5 ?_
   refine zO hR Z ?_
   simp [zDP]
 · rw [if_neg hn, if_neg hd] at hR
   rw [decide_eq_false hd] at h2
   unfold qA
   rw [decide_eq_false hn]
   refine rn6 ?_
   refine zJ Z Z Z h1 ?_
   refine rn5 ?_
   refine zJ Z Z Z h2 ?_
   refine rn5 ?_
   refine zJ Z Z Z h3 ?_
   skip
   refine zB (zEf Z Z (by show ([47] : List UInt8).length + _ ≤ _; simp only [List.length_cons, List.length_nil, List.length_append]; omega)) ?_
   refine zB (zEf (b := 47 :: Lib.decDigits q.den) Z Z (by simp only [List.length_cons, List.length_nil, List.length_append]; omega)) ?_
   refine rn0 ?_
   refine zO hR Z ?_
   simp [zDP]
end Go.Proofs.YtnkealfaldjipaaGreatDoor
namespace Go.Proofs.YtnkealfaldjipaaGreatDoor
open Go.Ax Go.Ax.Bg Go.Ax.Rt Go.RowKit
attribute [local irreducible] Ax zBR QOp zY zBK
set_option maxRecDepth 100000
set_option maxHeartbeats 4000000
theorem zN7 {n k m : Nat} (h : k < (zX n).length) (hm : m ≤ 9 * k) : m < (Lib.decDigits n).length := by
 rcases Nat.lt_or_ge m (Lib.decDigits n).length with q | q
 · exact q
 exfalso
 have h1 := zFV n
 have h2 : 10 ^ (Lib.decDigits n).length ≤ 10 ^ (9 * k) := Nat.pow_le_pow_right (by decide) (by omega)
 have h3 : 10 ^ (9 * k) ≤ B ^ k := by rw [Nat.pow_mul]; exact Nat.pow_le_pow_left (by decide) k
 have h4 : ¬ n < B ^ k := fun h5 => by have := zAs h5; omega
 omega
theorem zOD (q : Rat) (hq : Sz 100000 q) : zZ Tryz.prog 136 [qA q, .int .i64 2000] (.bool (zCZ q)) := by
 have h1 := zIx q.num.natAbs (by have := hq.1; omega)
 have h3 := zIx q.den (by have := hq.2; omega)
 have l1 := zDb hq.1 (by decide)
 have l2 := zDb hq.2 (by decide)
 have g1 := hq.1
 have g2 := hq.2
 have b1 := @zN7 q.num.natAbs 224 2000
 have b2 := @zN7 q.den 224 2000
 unfold zCZ
 refine zY.value0 (zK (P := Tryz.prog) (fn := Tryz.f136) Z Z (by kernel_rfl) Z (fun c hR hfix => ?_)) (fix := fun _ => False) (fun _ h => h) Z Z
 unfold qA
 unfold zj at h1 h3 ⊢
 repeat (first | refine zB (zE rfl) ?_ | refine zB (zL rfl) ?_ | refine zD ?_ | refine zA ?_ | refine zR ?_ | refine zG rfl ?_ | refine zB (zP rfl rfl rfl rfl rfl) ?_ | refine zB (zIj rfl rfl) ?_ | refine zB (zAR rfl rfl rfl) ?_ | refine zB (zCA rfl rfl (by omega)) ?_ | refine zB (q_quo rfl rfl (by omega)) ?_ | refine zB (q_max rfl rfl) ?_ | refine zB (zI rfl rfl rfl rfl rfl rfl) ?_ | refine zFo rfl rfl ?_)
 refine zF Z (fun h0 => ?_) (fun h0 => ?_)
 · refine rn2 ?_
   refine zO hR Z ?_
   have h5 : 224 < (zX q.num.natAbs).length ∨ 224 < (zX q.den).length := by
     split at h0 <;> omega
   have h6 : ¬ ((Lib.decDigits q.num.natAbs).length ≤ 2000 ∧ (Lib.decDigits q.den).length ≤ 2000) := by
     rcases h5 with h5 | h5
     · have := b1 h5 (by decide); omega
     · have := b2 h5 (by decide); omega
   rw [← Bool.decide_and, decide_eq_false h6]
   rfl
 · refine rn5 ?_
   refine zJ Z Z Z h1 ?_
   repeat (first | refine zB (zE rfl) ?_ | refine zB (zId rfl rfl) ?_ | refine zB (zCU rfl rfl) ?_)
   refine zAz Z Z (fun h5 => ?_) (fun h5 => ?_)
   · refine rn5 ?_
     refine zJ Z Z Z h3 ?_
     repeat (first | refine zB (zE rfl) ?_ | refine zB (zL rfl) ?_ | refine zD ?_ | refine zA ?_ | refine zAL rfl rfl ?_ | refine zAh ?_ | refine zB (zId rfl rfl) ?_ | refine zB (zAM rfl rfl) ?_ | refine zB (zCU rfl rfl) ?_)
     refine zO hR Z ?_
     rw [show decide ((Lib.decDigits q.num.natAbs).length ≤ 2000) = true from decide_eq_true (by omega), Bool.true_and]
     show AV.bool _ = AV.bool _
     rw [show decide (((Lib.decDigits q.den).length : Int) ≤ 2000) = decide ((Lib.decDigits q.den).length ≤ 2000) from by rw [decide_eq_decide]; omega]
   · refine rn6 ?_
     refine zO hR Z ?_
     rw [show decide ((Lib.decDigits q.num.natAbs).length ≤ 2000) = false from decide_eq_false (by omega), Bool.false_and]
     rfl
theorem zK4 (q : Rat) (hq : Sz 100000 q) (h : zCZ q = true) : zZ Tryz.prog 74 [qA q] (.tup [.str (zu q), .int .i64 0]) := by
 have h1 := zOD q hq
 have h2 := qtext_ok q hq
 rw [h] at h1
 refine zY.value0 (zK (P := Tryz.prog) (fn := Tryz.f74) Z Z (by kernel_rfl) Z (fun c hR hfix => ?_)) (fix := fun _ => False) (fun _ h => h) Z Z
 refine rn6 ?_
 refine zJ Z Z Z h1 ?_
 refine rn6 ?_
 refine zJ Z Z Z h2 ?_
 refine rn0 ?_
 exact zO hR Z Z
theorem out_no (q : Rat) (hq : Sz 100000 q) (h : zCZ q = false) : zZ Tryz.prog 74 [qA q] (.tup [.str [], .int .i64 2]) := by
 have h1 := zOD q hq
 rw [h] at h1
 refine zY.value0 (zK (P := Tryz.prog) (fn := Tryz.f74) Z Z (by kernel_rfl) Z (fun c hR hfix => ?_)) (fix := fun _ => False) (fun _ h => h) Z Z
 refine rn6 ?_
 refine zJ Z Z Z h1 ?_
 refine rn5 ?_
 exact zO hR Z Z
theorem out_ok (q : Rat) (hq : Sz 100000 q) : zZ Tryz.prog 74 [qA q] (pairA (outF q)) := by
 unfold outF
 cases h : zCZ q
 · exact out_no q hq h
 · exact zK4 q hq h
theorem zKL (s : List UInt8) (hs : s.length ≤ 9223372036854775807) : zZ Tryz.prog 30 [.str s] (.int .i64 (zDF s)) := by
 have h1 := cutNeg s (by omega)
 have h2 := cutBar s hs
 obtain ⟨ln, ld⟩ := zPn s
 have h3 := zKP (zD5 s) (by omega)
 have h4 := zKP (zEA s) (by omega)
 have cn := @zDp (zD5 s)
 have cd := @zDp (zEA s)
 unfold zDF
 generalize zD5 s = n at *
 generalize zEA s = d at *
 generalize zF9 s = ok at *
 generalize zEg s = ng at *
 generalize zED s = b at *
 generalize zE9 n = p at *
 generalize zE9 d = q at *
 refine zY.value0 (zK (P := Tryz.prog) (fn := Tryz.f30) Z Z (by kernel_rfl) Z (fun c hR hfix => ?_)) (fix := fun _ => False) (fun _ h => h) Z Z
 refine rn0 ?_
 refine zJ Z Z Z h1 ?_
 refine rn2 ?_
 refine zJ Z Z Z h2 ?_
 repeat (first | refine zB (zE rfl) ?_ | refine zB (zL rfl) ?_ | refine zD ?_ | refine zA ?_ | refine zB (zBG rfl rfl) ?_)
 by_cases hsyn : p = false ∨ (ok = true ∧ q = false) ∨ (ng = true ∧ n = [48])
 · rw [if_pos hsyn] at hR
   cases p
   · refine rn0 ?_
     refine zJ Z Z Z h3 ?_
     repeat (first | refine zB (zE rfl) ?_ | refine zB (zL rfl) ?_ | refine zD ?_ | refine zA ?_ | refine zR ?_ | refine zG rfl ?_ | refine zCX rfl rfl ?_ | refine zAv rfl rfl rfl ?_ | refine zAn rfl ?_ | refine zAh ?_ | refine zCJ ?_ | refine zB (zE2 rfl) ?_ | refine zB (zAM rfl rfl) ?_)
     exact zO hR Z Z
   · cases ok
     · obtain ⟨hng, hn⟩ : ng = true ∧ n = [48] := by simpa using hsyn
       subst hng
       subst hn
       refine rn0 ?_
       refine zJ Z Z Z h3 ?_
       refine rn6 ?_
       exact zO hR Z Z
     · cases q
       · refine rn0 ?_
         refine zJ Z Z Z h3 ?_
         refine rn5 ?_
         refine zJ Z Z Z h4 ?_
         repeat (first | refine zB (zE rfl) ?_ | refine zB (zL rfl) ?_ | refine zD ?_ | refine zA ?_ | refine zR ?_ | refine zG rfl ?_ | refine zAL rfl rfl ?_ | refine zCX rfl rfl ?_ | refine zAv rfl rfl rfl ?_ | refine zAn rfl ?_ | refine zAh ?_ | refine zCJ ?_ | refine zB (zE2 rfl) ?_ | refine zB (zAM rfl rfl) ?_)
         exact zO hR Z Z
       · obtain ⟨hng, hn⟩ : ng = true ∧ n = [48] := by simpa using hsyn
         subst hng
         subst hn
         refine rn0 ?_
         refine zJ Z Z Z h3 ?_
         refine rn5 ?_
         refine zJ Z Z Z h4 ?_
         refine rn6 ?_
         exact zO hR Z Z
 rw [if_neg hsyn] at hR
 apply zAP (H := []) [(5, .str n), (6, .str d), (7, .bool ok)]
 · intro fin
   cases p
   · exact absurd (.inl Z) hsyn
   cases ok
   · cases ng
     · refine rn0 ?_
       refine zJ Z Z Z h3 ?_
       repeat (first | refine zB (zE rfl) ?_ | refine zD ?_ | refine zA ?_ | refine zAL rfl rfl ?_ | refine zAv rfl rfl rfl ?_ | refine zr rfl ?_ | refine zi ?_ | refine zB (zE2 rfl) ?_ | refine zB (zAM rfl rfl) ?_)
       exact fin _ ⟨Z, Z, Z, trivial⟩
     · refine rn0 ?_
       refine zJ Z Z Z h3 ?_
       repeat (first | refine zB (zE rfl) ?_ | refine zD ?_ | refine zA ?_ | refine zAL rfl rfl ?_ | refine zAv rfl rfl rfl ?_ | refine zB (zE2 rfl) ?_ | refine zB (zAM rfl rfl) ?_ | refine zB (zGE rfl rfl) ?_)
       refine zF Z (fun h0 => absurd (.inr (.inr ⟨Z, h0⟩)) hsyn) (fun h0 => ?_)
       repeat (first | refine zA ?_ | refine zi ?_)
       exact fin _ ⟨Z, Z, Z, trivial⟩
   · cases q
     · exact absurd (.inr (.inl ⟨Z, Z⟩)) hsyn
     cases ng
     · refine rn0 ?_
       refine zJ Z Z Z h3 ?_
       refine rn5 ?_
       refine zJ Z Z Z h4 ?_
       repeat (first | refine zB (zE rfl) ?_ | refine zD ?_ | refine zA ?_ | refine zAL rfl rfl ?_ | refine zAv rfl rfl rfl ?_ | refine zr rfl ?_ | refine zi ?_ | refine zB (zE2 rfl) ?_ | refine zB (zAM rfl rfl) ?_)
       exact fin _ ⟨Z, Z, Z, trivial⟩
     · refine rn0 ?_
       refine zJ Z Z Z h3 ?_
       refine rn5 ?_
       refine zJ Z Z Z h4 ?_
       repeat (first | refine zB (zE rfl) ?_ | refine zD ?_ | refine zA ?_ | refine zAL rfl rfl ?_ | refine zB (zE2 rfl) ?_ | refine zB (zAM rfl rfl) ?_ | refine zB (zGE rfl rfl) ?_)
       refine zF Z (fun h0 => absurd (.inr (.inr ⟨Z, h0⟩)) hsyn) (fun h0 => ?_)
       repeat (first | refine zA ?_ | refine zi ?_)
       exact fin _ ⟨Z, Z, Z, trivial⟩
 by_cases hl : 2000 < n.length ∨ 2000 < d.length
 · rw [if_pos hl] at hR
   refine rn6 ?_
   refine zAz Z Z (fun h5 => ?_) (fun h5 => ?_)
   · refine rn6 ?_
     exact zO hR Z Z
   · refine rn6 ?_
     refine zF Z (fun h0 => ?_) (fun h0 => absurd hl (by omega))
     refine rn2 ?_
     exact zO hR Z Z
 rw [if_neg hl] at hR
 refine rn6 ?_
 refine zAz Z Z (fun h5 => absurd hl (by omega)) (fun h5 => ?_)
 refine rn6 ?_
 refine zF Z (fun h0 => absurd hl (by omega)) (fun h0 => ?_)
 cases ok
 · rw [if_neg (fun h => Bool.false_ne_true h.1)] at hR
   repeat (first | refine zB (zE rfl) ?_ | refine zB (zL rfl) ?_ | refine zD ?_ | refine zA ?_ | refine zR ?_ | refine zG rfl ?_ | refine zCX rfl rfl ?_ | refine zAv rfl rfl rfl ?_ | refine zr rfl ?_ | refine zi ?_ | refine zAh ?_ | refine zB (zAM rfl rfl) ?_)
   exact zO hR Z Z
 have hp : p = true := by cases p; exact absurd (.inl rfl) hsyn; rfl
 have hq : q = true := by cases q; exact absurd (.inr (.inl ⟨rfl, rfl⟩)) hsyn; rfl
 have c1 := cn.1 hp
 have c2 := cd.1 hq
 have h6 := zIz n c1.2.1 (by omega)
 have h7 := zIz d c2.2.1 (by omega)
 have v1 : (zX (zBA 0 n)).length ≤ 2000 := zN3 c1 (by omega)
 have v2 : (zX (zBA 0 d)).length ≤ 2000 := zN3 c2 (by omega)
 have h8 := zNH (zBA 0 n) (zBA 0 d) (by omega) (by omega)
 have h9 := one_ok (Nat.gcd (zBA 0 n) (zBA 0 d))
 refine rn6 ?_
 refine zAz Z Z (fun h10 => ?_) (fun h10 => ?_)
 · rw [if_pos ⟨rfl, .inl h10⟩] at hR
   refine rn6 ?_
   exact zO hR Z Z
 · refine rn6 ?_
   refine zAz Z Z (fun h11 => ?_) (fun h11 => ?_)
   · rw [if_pos ⟨rfl, .inr (.inl h11)⟩] at hR
     refine rn6 ?_
     exact zO hR Z Z
   · by_cases hg : Nat.gcd (zBA 0 n) (zBA 0 d) = 1
     · rw [decide_eq_true hg] at h9
       rw [if_neg (fun h => by rcases h.2 with e | e | e; exact h10 e; exact h11 e; exact e hg)] at hR
       refine rn2 ?_
       refine zJ Z Z Z h6 ?_
       refine rn2 ?_
       refine zJ Z Z Z h7 ?_
       repeat (refine zAL rfl rfl ?_)
       refine zJ Z Z Z h8 ?_
       repeat (refine zAL rfl rfl ?_)
       refine zJ Z Z Z h9 ?_
       refine rn5 ?_
       exact zO hR Z Z
     · rw [decide_eq_false hg] at h9
       rw [if_pos ⟨rfl, .inr (.inr hg)⟩] at hR
       refine rn2 ?_
       refine zJ Z Z Z h6 ?_
       refine rn2 ?_
       refine zJ Z Z Z h7 ?_
       repeat (refine zAL rfl rfl ?_)
       refine zJ Z Z Z h8 ?_
       repeat (refine zAL rfl rfl ?_)
       refine zJ Z Z Z h9 ?_
       refine rn5 ?_
       exact zO hR Z Z
theorem zFW {α : Type} {l : List α} {d : α} {k : Nat} (h : k < l.length) : l.drop k = l.getD k d :: l.drop (k + 1) := by
 rw [List.drop_eq_getElem_cons h]; simp [List.getD, h]
theorem zMA (l : List (List UInt8)) (hlen : l.length ≤ 9223372036854775807) (hs : ∀ s ∈ l, s.length ≤ 9223372036854775807) : zZ Tryz.prog 88 [.ro (.strs l) 0 l.length] (.int .i64 (zJk l)) := by
 refine zY.value0 (zK (P := Tryz.prog) (fn := Tryz.f88) Z Z (by kernel_rfl) Z (fun c hR hfix => ?_)) (fix := fun _ => False) (fun _ h => h) Z Z
 refine rn3 ?_
 refine zt (ι := Nat) (fun k => [(0, .ro (.strs l) 0 l.length), (6, .ro (.strs l) 0 l.length), (7, .int .i64 (l.length : Nat)), (8, .int .i64 (k : Nat))]) (fun _ => [])
   (fun k => k ≤ l.length ∧ zJk l = zJk (l.drop k)) (fun k => l.length - k) 0 ⟨⟨rfl, rfl, rfl, rfl, trivial⟩, rfl, Nat.zero_le _, by rw [List.drop_zero]⟩ ?_
 intro k ⟨hk, hE⟩
 refine rn4 ?_
 refine zF Z (fun h => ?_) (fun h => ?_)
 · have hk' : k < l.length := by omega
   have hd := zFW (d := []) hk'
   have hc := zKL (l.getD k []) (hs _ (zBh [] hk'))
   rw [hd, zJk] at hE
   repeat (first | refine zB (zE rfl) ?_ | refine zB (zL rfl) ?_ | refine zD ?_ | refine zA ?_ | refine zR ?_ | refine zG rfl ?_ | refine zb ?_ | refine zi ?_ | refine zB (zHF rfl rfl rfl) ?_ | refine zB (zAN rfl rfl rfl rfl (by first | (simp only [Nat.zero_add, Int.toNat_natCast, Int.toNat_zero]; exact rfl) | exact rfl) (by omega)) ?_)
   refine zJ Z Z Z hc ?_
   refine rn3 ?_
   refine zF Z (fun h2 => ?_) (fun h2 => ?_)
   · rw [if_neg h2] at hE
     refine rn6 ?_
     refine zO hR Z ?_
     rw [hE]; rfl
   · rw [if_pos (Classical.not_not.1 h2)] at hE
     refine rn5 ?_
     refine zQ ⟨k + 1, ⟨by omega, hE⟩, by omega, ⟨Z, Z, Z, Z, trivial⟩, Z⟩
 · have hk' : k = l.length := by omega
   subst hk'
   rw [List.drop_length] at hE
   refine rn5 ?_
   refine zO hR Z ?_
   rw [hE]; rfl
section
variable {α : Type}
theorem zL0 (d : α) (n : Nat) (e : α → List AV) (ls : List α) (s : α) (cx : Cells) (h0 : ∀ j, j < n → cx.at 0 j = (e s).getD j .any) (i j : Nat) (hi : i < ls.length + 1) (hj : j < n) :
   (bif Nat.blt i ls.length then (zDV d n e ls).at i j else cx.at (0 + (i - ls.length)) j) = (zDV d n e (ls ++ [s])).at i j := by
 rcases Nat.lt_or_ge i ls.length with h | h
 · have e1 : Nat.blt i ls.length = true := by rw [Nat.blt_eq]; exact h
   rw [e1]
   simp only [zDV, Cells.at, cond_true, List.getD, List.getElem?_append_left h]
 · have hie : i = ls.length := by omega
   have e1 : Nat.blt i ls.length = false := by rw [← Bool.not_eq_true, Nat.blt_eq]; omega
   subst hie
   rw [e1]
   simp only [cond_false, Nat.sub_self, Nat.zero_add]
   rw [h0 j hj]
   simp [zDV, Cells.at, List.getD]
theorem zBx (d : α) (n : Nat) (e : α → List AV) (ls : List α) (s : α) (cx : Cells) (h0 : ∀ j, j < n → cx.at 0 j = (e s).getD j .any) :
   CEq (.fn (ls.length + 1) n (fun i j => bif Nat.blt i ls.length then (zDV d n e ls).at i j else cx.at (0 + (i - ls.length)) j)) (zDV d n e (ls ++ [s])) := by
 refine ⟨by simp [zDV, Cells.len], Z, fun i j hi hj => ?_⟩
 exact (zL0 d n e ls s cx h0 i j hi hj).symm
theorem zBg (d : α) (n : Nat) (e : α → List AV) (hn : ∀ a j h, j < n → ((e a).getD j .any).forget h = (e a).getD j .any) (ls : List α) (s : α) (cx : Cells) (h0 : ∀ j, j < n → cx.at 0 j = (e s).getD j .any) (h i j : Nat) (hi : i < ls.length + 1) (hj : j < n) :
   (bif Nat.blt i ls.length then (zDV d n e ls).at i j else cx.at (0 + (i - ls.length)) j).forget h = (bif Nat.blt i ls.length then (zDV d n e ls).at i j else cx.at (0 + (i - ls.length)) j) := by
 rw [zL0 d n e ls s cx h0 i j hi hj]; exact hn _ _ _ hj
theorem zB7 {β : Type} (f : α → β) (l : List α) (d : α) (k : Nat) (hk : k < l.length) : (l.take (k + 1)).map f = (l.take k).map f ++ [f (l.getD k d)] := by
 rw [List.take_succ_eq_append_getElem hk, List.map_append]; simp [List.getD, hk]
end
def z7 (q : Rat) : List AV := [.bool (decide (q.num < 0)), zj q.num.natAbs, zj q.den]
abbrev qsC (l : List Rat) : Cells := zDV 0 3 z7 l
theorem zBj (q : Rat) (j h : Nat) (hj : j < 3) : ((z7 q).getD j .any).forget h = (z7 q).getD j .any := by
 match j, hj with
 | 0, _ => rfl
 | 1, _ => rfl
 | 2, _ => rfl
theorem zBm (l : List Rat) : zAJ (qsC l) := by
 intro i j _ hj
 show noRef ((z7 (l.getD i 0)).getD j .any) = true
 have hj : j < 3 := hj
 match j, hj with
 | 0, _ => rfl
 | 1, _ => rfl
 | 2, _ => rfl
theorem zEF (q : Rat) (j : Nat) (hj : j < 3) : (zB9 1 3 [.bool (decide (q.num < 0)), zj q.num.natAbs, zj q.den]).at 0 j = (z7 q).getD j .any := by
 match j, hj with
 | 0, _ => rfl
 | 1, _ => rfl
 | 2, _ => rfl
theorem in_ok (l : List (List UInt8)) (hlen : l.length ≤ 1000000) (hs : ∀ s ∈ l, s.length ≤ 9223372036854775807 ∧ zDF s = 0) : zZ Tryz.prog 104 [.ro (.strs l) 0 l.length] (.ro (qsC (l.map zAT)) 0 l.length) := by
 refine zY.value0 (zK (P := Tryz.prog) (fn := Tryz.f104) Z Z (by kernel_rfl) Z (fun c hR hfix => ?_)) (fix := fun _ => False) (fun _ h => h) Z Z
 repeat (first | refine zB (zE rfl) ?_ | refine zB (zL rfl) ?_ | refine zD ?_ | refine zA ?_ | refine zR ?_ | refine zG rfl ?_ | refine zB (zAR rfl rfl rfl) ?_)
 refine zBH 3 ⟨122, qsC []⟩ Z Z ?_
 repeat (refine zb ?_)
 refine zt (ι := Nat) (fun k => [(0, .ro (.strs l) 0 l.length), (3, .sl 0 0 k), (6, .ro (.strs l) 0 l.length), (7, .int .i64 (l.length : Nat)), (8, .int .i64 (k : Nat))]) (fun k => [some ⟨122, qsC ((l.take k).map zAT)⟩])
   (fun k => k ≤ l.length) (fun k => l.length - k) 0 ⟨⟨rfl, rfl, rfl, rfl, rfl, trivial⟩, rfl, Nat.zero_le _⟩ ?_
 intro k hk
 refine rn4 ?_
 refine zF Z (fun h => ?_) (fun h => ?_)
 · have hk' : k < l.length := by omega
   obtain ⟨b1, b2⟩ := hs _ (zBh [] hk')
   have hc := zHl (l.getD k []) b1 b2
   have htk := zB7 zAT l [] k hk'
   have hml : ((l.take k).map zAT).length = k := by rw [List.length_map, List.length_take]; omega
   generalize (l.take k).map zAT = qs at *
   repeat (first | refine zB (zE rfl) ?_ | refine zB (zL rfl) ?_ | refine zD ?_ | refine zA ?_ | refine zR ?_ | refine zG rfl ?_ | refine zb ?_ | refine zi ?_ | refine zB (zHF rfl rfl rfl) ?_ | refine zB (zAN rfl rfl rfl rfl (by first | (simp only [Nat.zero_add, Int.toNat_natCast, Int.toNat_zero]; exact rfl) | exact rfl) (by omega)) ?_)
   refine zJ Z Z Z hc ?_
   unfold qA
   repeat (refine zh rfl rfl rfl rfl rfl rfl rfl rfl rfl rfl rfl ?_)
   refine zAS Z Z Z Z Z Z Z Z Z hml Z Z (by show 0 + 1 ≤ 1; omega) Z (by show (k + 1) * 56 ≤ _ ∧ _; omega) ?_ (by rw [hfix]; exact fun h => h) ?_
   · intro i' j hi hj
     exact zBg 0 3 z7 zBj qs (zAT (l.getD k [])) _ (zEF _) 0 i' j hi hj
   repeat (first | refine zB (zL rfl) ?_ | refine zD ?_ | refine zc ?_)
   refine zA ?_
   refine zBe [some ⟨122, qsC ((l.take (k + 1)).map zAT)⟩] ?_ ?_
   · rw [htk]
     exact zn.eqv (zBx 0 3 z7 qs (zAT (l.getD k [])) _ (zEF _)) zn.nil
   refine rn3 ?_
   exact zQ ⟨k + 1, by omega, by omega, ⟨Z, Z, Z, Z, Z, trivial⟩, Z⟩
 · have hk' : k = l.length := by omega
   subst hk'
   rw [List.take_length]
   repeat (first | refine zA ?_ | refine zR ?_ | refine zAg ?_ | refine zw ?_ | refine zv ?_ | refine zAD ?_)
   refine zBM 0 3 l.length [] Z (zBm _) Z (by show _ ≤ (l.map zAT).length; rw [List.length_map]; exact Nat.le_refl _) trivial ?_
   refine rn0 ?_
   exact zO hR Z Z
end Go.Proofs.YtnkealfaldjipaaGreatDoor
namespace Go.Proofs.YtnkealfaldjipaaGreatDoor
open Go.Ax Go.Ax.Bg Go.Ax.Rt Go.RowKit
attribute [local irreducible] Ax zBR QOp zY zBK
set_option maxRecDepth 100000
set_option maxHeartbeats 4000000
open Go.Ax.Idx Go.Ax.Cd
theorem zNC (l : List Rat) (hlen : l.length ≤ 1000000) (hs : ∀ q ∈ l, Sz 100000 q) (hall : l.all zCZ = true) : zZ Tryz.prog 80 [.ro (qsC l) 0 l.length] (.tup [.ro (.strs (l.map zu)) 0 l.length, .int .i64 0]) := by
 refine zY.value0 (zK (P := Tryz.prog) (fn := Tryz.f80) Z Z (by kernel_rfl) Z (fun c hR hfix => ?_)) (fix := fun _ => False) (fun _ h => h) Z Z
 repeat (first | refine zB (zE rfl) ?_ | refine zB (zL rfl) ?_ | refine zD ?_ | refine zA ?_ | refine zR ?_ | refine zG rfl ?_ | refine zB (zAR rfl rfl rfl) ?_)
 refine zBH 4 ⟨27, .strs []⟩ Z Z ?_
 repeat (refine zb ?_)
 refine zt (ι := Nat) (fun k => [(0, .ro (qsC l) 0 l.length), (4, .sl 0 0 k), (9, .ro (qsC l) 0 l.length), (10, .int .i64 (l.length : Nat)), (11, .int .i64 (k : Nat))]) (fun k => [some ⟨27, .strs ((l.take k).map zu)⟩])
   (fun k => k ≤ l.length ∧ (l.drop k).all zCZ = true) (fun k => l.length - k) 0 ⟨⟨rfl, rfl, rfl, rfl, rfl, trivial⟩, rfl, Nat.zero_le _, hall⟩ ?_
 rintro k ⟨hk, hA⟩
 refine rn4 ?_
 refine zF Z (fun h => ?_) (fun h => ?_)
 · have hk' : k < l.length := by omega
   have hz := hs _ (zBh 0 hk')
   have hd := zFW (d := (0 : Rat)) hk'
   rw [hd, List.all_cons] at hA
   have htk := zB7 zu l 0 k hk'
   have hml : ((l.take k).map zu).length = k := by rw [List.length_map, List.length_take]; omega
   generalize hX : (l.take k).map zu = ts at *
   refine rn6 ?_
   refine zH 14 (.agg (z7 (l.getD k 0))) Z (AEq.of_eq Z) ?_
   generalize l.getD k 0 = q at *
   refine zU (c' := .box (z7 q)) Z Z Z Z Z Nat.zero_lt_one Z Z (fun i' j' hi' hj' => ?_) ?_
   · rw [if_pos (Nat.lt_one_iff.1 hi')]; rfl
   rw [Bool.and_eq_true] at hA
   have hc := zK4 q hz hA.1
   refine rn6 ?_
   refine zJ Z Z Z hc ?_
   refine rn4 ?_
   refine zAS Z Z Z Z Z Z Z Z Z hml Z Z (by show 0 + 1 ≤ 1; omega) Z (by show (k + 1) * 16 ≤ _ ∧ _; omega) (fun i j _ _ => rfl) (by rw [hfix]; exact fun h => h) ?_
   repeat (first | refine zB (zL rfl) ?_ | refine zD ?_ | refine zc ?_)
   refine zA ?_
   refine zBe ([some ⟨27, .strs ((l.take (k + 1)).map zu)⟩] ++ [none]) ?_ ?_
   · rw [htk]
     exact zn.eqv (CEq.refl _) (zn.drop zn.nil)
   refine zEt (H1 := [some ⟨27, .strs ((l.take (k + 1)).map zu)⟩]) Z (by rw [hfix]; exact fun h => h) ?_
   refine rn3 ?_
   exact zQ ⟨k + 1, ⟨by omega, hA.2⟩, by omega, ⟨Z, Z, Z, Z, Z, trivial⟩, Z⟩
 · have hk' : k = l.length := by omega
   subst hk'
   rw [List.take_length]
   repeat (first | refine zA ?_ | refine zR ?_ | refine zAg ?_ | refine zw ?_ | refine zv ?_ | refine zAD ?_)
   refine zBM 0 4 l.length [] Z (fun _ _ _ _ => rfl) Z (by show _ ≤ (l.map zu).length; rw [List.length_map]; exact Nat.le_refl _) trivial ?_
   refine rn0 ?_
   exact zO hR Z Z
theorem zOo (l : List Rat) (hlen : l.length ≤ 1000000) (hs : ∀ q ∈ l, Sz 100000 q) (hall : l.all zCZ = false) : zZ Tryz.prog 80 [.ro (qsC l) 0 l.length] (.tup [.nil, .int .i64 2]) := by
 refine zY.value0 (zK (P := Tryz.prog) (fn := Tryz.f80) Z Z (by kernel_rfl) Z (fun c hR hfix => ?_)) (fix := fun _ => False) (fun _ h => h) Z Z
 repeat (first | refine zB (zE rfl) ?_ | refine zB (zL rfl) ?_ | refine zD ?_ | refine zA ?_ | refine zR ?_ | refine zG rfl ?_ | refine zB (zAR rfl rfl rfl) ?_)
 refine zBH 4 ⟨27, .strs []⟩ Z Z ?_
 repeat (refine zb ?_)
 refine zt (ι := Nat) (fun k => [(0, .ro (qsC l) 0 l.length), (4, .sl 0 0 k), (9, .ro (qsC l) 0 l.length), (10, .int .i64 (l.length : Nat)), (11, .int .i64 (k : Nat))]) (fun k => [some ⟨27, .strs ((l.take k).map zu)⟩])
   (fun k => k ≤ l.length ∧ (l.drop k).all zCZ = false) (fun k => l.length - k) 0 ⟨⟨rfl, rfl, rfl, rfl, rfl, trivial⟩, rfl, Nat.zero_le _, hall⟩ ?_
 rintro k ⟨hk, hA⟩
 refine rn4 ?_
 refine zF Z (fun h => ?_) (fun h => ?_)
 · have hk' : k < l.length := by omega
   have hz := hs _ (zBh 0 hk')
   have hd := zFW (d := (0 : Rat)) hk'
   rw [hd, List.all_cons] at hA
   have htk := zB7 zu l 0 k hk'
   have hml : ((l.take k).map zu).length = k := by rw [List.length_map, List.length_take]; omega
   generalize hX : (l.take k).map zu = ts at *
   refine rn6 ?_
   refine zH 14 (.agg (z7 (l.getD k 0))) Z (AEq.of_eq Z) ?_
   generalize l.getD k 0 = q at *
   refine zU (c' := .box (z7 q)) Z Z Z Z Z Nat.zero_lt_one Z Z (fun i' j' hi' hj' => ?_) ?_
   · rw [if_pos (Nat.lt_one_iff.1 hi')]; rfl
   cases hf : zCZ q
   · have hc := out_no q hz hf
     refine rn6 ?_
     refine zJ Z Z Z hc ?_
     refine rn6 ?_
     exact zO hR Z Z
   · have hc := zK4 q hz hf
     rw [hf, Bool.true_and] at hA
     refine rn6 ?_
     refine zJ Z Z Z hc ?_
     refine rn4 ?_
     refine zAS Z Z Z Z Z Z Z Z Z hml Z Z (by show 0 + 1 ≤ 1; omega) Z (by show (k + 1) * 16 ≤ _ ∧ _; omega) (fun i j _ _ => rfl) (by rw [hfix]; exact fun h => h) ?_
     repeat (first | refine zB (zL rfl) ?_ | refine zD ?_ | refine zc ?_)
     refine zA ?_
     refine zBe ([some ⟨27, .strs ((l.take (k + 1)).map zu)⟩] ++ [none]) ?_ ?_
     · rw [htk]
       exact zn.eqv (CEq.refl _) (zn.drop zn.nil)
     refine zEt (H1 := [some ⟨27, .strs ((l.take (k + 1)).map zu)⟩]) Z (by rw [hfix]; exact fun h => h) ?_
     refine rn3 ?_
     exact zQ ⟨k + 1, ⟨by omega, hA⟩, by omega, ⟨Z, Z, Z, Z, Z, trivial⟩, Z⟩
 · have hk' : k = l.length := by omega
   subst hk'
   rw [List.drop_length] at hA
   exact absurd hA (by decide)
end Go.Proofs.YtnkealfaldjipaaGreatDoor
namespace Go.Proofs.YtnkealfaldjipaaGreatDoor
open Go.Ax Go.Ax.Bg Go.Ax.Rt Go.RowKit
attribute [local irreducible] Ax zBR QOp zY zBK
set_option maxRecDepth 100000
set_option maxHeartbeats 4000000
theorem zIr : zZ Tryz.prog 85 [.int .i64 0] (qA 0) := qof_ok 0 (by decide)
theorem of_one : zZ Tryz.prog 85 [.int .i64 1] (qA 1) := qof_ok 1 (by decide)
theorem zL6 {q : Rat} : sgn q.num = 0 ↔ q = 0 := by
 rw [← Rat.num_eq_zero]
 unfold sgn
 split
 · omega
 · split <;> omega
end Go.Proofs.YtnkealfaldjipaaGreatDoor
namespace Go.Ax.Rt
open Go.Ax.Bg
theorem Parts.fit {s : List UInt8} {q : Rat} (h : Parts s q) : zCZ q = true := by
 unfold zCZ
 rw [Bool.and_eq_true, decide_eq_true_eq, decide_eq_true_eq, h.num, h.den, zFX, zFO h.cn]
 refine ⟨h.ln, ?_⟩
 cases e : zF9 s
 · rw [zHS e, Lib.decDigits_one (by decide)]; decide
 · rw [zGR e, zFO (h.cd e).1]; exact h.ld
/-- A text that spells q. -/
def IsQ (s : List UInt8) (q : Rat) : Prop := zDF s = 0 ∧ zAT s = q
instance (s : List UInt8) (q : Rat) : Decidable (IsQ s q) := inferInstanceAs (Decidable (_ ∧ _))
theorem IsQ.self {s : List UInt8} (h : zDF s = 0) : IsQ s (zAT s) := ⟨h, rfl⟩
theorem IsQ.text {s : List UInt8} {q : Rat} (h : IsQ s q) : zu q = s := by
 have := (zGn h.1).text
 rwa [h.2] at this
theorem IsQ.fit {s : List UInt8} {q : Rat} (h : IsQ s q) : zCZ q = true := by
 have := (zGn h.1).fit
 rwa [h.2] at this
theorem zLD {q : Rat} (h : zCZ q = true) : IsQ (zu q) q := rat_of h
/-- Numbers of at most so many digits. -/
def D (k : Nat) (q : Rat) : Prop := q.num.natAbs < 10 ^ k ∧ q.den < 10 ^ k
theorem D.mono {j k : Nat} {q : Rat} (h : D j q) (hk : j ≤ k) : D k q :=
 ⟨Nat.lt_of_lt_of_le h.1 (Nat.pow_le_pow_right (by decide) hk), Nat.lt_of_lt_of_le h.2 (Nat.pow_le_pow_right (by decide) hk)⟩
theorem D.fit {k : Nat} {q : Rat} (h : D k q) (hk : k ≤ 2000) : zCZ q = true := by
 unfold zCZ
 rw [Bool.and_eq_true, decide_eq_true_eq, decide_eq_true_eq]
 exact ⟨TB_len (lt_big h.1 hk), TB_len (lt_big h.2 hk)⟩
theorem IsQ.dig {s : List UInt8} {q : Rat} (h : IsQ s q) {k : Nat} (hk : s.length ≤ k) (h1 : 1 ≤ k) : D k q := by
 have ht := h.text
 have hl : (zu q).length ≤ k := by rw [ht]; exact hk
 unfold zu at hl
 rw [List.length_append, List.length_append] at hl
 refine ⟨Nat.lt_of_lt_of_le (zFV _) (Nat.pow_le_pow_right (by decide) (by omega)), ?_⟩
 by_cases hd : q.den = 1
 · rw [hd]
   exact Nat.lt_of_lt_of_le (show 1 < 10 ^ 1 by decide) (Nat.pow_le_pow_right (by decide) h1)
 · rw [if_neg hd, List.length_cons] at hl
   exact Nat.lt_of_lt_of_le (zFV _) (Nat.pow_le_pow_right (by decide) (by omega))
theorem zGM {n d : Int} {k : Nat} (hd : d ≠ 0) (h1 : n.natAbs < 10 ^ k) (h2 : d.natAbs < 10 ^ k) : D k (Rat.divInt n d) := by
 obtain ⟨e1, e2, _⟩ := zJo n d hd
 refine ⟨?_, ?_⟩
 · rw [e1]; exact Nat.lt_of_le_of_lt (Nat.div_le_self _ _) h1
 · rw [e2]; exact Nat.lt_of_le_of_lt (Nat.div_le_self _ _) h2
theorem D.add {p q : Rat} {j k : Nat} (hp : D j p) (hq : D k q) : D (j + k + 1) (p + q) := by
 rw [← zMP]
 have a1 := zHX hp.1 hq.2
 have a2 := zHX hq.1 hp.2
 rw [Nat.add_comm k j] at a2
 have a3 := zHX hp.2 hq.2
 refine zGM (by have := Nat.mul_ne_zero p.den_nz q.den_nz; omega) ?_ ?_
 · have h := Int.natAbs_add_le (p.num * q.den) (q.num * p.den)
   rw [Int.natAbs_mul, Int.natAbs_mul, Int.natAbs_natCast, Int.natAbs_natCast] at h
   exact Nat.lt_of_le_of_lt h (add_big a1 a2)
 · rw [Int.natAbs_natCast]
   exact Nat.lt_of_lt_of_le a3 (Nat.pow_le_pow_right (by decide) (by omega))
theorem D.mul {p q : Rat} {j k : Nat} (hp : D j p) (hq : D k q) : D (j + k) (p * q) := by
 rw [← zLk]
 refine zGM (by have := Nat.mul_ne_zero p.den_nz q.den_nz; omega) ?_ ?_
 · rw [Int.natAbs_mul]; exact zHX hp.1 hq.1
 · rw [Int.natAbs_natCast]; exact zHX hp.2 hq.2
theorem div_one (q : Rat) : q / 1 = q := by
 have := Rat.mul_div_cancel (a := q) (b := 1) (by decide)
 rwa [Rat.mul_one] at this
theorem zEQ {s : List UInt8} (h : zDF s = 0) : zEg s = false ↔ 0 ≤ zAT s := by
 have hp := zGn h
 have h1 := zJa (zEg s) (zBA 0 (zD5 s))
 rw [← hp.num] at h1
 rw [← Rat.num_nonneg]
 cases e : zEg s
 · rw [e] at h1; simp at h1; simpa using h1
 · have h2 : (zAT s).num < 0 := by
     have h3 := hp.ng e
     rw [e] at h1
     simpa [h3] using h1
   exact ⟨fun q => absurd q (by decide), fun q => absurd h2 (by omega)⟩
def zD2 (f : Nat → Rat) : Nat → Rat
 | 0 => 0
 | n + 1 => zD2 f n + f n
theorem zEd {f g : Nat → Rat} : ∀ {n : Nat}, (∀ i, i < n → f i = g i) → zD2 f n = zD2 g n
 | 0, _ => rfl
 | n + 1, h => by rw [zD2, zD2, zEd (fun i hi => h i (by omega)), h n (by omega)]
theorem zJe (c : Rat) (f : Nat → Rat) : ∀ n : Nat, zD2 (fun i => c * f i) n = c * zD2 f n
 | 0 => by rw [zD2, zD2, Rat.mul_zero]
 | n + 1 => by rw [zD2, zD2, zJe c f n, Rat.mul_add]
theorem zFb (c : Rat) (f : Nat → Rat) : ∀ n : Nat, zD2 (fun i => f i * c) n = zD2 f n * c
 | 0 => by rw [zD2, zD2, Rat.zero_mul]
 | n + 1 => by rw [zD2, zD2, zFb c f n, Rat.add_mul]
theorem zNX {j : Nat} {f : Nat → Rat} : ∀ {n : Nat}, (∀ i, i < n → D j (f i)) → D (1 + n * (j + 1)) (zD2 f n)
 | 0, _ => by
   rw [Nat.zero_mul]
   exact ⟨by show (0 : Rat).num.natAbs < _; decide, by show (0 : Rat).den < _; decide⟩
 | n + 1, h => by
   rw [zD2]
   have := (zNX (n := n) (fun i hi => h i (by omega))).add (h n (by omega))
   refine this.mono ?_
   rw [Nat.add_mul]; omega
/-- The sum of the products. -/
def zAr (a b : List Rat) : Rat := zD2 (fun i => a.getD i 0 * b.getD i 0) a.length
def zDH (m : List (List Rat)) (k : Nat) : List Rat := m.map (fun row => row.getD k 0)
def zHf (m : List (List Rat)) (w : Nat) : List (List Rat) := (List.range w).map (zDH m)
def mulQ (a b : List (List Rat)) (w : Nat) : List (List Rat) := a.map (fun row => (zHf b w).map (zAr row))
theorem colQ_get (m : List (List Rat)) (k i : Nat) : (zDH m k).getD i 0 = (m.getD i []).getD k 0 := by
 unfold zDH
 by_cases h : i < m.length
 · simp [List.getD, h]
 · simp [List.getD, h]
theorem zHh (m : List (List Rat)) (k : Nat) : (zDH m k).length = m.length := by simp [zDH]
theorem zOp (m : List (List Rat)) (w : Nat) : (zHf m w).length = w := by simp [zHf]
theorem zEn {α β : Type} (f : α → β) (l : List α) (d : α) (e : β) (i : Nat) (hi : i < l.length) : (l.map f).getD i e = f (l.getD i d) := by simp [List.getD, hi]
theorem zGB {a b : List Rat} {n : Nat} (h : a.length = n) : zAr a b = zD2 (fun i => a.getD i 0 * b.getD i 0) n := by unfold zAr; rw [h]
theorem dotQ_D {a b : List Rat} {j k : Nat} (ha : ∀ x ∈ a, D j x) (hb : ∀ x ∈ b, D k x) (hl : a.length ≤ b.length) : D (1 + a.length * (j + k + 1)) (zAr a b) := by
 refine zNX (fun i hi => (ha _ (by simp [List.getD, hi])).mul (hb _ (by simp [List.getD, show i < b.length by omega])))
abbrev zAX := List UInt8
def zCb (v : List zAX) : Int := if 40 < v.length then 2 else zJk v
def zJn (w : Nat) : List (List zAX) → Int
 | [] => 0
 | r :: rs => if r.length = w then (if zCb r = 0 then zJn w rs else zCb r) else 3
def zIo (m : List (List zAX)) : Nat := (m.getD 0 []).length
/-- matrix.Check -/
def zJd (m : List (List zAX)) : Int := if 40 < m.length then 2 else zJn (zIo m) m
def inM (m : List (List zAX)) : List (List Rat) := m.map (fun r => r.map zAT)
def outM (q : List (List Rat)) : List (List zAX) × Int := if q.all (fun r => r.all zCZ) then (q.map (fun r => r.map zu), 0) else ([], 2)
def mulR (a b : List (List zAX)) : List (List zAX) × Int := if zJd a ≠ 0 then ([], zJd a) else if zJd b ≠ 0 then ([], zJd b) else if zIo a = b.length then outM (mulQ (inM a) (inM b) (zIo b)) else ([], 3)
theorem zBf {v : List zAX} (h : zCb v = 0) : v.length ≤ 40 ∧ zJk v = 0 := by
 unfold zCb at h
 split at h
 · cases h
 · exact ⟨by omega, h⟩
theorem zJU {w : Nat} : ∀ {m : List (List zAX)}, zJn w m = 0 → ∀ r ∈ m, r.length = w ∧ zCb r = 0
 | [], _, r, hr => by simp at hr
 | a :: m, h, r, hr => by
   rw [zJn] at h
   split at h
   · rename_i h1
     split at h
     · rename_i h2
       rcases List.mem_cons.1 hr with rfl | hr
       · exact ⟨h1, h2⟩
       · exact zJU h r hr
     · contradiction
   · cases h
/-- A valid matrix of so many rows and columns. -/
structure IsM (m : List (List zAX)) (p q : Nat) : Prop where
 rows : m.length = p
 cols : ∀ r ∈ m, r.length = q
 sp : p ≤ 40
 sq : m ≠ [] → q ≤ 40
 ok : ∀ r ∈ m, ∀ s ∈ r, zDF s = 0
theorem zPX {m : List (List zAX)} (h : zJd m = 0) : IsM m m.length (zIo m) := by
 unfold zJd at h
 split at h
 · cases h
 · have h1 := zJU h
   refine ⟨Z, fun r hr => (h1 r hr).1, by omega, fun hne => ?_, fun r hr s hs => zCk (zBf (h1 r hr).2).2 s hs⟩
   obtain ⟨a, m', rfl⟩ := List.exists_cons_of_ne_nil hne
   have h2 := h1 a (by simp)
   have := (zBf h2.2).1
   omega
/-- Short texts. -/
def zJG (n k : Nat) (m : List (List zAX)) : Bool := decide (m.length ≤ n) && m.all (fun v => decide (v.length ≤ n) && v.all (fun s => decide (s.length ≤ k)))
theorem zIE {n k : Nat} {m : List (List zAX)} (h : zJG n k m = true) : m.length ≤ n ∧ ∀ v ∈ m, v.length ≤ n ∧ ∀ s ∈ v, s.length ≤ k := by
 unfold zJG at h
 simp only [Bool.and_eq_true, decide_eq_true_eq, List.all_eq_true] at h
 exact ⟨h.1, fun v hv => ⟨(h.2 v hv).1, fun s hs => (h.2 v hv).2 s hs⟩⟩
theorem zJ8 {n k : Nat} {m : List (List zAX)} (h : zJG n k m = true) : m.length ≤ n ∧ (∀ v ∈ m, v.length ≤ n) ∧ ∀ v ∈ m, ∀ s ∈ v, s.length ≤ k :=
 ⟨(zIE h).1, fun v hv => ((zIE h).2 v hv).1, fun v hv => ((zIE h).2 v hv).2⟩
/-- The product of short valid matrices. -/
structure Prod (a b : List (List zAX)) (t : List (List zAX)) (p q r K : Nat) : Prop where
 res : mulR a b = (t, 0)
 ok : IsM t p r
 val : inM t = mulQ (inM a) (inM b) r
 dig : ∀ x ∈ inM t, ∀ y ∈ x, D K y
end Go.Ax.Rt
namespace Go.Proofs.YtnkealfaldjipaaGreatDoor
open Go.Ax Go.Ax.Bg Go.Ax.Rt Go.RowKit
attribute [local irreducible] Ax zBR QOp zY zBK
set_option maxRecDepth 100000
set_option maxHeartbeats 4000000
def cellS (r : List zAX) : List AV := [.ro (.strs r) 0 r.length]
def zIX (r : List Rat) : List AV := [.ro (qsC r) 0 r.length]
abbrev zA3 (m : List (List zAX)) : Cells := zDV [] 1 cellS m
abbrev zq (m : List (List Rat)) : Cells := zDV [] 1 zIX m
theorem zEu (r : List Rat) (j h : Nat) (hj : j < 1) : ((zIX r).getD j .any).forget h = (zIX r).getD j .any := by
 obtain rfl : j = 0 := by omega
 rfl
theorem zG1 (m : List (List Rat)) : zAJ (zq m) := by
 intro i j _ hj
 obtain rfl : j = 0 := by have hj : j < 1 := hj; omega
 rfl
theorem rowR1 (q : List Rat) (j : Nat) (hj : j < 1) : (zB9 1 1 [.ro (qsC q) 0 q.length]).at 0 j = (zIX q).getD j .any := by
 obtain rfl : j = 0 := by omega
 rfl
theorem zH6 (v : List zAX) (hlen : v.length ≤ 9223372036854775807) (hs : ∀ s ∈ v, s.length ≤ 9223372036854775807) : zZ Tryz.prog 58 [.ro (.strs v) 0 v.length] (.int .i64 (zCb v)) := by
 have h1 := zMA v hlen hs
 unfold zCb
 refine zY.value0 (zK (P := Tryz.prog) (fn := Tryz.f58) Z Z (by kernel_rfl) Z (fun c hR hfix => ?_)) (fix := fun _ => False) (fun _ h => h) Z Z
 refine rn6 ?_
 refine zF Z (fun h => ?_) (fun h => ?_)
 · rw [if_pos (by omega)] at hR
   refine rn2 ?_
   exact zO hR Z Z
 · rw [if_neg (by omega)] at hR
   refine rn1 ?_
   refine zJ Z Z Z h1 ?_
   refine rn0 ?_
   exact zO hR Z Z
theorem zO0 (m : List (List zAX)) (hlen : m.length ≤ 9223372036854775807) (hr : ∀ r ∈ m, r.length ≤ 9223372036854775807 ∧ ∀ s ∈ r, s.length ≤ 9223372036854775807) : zZ Tryz.prog 120 [.ro (zA3 m) 0 m.length] (.int .i64 (zJd m)) := by
 unfold zJd
 refine zY.value0 (zK (P := Tryz.prog) (fn := Tryz.f120) Z Z (by kernel_rfl) Z (fun c hR hfix => ?_)) (fix := fun _ => False) (fun _ h => h) Z Z
 refine rn6 ?_
 refine zF Z (fun h => ?_) (fun h => ?_)
 · rw [if_pos (by omega)] at hR
   refine rn2 ?_
   exact zO hR Z Z
 rw [if_neg (by omega)] at hR
 refine rn3 ?_
 refine zt (ι := Nat) (fun k => [(0, .ro (zA3 m) 0 m.length), (9, .ro (zA3 m) 0 m.length), (10, .int .i64 (m.length : Nat)), (11, .int .i64 (k : Nat))]) (fun _ => [])
   (fun k => k ≤ m.length ∧ zJn (zIo m) m = zJn (zIo m) (m.drop k)) (fun k => m.length - k) 0 ⟨⟨rfl, rfl, rfl, rfl, trivial⟩, rfl, Nat.zero_le _, by rw [List.drop_zero]⟩ ?_
 intro k ⟨hk, hE⟩
 refine rn4 ?_
 refine zF Z (fun h => ?_) (fun h => ?_)
 · have hk' : k < m.length := by omega
   have hm : 0 < m.length := by omega
   have hd := zFW (d := []) hk'
   have hc := zH6 (m.getD k []) (hr _ (zBh [] hk')).1 (hr _ (zBh [] hk')).2
   rw [hd, zJn] at hE
   refine rn6 ?_
   refine zF Z (fun h2 => ?_) (fun h2 => ?_)
   · have h3 : ¬ (m.getD k []).length = zIo m := fun e => h2 (by show (((m.getD k []).length : Nat) : Int) = ((zIo m : Nat) : Int); omega)
     rw [if_neg h3] at hE
     rw [hE] at hR
     refine rn6 ?_
     exact zO hR Z Z
   · have h3 : (m.getD k []).length = zIo m := by
       have h4 : (((m.getD k []).length : Nat) : Int) = ((zIo m : Nat) : Int) := Classical.not_not.1 h2
       omega
     rw [if_pos h3] at hE
     refine rn1 ?_
     refine zJ Z Z Z hc ?_
     refine rn3 ?_
     refine zF Z (fun h5 => ?_) (fun h5 => ?_)
     · rw [if_neg h5] at hE
       rw [hE] at hR
       refine rn6 ?_
       exact zO hR Z Z
     · rw [if_pos (Classical.not_not.1 h5)] at hE
       refine rn5 ?_
       exact zQ ⟨k + 1, ⟨by omega, hE⟩, by omega, ⟨Z, Z, Z, Z, trivial⟩, Z⟩
 · have hk' : k = m.length := by omega
   subst hk'
   rw [List.drop_length] at hE
   rw [hE] at hR
   refine rn5 ?_
   exact zO hR Z Z
theorem zLR (l : List zAX) (hlen : l.length ≤ 1000000) (hs : ∀ s ∈ l, s.length ≤ 9223372036854775807 ∧ zDF s = 0) : zZ Tryz.prog 104 [.ro (.strs l) 0 l.length] (.ro (qsC (l.map zAT)) 0 (l.map zAT).length) := by
 have := in_ok l hlen hs
 rwa [List.length_map]
theorem min_ok (m : List (List zAX)) (hlen : m.length ≤ 1000000) (hr : ∀ r ∈ m, r.length ≤ 1000000 ∧ ∀ s ∈ r, s.length ≤ 9223372036854775807 ∧ zDF s = 0) : zZ Tryz.prog 124 [.ro (zA3 m) 0 m.length] (.ro (zq (inM m)) 0 m.length) := by
 refine zY.value0 (zK (P := Tryz.prog) (fn := Tryz.f124) Z Z (by kernel_rfl) Z (fun c hR hfix => ?_)) (fix := fun _ => False) (fun _ h => h) Z Z
 repeat (first | refine zB (zE rfl) ?_ | refine zB (zL rfl) ?_ | refine zD ?_ | refine zA ?_ | refine zR ?_ | refine zG rfl ?_ | refine zB (zAR rfl rfl rfl) ?_)
 refine zBH 3 ⟨135, zq []⟩ Z Z ?_
 repeat (refine zb ?_)
 refine zt (ι := Nat) (fun k => [(0, .ro (zA3 m) 0 m.length), (3, .sl 0 0 k), (6, .ro (zA3 m) 0 m.length), (7, .int .i64 (m.length : Nat)), (8, .int .i64 (k : Nat))]) (fun k => [some ⟨135, zq ((m.take k).map (fun r => r.map zAT))⟩])
   (fun k => k ≤ m.length) (fun k => m.length - k) 0 ⟨⟨rfl, rfl, rfl, rfl, rfl, trivial⟩, rfl, Nat.zero_le _⟩ ?_
 intro k hk
 refine rn4 ?_
 refine zF Z (fun h => ?_) (fun h => ?_)
 · have hk' : k < m.length := by omega
   obtain ⟨b1, b2⟩ := hr _ (zBh [] hk')
   have hc := zLR (m.getD k []) b1 b2
   have htk := zB7 (fun r : List zAX => r.map zAT) m [] k hk'
   have hml : ((m.take k).map (fun r : List zAX => r.map zAT)).length = k := by rw [List.length_map, List.length_take]; omega
   generalize (m.take k).map (fun r : List zAX => r.map zAT) = qs at *
   generalize (m.getD k []).map zAT = q at *
   refine rn6 ?_
   refine zJ Z Z Z hc ?_
   repeat (refine zh rfl rfl rfl rfl rfl rfl rfl rfl rfl rfl rfl ?_)
   refine zAS Z Z Z Z Z Z Z Z Z hml Z Z (by show 0 + 1 ≤ 1; omega) Z (by show (k + 1) * 24 ≤ _ ∧ _; omega) ?_ (by rw [hfix]; exact fun h => h) ?_
   · intro i' j hi hj
     exact zBg [] 1 zIX zEu qs q _ (rowR1 _) 0 i' j hi hj
   repeat (first | refine zB (zL rfl) ?_ | refine zD ?_ | refine zc ?_)
   refine zA ?_
   refine zBe [some ⟨135, zq ((m.take (k + 1)).map (fun r => r.map zAT))⟩] ?_ ?_
   · rw [htk]
     exact zn.eqv (zBx [] 1 zIX qs q _ (rowR1 _)) zn.nil
   refine rn3 ?_
   exact zQ ⟨k + 1, by omega, by omega, ⟨Z, Z, Z, Z, Z, trivial⟩, Z⟩
 · have hk' : k = m.length := by omega
   subst hk'
   rw [List.take_length]
   repeat (first | refine zA ?_ | refine zR ?_ | refine zAg ?_ | refine zw ?_ | refine zv ?_ | refine zAD ?_)
   refine zBM 0 3 m.length [] Z (zG1 _) Z (by show _ ≤ (m.map _).length; rw [List.length_map]; exact Nat.le_refl _) trivial ?_
   refine rn0 ?_
   exact zO hR Z Z
theorem zGx {m : Nat} {q : Rat} (h : D (9 * m) q) : Sz m q := by
 have key : ∀ n : Nat, n < 10 ^ (9 * m) → (zX n).length ≤ m := fun n hn => by
   refine zAs (Nat.lt_of_lt_of_le hn ?_)
   rw [Nat.pow_mul]
   exact Nat.pow_le_pow_left (by decide) m
 exact ⟨key _ h.1, key _ h.2⟩
theorem dot_ok (a b : List Rat) (j k : Nat) (ha : ∀ q ∈ a, D j q) (hb : ∀ q ∈ b, D k q) (hl : a.length ≤ b.length) (hal : b.length ≤ 1000000) (hK : 1 + a.length * (j + k + 1) ≤ 900000) : zZ Tryz.prog 125 [.ro (qsC a) 0 a.length, .ro (qsC b) 0 b.length] (qA (zAr a b)) := by
 refine zY.value0 (zK (P := Tryz.prog) (fn := Tryz.f125) Z Z (by kernel_rfl) Z (fun c hR hfix => ?_)) (fix := fun _ => False) (fun _ h => h) Z Z
 refine rn4 ?_
 refine zJ Z Z Z zIr ?_
 repeat (refine zAe rfl rfl rfl ?_)
 refine zU (c' := .box (z7 0)) Z Z Z Z Z Nat.zero_lt_one Z Z (fun i' j' hi' hj' => ?_) ?_
 · rw [if_pos (Nat.lt_one_iff.1 hi')]; rfl
 refine rn3 ?_
 refine zt (ι := Nat × Rat) (fun p => [(0, .ro (qsC a) 0 a.length), (1, .ro (qsC b) 0 b.length), (4, .ptr 0 0 0), (5, .ptr 1 0 0), (9, .ro (qsC a) 0 a.length), (10, .int .i64 (a.length : Nat)), (11, .int .i64 (p.1 : Nat))]) (fun p => [some ⟨122, .box [.bool false, .nil, .nil]⟩, some ⟨122, .box (z7 p.2)⟩])
   (fun p => p.1 ≤ a.length ∧ p.2 = zD2 (fun i => a.getD i 0 * b.getD i 0) p.1) (fun p => a.length - p.1) (0, 0) ⟨⟨rfl, rfl, rfl, rfl, rfl, rfl, rfl, trivial⟩, rfl, Nat.zero_le _, rfl⟩ ?_
 rintro ⟨i, acc⟩ ⟨hi, hA⟩
 simp only at *
 have hterm : ∀ i', i' < a.length → D (j + k) (a.getD i' 0 * b.getD i' 0) := fun i' h' => (ha _ (zBh 0 h')).mul (hb _ (zBh 0 (by omega)))
 have hDa : D (1 + i * (j + k + 1)) acc := by rw [hA]; exact zNX (fun i' h' => hterm i' (by omega))
 have hb1 : i * (j + k + 1) ≤ a.length * (j + k + 1) := Nat.mul_le_mul_right _ hi
 refine rn4 ?_
 refine zF Z (fun h => ?_) (fun h => ?_)
 · have hi' : i < a.length := by omega
   have hib : i < b.length := by omega
   have hm := hterm i hi'
   have hx := ha _ (zBh 0 hi')
   have hy := hb _ (zBh 0 hib)
   have hsz1 : Sz 100000 (a.getD i 0) := zGx (hx.mono (by have := Nat.le_mul_of_pos_left (j + k + 1) (show 0 < a.length by omega); omega))
   have hsz2 : Sz 100000 (b.getD i 0) := zGx (hy.mono (by have := Nat.le_mul_of_pos_left (j + k + 1) (show 0 < a.length by omega); omega))
   have hsz3 : Sz 100000 (a.getD i 0 * b.getD i 0) := zGx (hm.mono (by have := Nat.le_mul_of_pos_left (j + k + 1) (show 0 < a.length by omega); omega))
   have hsz4 : Sz 100000 acc := zGx (hDa.mono (by omega))
   have hnext : acc + a.getD i 0 * b.getD i 0 = zD2 (fun i => a.getD i 0 * b.getD i 0) (i + 1) := by rw [zD2, hA]
   refine rn6 ?_
   refine zH 15 (.agg (z7 (a.getD i 0))) Z (AEq.of_eq Z) ?_
   have e5 : b.getD i 0 = b.getD i 0 := rfl
   generalize hp : a.getD i 0 = p at *
   have g1 := zEb p
   refine zU (c' := .box (z7 p)) Z Z Z Z Z Nat.zero_lt_one Z Z (fun i' j' hi' hj' => ?_) ?_
   · rw [if_pos (Nat.lt_one_iff.1 hi')]; rfl
   refine rn6 ?_
   refine zJ Z Z Z g1 ?_
   refine rn3 ?_
   have hz : ∀ x : Rat, sgn x.num = 0 → x = 0 := fun x hx => zL6.1 hx
   generalize hq : b.getD i 0 = q at *
   have g2 := zEb q
   have g3 := zOf p q hsz1 hsz2
   have g4 := qadd_ok acc (p * q) hsz4 hsz3
   have g3' : zZ Tryz.prog 105 [qA p, qA (b.getD i 0)] (qA (p * q)) := by rw [hq]; exact g3
   refine zAz Z Z (fun h1 => ?_) (fun h1 => ?_)
   · refine rn6 ?_
     refine zH 23 (.agg (z7 q)) Z (AEq.of_eq (by rw [← hq]; rfl)) ?_
     refine zJ Z Z Z g2 ?_
     refine rn3 ?_
     refine zF Z (fun h2 => ?_) (fun h2 => ?_)
     · skip
       refine zx (by kernel_rfl) ?_
       refine z8 (fuel := 1) [0, 1, 2, 3, 4, 5, 6, 7] [(0, .ro (qsC a) 0 a.length), (1, .ro (qsC b) 0 b.length), (5, .ptr 1 0 0), (7, .ptr 2 0 0), (6, .int .i64 (i : Nat)), (4, .ptr 0 0 0), (9, .ro (qsC a) 0 a.length), (10, .int .i64 (a.length : Nat)), (11, .int .i64 (i : Nat))] ⟨Z, Z, Z, Z, Z, Z, Z, Z, Z, trivial⟩ (by kernel_rfl) (by decide) Z Z ?_
       refine zM Z Z (zp Z Z Z Z Z Z Z (by first | exact Nat.zero_lt_one | assumption | omega)) ?_
       refine zM Z Z (zp Z Z Z Z Z Z Z (by first | exact Nat.zero_lt_one | assumption | omega)) ?_
       refine zM Z Z (zE Z) ?_
       refine zM Z Z (zE Z) ?_
       refine zM Z Z (zAN Z Z Z Z (by first | (simp only [Nat.zero_add, Int.toNat_natCast, Int.toNat_zero]; exact Z) | exact Z) (by omega)) ?_
       refine zM Z Z (zBN Z Z Z Z Z Z) ?_
       refine zAf Z Z Z Z Z g3' ?_
       refine zAf Z Z Z Z Z g4 ?_
       refine zAC ?_
       refine zW (is := [8]) (by kernel_rfl) (by simp) Z ⟨fun o ho => ?_, trivial⟩
       all_goals (cases ho)
       skip
       unfold qA
       refine zU (c' := .box (z7 (acc + p * q))) Z Z Z Z Z Nat.zero_lt_one Z Z (fun i' j' hi' hj' => ?_) ?_
       · rw [if_pos (Nat.lt_one_iff.1 hi')]; rfl
       refine rn1 ?_
       refine zf (by kernel_rfl) ?_
       repeat (refine zc ?_)
       refine zA ?_
       refine zBe ([some ⟨122, .box [.bool false, .nil, .nil]⟩, some ⟨122, .box (z7 (acc + p * q))⟩] ++ [none]) ?_ ?_
       · exact zn.eqv (CEq.refl _) (zn.eqv (CEq.refl _) (zn.drop zn.nil))
       refine zEt (H1 := [some ⟨122, .box [.bool false, .nil, .nil]⟩, some ⟨122, .box (z7 (acc + p * q))⟩]) Z (by rw [hfix]; exact fun h => h) ?_
       refine rn3 ?_
       exact zQ ⟨(i + 1, (acc + p * q)), ⟨by simp only; omega, hnext⟩, by simp only; omega, ⟨Z, Z, Z, Z, Z, Z, Z, trivial⟩, Z⟩
     · have e0 : q = 0 := hz q (Classical.not_not.1 h2)
       rw [e0, Rat.mul_zero, Rat.add_zero] at hnext
       repeat (first | refine zc ?_ | refine zi ?_)
       refine zA ?_
       refine zBe ([some ⟨122, .box [.bool false, .nil, .nil]⟩, some ⟨122, .box (z7 acc)⟩] ++ [none]) ?_ ?_
       · exact zn.eqv (CEq.refl _) (zn.eqv (CEq.refl _) (zn.drop zn.nil))
       refine zEt (H1 := [some ⟨122, .box [.bool false, .nil, .nil]⟩, some ⟨122, .box (z7 acc)⟩]) Z (by rw [hfix]; exact fun h => h) ?_
       refine rn3 ?_
       exact zQ ⟨(i + 1, acc), ⟨by simp only; omega, hnext⟩, by simp only; omega, ⟨Z, Z, Z, Z, Z, Z, Z, trivial⟩, Z⟩
   · have e0 : p = 0 := hz p (Classical.not_not.1 h1)
     rw [e0, Rat.zero_mul, Rat.add_zero] at hnext
     repeat (first | refine zD ?_ | refine zAv rfl rfl rfl ?_ | refine zB (zAM rfl rfl) ?_)
     refine zA ?_
     refine zBe ([some ⟨122, .box [.bool false, .nil, .nil]⟩, some ⟨122, .box (z7 acc)⟩] ++ [none]) ?_ ?_
     · exact zn.eqv (CEq.refl _) (zn.eqv (CEq.refl _) (zn.drop zn.nil))
     refine zEt (H1 := [some ⟨122, .box [.bool false, .nil, .nil]⟩, some ⟨122, .box (z7 acc)⟩]) Z (by rw [hfix]; exact fun h => h) ?_
     refine rn5 ?_
     exact zQ ⟨(i + 1, acc), ⟨by simp only; omega, hnext⟩, by simp only; omega, ⟨Z, Z, Z, Z, Z, Z, Z, trivial⟩, Z⟩
 · have hi' : i = a.length := by omega
   subst hi'
   have e : zAr a b = acc := hA.symm
   rw [e] at hR
   refine rn6 ?_
   refine zU (c' := .box (z7 acc)) Z Z Z Z Z Nat.zero_lt_one Z Z (fun i' j' hi' hj' => ?_) ?_
   · rw [if_pos (Nat.lt_one_iff.1 hi')]; rfl
   refine rn0 ?_
   exact zO hR Z Z
theorem cols_ok (m : List (List Rat)) (w : Nat) (hlen : m.length ≤ 1000000) (hw : w ≤ 1000000) (hr : ∀ r ∈ m, r.length = w) : zZ Tryz.prog 174 [.ro (zq m) 0 m.length, .int .i64 (w : Nat)] (.ro (zq (zHf m w)) 0 w) := by
 refine zY.value0 (zK (P := Tryz.prog) (fn := Tryz.f174) Z Z (by kernel_rfl) Z (fun c hR hfix => ?_)) (fix := fun _ => False) (fun _ h => h) Z Z
 refine rn0 ?_
 refine zBH 5 ⟨135, zq []⟩ Z Z ?_
 repeat (refine zb ?_)
 refine zt (ι := Nat) (fun k => [(0, .ro (zq m) 0 m.length), (5, .sl 0 0 k), (10, .int .i64 (w : Nat)), (11, .int .i64 (k : Nat))]) (fun k => [some ⟨135, zq ((List.range k).map (zDH m))⟩])
   (fun k => k ≤ w) (fun k => w - k) 0 ⟨⟨rfl, rfl, rfl, rfl, trivial⟩, rfl, Nat.zero_le _⟩ ?_
 intro k hk
 refine rn4 ?_
 refine zF Z (fun h => ?_) (fun h => ?_)
 · have hk' : k < w := by omega
   repeat (first | refine zA ?_ | refine zR ?_ | refine zi ?_)
   refine zb ?_
   repeat (first | refine zB (zE rfl) ?_ | refine zB (zL rfl) ?_ | refine zD ?_ | refine zA ?_ | refine zR ?_ | refine zG rfl ?_ | refine zB (zAR rfl rfl rfl) ?_)
   refine zBH 7 ⟨122, qsC []⟩ Z Z ?_
   repeat (refine zb ?_)
   refine zt (ι := Nat) (fun j => [(0, .ro (zq m) 0 m.length), (5, .sl 0 0 k), (6, .int .i64 (k : Nat)), (7, .sl 1 0 j), (10, .int .i64 (w : Nat)), (11, .int .i64 (k : Nat)), (14, .ro (zq m) 0 m.length), (15, .int .i64 (m.length : Nat)), (16, .int .i64 (j : Nat))]) (fun j => [some ⟨135, zq ((List.range k).map (zDH m))⟩, some ⟨122, qsC (zDH (m.take j) k)⟩])
     (fun j => j ≤ m.length) (fun j => m.length - j) 0 ⟨⟨rfl, rfl, rfl, rfl, rfl, rfl, rfl, rfl, rfl, trivial⟩, rfl, Nat.zero_le _⟩ ?_
   intro j hj
   refine rn4 ?_
   refine zF Z (fun h2 => ?_) (fun h2 => ?_)
   · have hj' : j < m.length := by omega
     have hrl := hr _ (zBh [] hj')
     have htk : zDH (m.take (j + 1)) k = zDH (m.take j) k ++ [(m.getD j []).getD k 0] := zB7 (fun row : List Rat => row.getD k 0) m [] j hj'
     have hml : (zDH (m.take j) k).length = j := by rw [zHh, List.length_take]; omega
     generalize zDH (m.take j) k = qs at *
     generalize (List.range k).map (zDH m) = rs at *
     have hkr : k < (m.getD j []).length := by omega
     repeat (first | refine zB (zE rfl) ?_ | refine zB (zL rfl) ?_ | refine zD ?_ | refine zA ?_ | refine zR ?_ | refine zG rfl ?_ | refine zb ?_ | refine zi ?_ | refine zB (zCo rfl rfl rfl rfl) ?_ | refine zB (zAN rfl rfl rfl rfl (by first | (simp only [Nat.zero_add, Int.toNat_natCast, Int.toNat_zero]; exact rfl) | exact rfl) (by omega)) ?_ | refine zB (zBN rfl rfl rfl rfl rfl rfl) ?_)
     refine zH 24 (.agg (z7 ((m.getD j []).getD k 0))) Z (AEq.of_eq Z) ?_
     generalize (m.getD j []).getD k 0 = q at *
     repeat (refine zh rfl rfl rfl rfl rfl rfl rfl rfl rfl rfl rfl ?_)
     refine zAS Z Z Z Z Z Z Z Z Z hml Z Z (by show 0 + 1 ≤ 1; omega) Z (by show (j + 1) * 56 ≤ _ ∧ _; omega) ?_ (by rw [hfix]; exact fun h => h) ?_
     · intro i' j' hi hj'
       exact zBg 0 3 z7 zBj qs q _ (zEF _) 1 i' j' hi hj'
     repeat (first | refine zB (zL rfl) ?_ | refine zD ?_ | refine zc ?_)
     refine zA ?_
     refine zBe [some ⟨135, zq rs⟩, some ⟨122, qsC (zDH (m.take (j + 1)) k)⟩] ?_ ?_
     · rw [htk]
       exact zn.eqv ⟨Z, Z, fun i j _ hj => (zEu _ j _ hj).symm⟩ (zn.eqv (zBx 0 3 z7 qs q _ (zEF _)) zn.nil)
     refine rn3 ?_
     exact zQ ⟨j + 1, by omega, by omega, ⟨Z, Z, Z, Z, Z, Z, Z, Z, Z, trivial⟩, Z⟩
   · have hj' : j = m.length := by omega
     subst hj'
     rw [List.take_length]
     have hcl : (zDH m k).length = m.length := zHh m k
     have hml : ((List.range k).map (zDH m)).length = k := by simp
     have htk : (List.range (k + 1)).map (zDH m) = (List.range k).map (zDH m) ++ [zDH m k] := by rw [List.range_succ, List.map_append]; rfl
     generalize (List.range k).map (zDH m) = rs at *
     generalize zDH m k = col at *
     repeat (first | refine zA ?_ | refine zAg ?_ | refine zw ?_ | refine zv ?_ | refine zAD ?_)
     refine zBM 1 7 m.length [(0, .ro (zq m) 0 m.length), (5, .sl 0 0 k), (10, .int .i64 (w : Nat)), (11, .int .i64 (k : Nat))] Z (zBm _) Z (by show _ ≤ col.length; omega) ⟨Z, Z, Z, Z, trivial⟩ ?_
     refine zAp 7 (.ro (qsC col) 0 col.length) Z (AEq.of_eq (by rw [hcl])) ?_
     refine rn3 ?_
     refine zAS Z Z Z Z Z Z Z Z Z hml Z Z (by show 0 + 1 ≤ 1; omega) Z (by show (k + 1) * 24 ≤ _ ∧ _; omega) ?_ (by rw [hfix]; exact fun h => h) ?_
     · intro i' j hi hj
       exact zBg [] 1 zIX zEu rs col _ (rowR1 _) 0 i' j hi hj
     repeat (first | refine zB (zL rfl) ?_ | refine zD ?_ | refine zc ?_)
     refine zA ?_
     refine zBe ([some ⟨135, zq ((List.range (k + 1)).map (zDH m))⟩] ++ [none]) ?_ ?_
     · rw [htk]
       exact zn.eqv (zBx [] 1 zIX rs col _ (rowR1 _)) (zn.drop zn.nil)
     refine zEt (H1 := [some ⟨135, zq ((List.range (k + 1)).map (zDH m))⟩]) Z (by rw [hfix]; exact fun h => h) ?_
     refine zBe [some ⟨135, zq ((List.range (k + 1)).map (zDH m))⟩] ?_ ?_
     · exact zn.eqv ⟨Z, Z, fun i j _ hj => (zEu _ j _ hj).symm⟩ zn.nil
     refine rn3 ?_
     exact zQ ⟨k + 1, by omega, by omega, ⟨Z, Z, Z, Z, trivial⟩, Z⟩
 · have hk' : k = w := by omega
   subst hk'
   repeat (first | refine zA ?_ | refine zR ?_ | refine zAg ?_ | refine zw ?_ | refine zv ?_ | refine zAD ?_)
   refine zBM 0 5 k [] Z (zG1 _) Z (by show _ ≤ (List.map _ _).length; simp) trivial ?_
   refine rn0 ?_
   exact zO hR Z Z
theorem zMr (l : List Rat) (hlen : l.length ≤ 1000000) (hs : ∀ q ∈ l, Sz 100000 q) (hall : l.all zCZ = true) : zZ Tryz.prog 80 [.ro (qsC l) 0 l.length] (.tup [.ro (.strs (l.map zu)) 0 (l.map zu).length, .int .i64 0]) := by
 have := zNC l hlen hs hall
 rwa [List.length_map]
theorem len_D {k : Nat} {q : Rat} (h1 : (Lib.decDigits q.num.natAbs).length ≤ k) (h2 : (Lib.decDigits q.den).length ≤ k) : D k q :=
 ⟨Nat.lt_of_lt_of_le (zFV _) (Nat.pow_le_pow_right (by decide) h1), Nat.lt_of_lt_of_le (zFV _) (Nat.pow_le_pow_right (by decide) h2)⟩
theorem zFj {r : List zAX} (h : ∀ s ∈ r, zDF s = 0) : ∀ q ∈ r.map zAT, D 2000 q := by
 intro q hq
 obtain ⟨s, hs, rfl⟩ := List.mem_map.1 hq
 have hf := (IsQ.self (h s hs)).fit
 unfold zCZ at hf
 rw [Bool.and_eq_true, decide_eq_true_eq, decide_eq_true_eq] at hf
 exact len_D hf.1 hf.2
theorem zPl (l : List Rat) (hlen : l.length ≤ 1000000) (hs : ∀ q ∈ l, Sz 100000 q) : ∃ r : AV, zZ Tryz.prog 80 [.ro (qsC l) 0 l.length] (.tup [r, .int .i64 (zE5 l).2]) ∧ AEq r (.ro (.strs (zE5 l).1) 0 (zE5 l).1.length) := by
 cases h : l.all zCZ
 · refine ⟨.nil, ?_, ?_⟩
   · have := zOo l hlen hs h
     unfold zE5; rw [h]; exact this
   · unfold zE5; rw [h]; exact AEq.nil
 · refine ⟨_, ?_, AEq.rfl'⟩
   have := zMr l hlen hs h
   unfold zE5; rw [h]; exact this
end Go.Proofs.YtnkealfaldjipaaGreatDoor
